/- Part 4 of the proof: laws and contracts of functions, each proved; they are joined in the last part. No conditions beyond those that the theorems state. -/
import Derived.Test.YtagikldfacbonaaGreatDoorProg
import Derived.Test.YtagikldfacbonaaGreatDoorSi3
set_option linter.all false
namespace Go.Ve
noncomputable section
open Go.Proofs
set_option linter.unusedSimpArgs false
set_option linter.unusedVariables false
set_option maxRecDepth 100000
open Go.ChangeShapes Go.WideShapes
/-- What is left when a list is counted, and each of its parts. -/
def szS {α : Type} (f : α → Int → Int) (l : List α) (a : Int) : Int := l.foldl (fun a x => f x a) (V6 a l.length)
def Vu (s : ByteArray) (a : Int) : Int := V6 a s.toList.length
def Qmz {α : Type} (f : α → Int → Int) : Prop := ∀ x a, a ≤ 1048576 → (f x a = -1 ∨ 0 ≤ f x a) ∧ (a < 0 → f x a = -1) ∧ f x a ≤ max a (-1)
def chk (x : Int) (k : Int → Int) : Int := if x < 0 then -1 else k x
def Meas1 (g : Int → Int) : Prop := ∀ a, a ≤ 1048576 → (g a = -1 ∨ 0 ≤ g a) ∧ (a < 0 → g a = -1) ∧ g a ≤ max a (-1)
def QqG (g : Int → Int) : Prop := ∀ a, 0 ≤ a → a ≤ 1048576 → (g a = -1 ∨ 0 ≤ g a) ∧ g a ≤ a
theorem Meas1.p {g : Int → Int} (h : Meas1 g) : QqG g := fun a h0 h1 => ⟨(h a h1).1, by have := (h a h1).2.2; omega⟩
theorem QbY : QqG fun z => z := fun a h0 h1 => ⟨.inr h0, Int.le_refl a⟩
theorem Qhf {k : Int → Int} (n : Nat) (h : QqG k) : Meas1 fun a => chk (a - n) k := fun a ha => by
  simp only [chk]
  split
  · exact ⟨.inl rfl, fun _ => rfl, by omega⟩
  · rename_i h1
    have := h (a - n) (by omega) (by omega)
    exact ⟨this.1, fun _ => by omega, by omega⟩
theorem QmA {g k : Int → Int} (hg : Meas1 g) (h : QqG k) : Meas1 fun a => chk (g a) k := fun a ha => by
  have m := hg a ha
  simp only [chk]
  split
  · exact ⟨.inl rfl, fun _ => rfl, by omega⟩
  · rename_i h1
    have := h (g a) (by omega) (by omega)
    exact ⟨this.1, fun h2 => by have := m.2.1 h2; omega, by omega⟩
theorem Qc0 {x : Int} {k : Int → Int} (h : 0 ≤ chk x k) : 0 ≤ x ∧ 0 ≤ k x := by
  unfold chk at h; split at h
  · omega
  · exact ⟨by omega, h⟩
theorem Vv : Qmz Vu := fun x a _ => by unfold Vu V6; split <;> omega
theorem Qlt {α : Type} : Qmz (fun (l : List α) a => V6 a l.length) := fun x a _ => by simp only; unfold V6; split <;> omega
theorem Kl {α : Type} {f : α → Int → Int} (h : Qmz f) : ∀ (l : List α) (a : Int), a ≤ 1048576 → (a = -1 ∨ 0 ≤ a) → (l.foldl (fun a x => f x a) a = -1 ∨ 0 ≤ l.foldl (fun a x => f x a) a) ∧ (a < 0 → l.foldl (fun a x => f x a) a = -1) ∧ l.foldl (fun a x => f x a) a ≤ max a (-1)
  | [], a, h1, h2 => ⟨h2, fun h3 => by simp only [List.foldl_nil]; omega, by simp only [List.foldl_nil]; omega⟩
  | x :: l, a, h1, h2 => by
    obtain ⟨k1, k2, k3⟩ := h x a h1
    obtain ⟨i1, i2, i3⟩ := Kl h l (f x a) (by omega) k1
    simp only [List.foldl_cons]
    exact ⟨i1, fun h3 => i2 (by have := k2 h3; omega), by omega⟩
theorem KZ {α : Type} {f : α → Int → Int} (h : Qmz f) : Qmz (szS f) := fun l a ha => by
  unfold szS
  have h0 : (V6 a l.length = -1 ∨ 0 ≤ V6 a l.length) ∧ (a < 0 → V6 a l.length = -1) ∧ V6 a l.length ≤ max a (-1) := by unfold V6; split <;> omega
  obtain ⟨i1, i2, i3⟩ := Kl h l (V6 a l.length) (by omega) h0.1
  exact ⟨i1, fun h3 => i2 (by have := h0.2.1 h3; omega), by omega⟩
/-- A list that was counted is small, and so are its parts. -/
theorem Qn1 {α : Type} {f : α → Int → Int} {p : α → Prop} (h : Qmz f) (hp : ∀ x a, a ≤ 1048576 → 0 ≤ f x a → p x) : ∀ (l : List α) (a : Int), a ≤ 1048576 → (a = -1 ∨ 0 ≤ a) → 0 ≤ l.foldl (fun a x => f x a) a → ∀ x ∈ l, p x
  | [], _, _, _, _, x, hx => by simp at hx
  | y :: l, a, h1, h2, h3, x, hx => by
    simp only [List.foldl_cons] at h3
    obtain ⟨k1, k2, k3⟩ := h y a h1
    have hy : 0 ≤ f y a := by
      rcases k1 with k1 | k1
      · have := (Kl h l (f y a) (by omega) (.inl k1)).2.1 (by omega); omega
      · exact k1
    rcases List.mem_cons.1 hx with rfl | hx
    · exact hp _ a h1 hy
    · exact Qn1 h hp l (f y a) (by omega) (.inr hy) h3 x hx
theorem QiR {α : Type} {f : α → Int → Int} {p : α → Prop} (h : Qmz f) (hp : ∀ x a, a ≤ 1048576 → 0 ≤ f x a → p x) {l : List α} {a : Int} (ha : a ≤ 1048576) (h0 : 0 ≤ szS f l a) : l.length ≤ 1048576 ∧ ∀ x ∈ l, p x := by
  unfold szS at h0
  have hs : (V6 a l.length = -1 ∨ 0 ≤ V6 a l.length) ∧ V6 a l.length ≤ 1048576 := by unfold V6; split <;> omega
  refine ⟨?_, Qn1 h hp l _ hs.2 hs.1 h0⟩
  rcases hs.1 with e | e
  · have := (Kl h l _ hs.2 (.inl e)).2.1 (by omega); omega
  · unfold V6 at e; split at e <;> omega
theorem QsR {a : Int} {n : Nat} (ha : a ≤ 1048576) (h0 : 0 ≤ V6 a n) : n ≤ 1048576 := by unfold V6 at h0; split at h0 <;> omega
/-- One more part of a list. -/
theorem Vf {α : Type} [Inhabited α] {f : α → Int → Int} {l : List α} {i : Nat} {a : Int} (hi : i < l.length) : (l.take (i + 1)).foldl (fun a x => f x a) a = f (l.getD i default) ((l.take i).foldl (fun a x => f x a) a) := by
  have e : l.getD i default = l[i] := by simp [hi]
  rw [e, List.take_succ_eq_append_getElem hi, List.foldl_append]; rfl
theorem WL {α : Type} [Inhabited α] {f : α → Int → Int} (h : Qmz f) {l : List α} {i : Nat} {a : Int} (hi : i < l.length) (ha : a ≤ 1048576) (h0 : a = -1 ∨ 0 ≤ a) (hn : f (l.getD i default) ((l.take i).foldl (fun a x => f x a) a) < 0) : l.foldl (fun a x => f x a) a = -1 := by
  rw [← Vf (f := f) hi] at hn
  have e : l.foldl (fun a x => f x a) a = (l.drop (i + 1)).foldl (fun a x => f x a) ((l.take (i + 1)).foldl (fun a x => f x a) a) := by
    rw [← List.foldl_append, List.take_append_drop]
  rw [e]
  have k := Kl h (l.take (i + 1)) a ha h0
  exact (Kl h _ _ (by omega) k.1).2.1 hn
theorem Vg {α : Type} {f : α → List AV} {p : α → Prop} {rs : List LSh} (h : ∀ r, KF rs r → ∃ x : α, r = f x ∧ p x) : ∀ {rows : List (List AV)}, (∀ r ∈ rows, KF rs r) → ∃ l : List α, rows = l.map f ∧ ∀ x ∈ l, p x
  | [], _ => ⟨[], rfl, by simp⟩
  | r :: rows, k => by
    obtain ⟨x, rfl, hx⟩ := h r (k r (by simp))
    obtain ⟨l, rfl, hl⟩ := Vg h (rows := rows) fun r' h' => k r' (by simp [h'])
    exact ⟨x :: l, rfl, by simpa using ⟨hx, hl⟩⟩
theorem JD {α : Type} [Inhabited α] {l : List α} {i : Nat} (h : i < l.length) : l.getD i default ∈ l := by simp [h]
def Pt.fitp (s : Pt) : Prop := s.nm.toList.length ≤ 9223372036854775807
def Pt.sz (s : Pt) (z0 : Int) : Int := chk (z0 - (s.nm.toList.length : Nat)) (fun z1 => z1)
theorem QaR : Qmz Pt.sz := fun s => Qhf _ (QbY)
def Rw.fitp (s : Rw) : Prop := s.nm.toList.length ≤ 9223372036854775807
def Rw.sz (s : Rw) (z0 : Int) : Int := chk (z0 - (s.nm.toList.length : Nat)) (fun z1 => z1)
theorem QaS : Qmz Rw.sz := fun s => Qhf _ (QbY)
def Aw.fitp (s : Aw) : Prop := s.nm.toList.length ≤ 9223372036854775807 ∧ (s.pts.length ≤ 9223372036854775807 ∧ ∀ y ∈ s.pts, y.toList.length ≤ 9223372036854775807)
def Aw.sz (s : Aw) (z0 : Int) : Int := chk (z0 - (s.nm.toList.length : Nat)) (fun z1 => chk (szS Vu s.pts z1) (fun z2 => z2))
theorem QaT : Qmz Aw.sz := fun s => Qhf _ (Meas1.p (QmA (fun a => KZ Vv s.pts a) (QbY)))
theorem Aw.sz_ok {s : Aw} {a : Int} (ha : a ≤ 1048576) (h : 0 ≤ s.sz a) : s.small := by
  unfold Aw.sz at h
  have b0 : a ≤ 1048576 := ha
  obtain ⟨p0, h⟩ := Qc0 h
  have b1 : (a) - (s.nm.toList.length : Nat) ≤ 1048576 := by omega
  obtain ⟨p1, h⟩ := Qc0 h
  have b2 : szS Vu s.pts ((a) - (s.nm.toList.length : Nat)) ≤ 1048576 := by have := (KZ Vv s.pts ((a) - (s.nm.toList.length : Nat)) b1).2.2; omega
  have k1 := QiR (p := fun _ => True) Vv (fun _ _ _ _ => trivial) b1 p1
  exact k1.1
def Sec.fitp (s : Sec) : Prop := s.nm.toList.length ≤ 9223372036854775807 ∧ s.bl.length ≤ 9223372036854775807
def Sec.sz (s : Sec) (z0 : Int) : Int := chk (z0 - (s.nm.toList.length : Nat)) (fun z1 => chk (V6 z1 s.bl.length) (fun z2 => z2))
theorem Vw : Qmz Sec.sz := fun s => Qhf _ (Meas1.p (QmA (fun a => Qlt s.bl a) (QbY)))
theorem Sec.sz_ok {s : Sec} {a : Int} (ha : a ≤ 1048576) (h : 0 ≤ s.sz a) : s.small := by
  unfold Sec.sz at h
  have b0 : a ≤ 1048576 := ha
  obtain ⟨p0, h⟩ := Qc0 h
  have b1 : (a) - (s.nm.toList.length : Nat) ≤ 1048576 := by omega
  obtain ⟨p1, h⟩ := Qc0 h
  have b2 : V6 ((a) - (s.nm.toList.length : Nat)) s.bl.length ≤ 1048576 := by have := (Qlt s.bl ((a) - (s.nm.toList.length : Nat)) b1).2.2; simp only at this; omega
  have k1 := QsR b1 p1
  exact k1
def Sky.fitp (s : Sky) : Prop := (s.pts.length ≤ 9223372036854775807 ∧ ∀ y ∈ s.pts, y.fitp) ∧ (s.aws.length ≤ 9223372036854775807 ∧ ∀ y ∈ s.aws, y.fitp) ∧ (s.secs.length ≤ 9223372036854775807 ∧ ∀ y ∈ s.secs, y.fitp) ∧ (s.rws.length ≤ 9223372036854775807 ∧ ∀ y ∈ s.rws, y.fitp)
def Sky.sz (s : Sky) (z0 : Int) : Int := chk (szS Pt.sz s.pts z0) (fun z1 => chk (szS Aw.sz s.aws z1) (fun z2 => chk (szS Sec.sz s.secs z2) (fun z3 => chk (szS Rw.sz s.rws z3) (fun z4 => z4))))
theorem QqH : Qmz Sky.sz := fun s => QmA (fun a => KZ QaR s.pts a) (Meas1.p (QmA (fun a => KZ QaT s.aws a) (Meas1.p (QmA (fun a => KZ Vw s.secs a) (Meas1.p (QmA (fun a => KZ QaS s.rws a) (QbY)))))))
theorem Sky.sz_ok {s : Sky} {a : Int} (ha : a ≤ 1048576) (h : 0 ≤ s.sz a) : s.small := by
  unfold Sky.sz at h
  have b0 : a ≤ 1048576 := ha
  obtain ⟨p0, h⟩ := Qc0 h
  have b1 : szS Pt.sz s.pts (a) ≤ 1048576 := by have := (KZ QaR s.pts (a) b0).2.2; omega
  have k0 := QiR (p := fun _ => True) QaR (fun _ _ _ _ => trivial) b0 p0
  obtain ⟨p1, h⟩ := Qc0 h
  have b2 : szS Aw.sz s.aws (szS Pt.sz s.pts (a)) ≤ 1048576 := by have := (KZ QaT s.aws (szS Pt.sz s.pts (a)) b1).2.2; omega
  have k1 := QiR (p := fun y => Aw.small y) QaT (fun x a h1 h2 => Aw.sz_ok h1 h2) b1 p1
  obtain ⟨p2, h⟩ := Qc0 h
  have b3 : szS Sec.sz s.secs (szS Aw.sz s.aws (szS Pt.sz s.pts (a))) ≤ 1048576 := by have := (KZ Vw s.secs (szS Aw.sz s.aws (szS Pt.sz s.pts (a))) b2).2.2; omega
  have k2 := QiR (p := fun y => Sec.small y) Vw (fun x a h1 h2 => Sec.sz_ok h1 h2) b2 p2
  obtain ⟨p3, h⟩ := Qc0 h
  have b4 : szS Rw.sz s.rws (szS Sec.sz s.secs (szS Aw.sz s.aws (szS Pt.sz s.pts (a)))) ≤ 1048576 := by have := (KZ QaS s.rws (szS Sec.sz s.secs (szS Aw.sz s.aws (szS Pt.sz s.pts (a)))) b3).2.2; omega
  have k3 := QiR (p := fun _ => True) QaS (fun _ _ _ _ => trivial) b3 p3
  exact ⟨k0.1, k1, k2, k3.1⟩
theorem gv0 : Que 0 = .pp 97 Qa4 := by simp only [Que, Qvq, if_true]
theorem Qn2 {a b : ByteArray} : Xs (.str a) (.str b) = decide (a = b) := Qlg
def GA (c : Int × Int) : AV := .agg [.int .i64 c.1, .int .i64 c.2]
theorem QmB {a b : Int × Int} : Xs (GA a) (GA b) = decide (a = b) := by
  obtain ⟨a1, a2⟩ := a
  obtain ⟨b1, b2⟩ := b
  by_cases h : a1 = b1 <;> by_cases k : a2 = b2 <;> simp [Xs, GA, QcL, h, k]
theorem JT {s : ByteArray} : Qjm 0 (.str s) = (s.toList.length ≤ 9223372036854775807) := by
  rw [← J1]
  exact propext ⟨fun ⟨_, h, h2⟩ => by cases h; exact h2, fun h => ⟨s, rfl, h⟩⟩
theorem Qv6 {m : Int} : (Lit.int .i64 m).wf = decide (-9223372036854775808 ≤ m ∧ m ≤ 9223372036854775807) := by
  have h1 : IntKind.i64.min = -9223372036854775808 := by decide
  have h2 : IntKind.i64.max = 9223372036854775807 := by decide
  simp [Lit.wf, h1, h2, Bool.decide_and]
theorem JE {a b : Int} : Qjm 2 (.agg [.int .i64 a, .int .i64 b]) = ((-9223372036854775808 ≤ a ∧ a ≤ 9223372036854775807) ∧ -9223372036854775808 ≤ b ∧ b ≤ 9223372036854775807) := by
  refine propext ⟨fun ⟨ls, h, _, h2⟩ => ?_, fun ⟨h1, h2⟩ => ⟨_, rfl, rfl, fun y hy => ?_⟩⟩
  · cases h
    obtain ⟨m, h3, h4⟩ := h2 (.int .i64 a) (by simp)
    obtain ⟨m', h5, h6⟩ := h2 (.int .i64 b) (by simp)
    cases h3; cases h5
    rw [Qv6] at h4 h6
    exact ⟨of_decide_eq_true h4, of_decide_eq_true h6⟩
  · rcases List.mem_cons.1 hy with rfl | hy
    · exact ⟨a, rfl, by rw [Qv6]; exact decide_eq_true h1⟩
    · rcases List.mem_cons.1 hy with rfl | hy
      · exact ⟨b, rfl, by rw [Qv6]; exact decide_eq_true h2⟩
      · cases hy
/-- A map that is a set. -/
def V0 {κ : Type} (f : κ → AV) (l : List κ) : List (AV × AV) := l.foldl (fun es a => Qa3 es (f a) (.bool true)) []
def Qlu {κ : Type} (q : κ) (l : List κ) : Prop := q ∈ l
noncomputable instance {κ : Type} (q : κ) (l : List κ) : Decidable (Qlu q l) := Classical.propDecidable _
section
variable {κ : Type} {f : κ → AV} (inj : ∀ {a b}, Xs (f a) (f b) = true ↔ a = b)
include inj
theorem Qn3 (a : κ) : ∀ ks : List κ, ∃ ks' : List κ, Qa3 (ks.map fun k => (f k, .bool true)) (f a) (.bool true) = (ks'.map fun k => (f k, AV.bool true)) ∧ ∀ q, q ∈ ks' ↔ q ∈ ks ∨ q = a
  | [] => ⟨[a], rfl, by simp⟩
  | k :: ks => by
    by_cases h : k = a
    · subst h
      refine ⟨k :: ks, by simp only [List.map_cons, Qa3, inj.2 rfl, if_true], fun q => ?_⟩
      simp only [List.mem_cons]
      constructor
      · exact fun h => .inl h
      · rintro (h | rfl)
        · exact h
        · exact .inl rfl
    · obtain ⟨ks', h1, h2⟩ := Qn3 a ks
      have hn : ¬ Xs (f k) (f a) = true := fun e => h (inj.1 e)
      refine ⟨k :: ks', by simp only [List.map_cons, Qa3, h1, hn]; rfl, fun q => ?_⟩
      simp only [List.mem_cons, h2, or_assoc]
theorem Qlv (q : κ) : ∀ ks : List κ, W7 (ks.map fun k => (f k, AV.bool true)) (f q) (.bool false) = .bool (decide (Qlu q ks))
  | [] => by simp [W7, Qlu]
  | k :: ks => by
    simp only [List.map_cons, W7, Qlv q ks]
    by_cases h : k = q
    · subst h; simp [inj.2 rfl, Qlu]
    · have hn : ¬ Xs (f k) (f q) = true := fun e => h (inj.1 e)
      simp only [hn, Bool.false_eq_true, if_false, AV.bool.injEq, decide_eq_decide]
      simp only [Qlu, List.mem_cons, Ne.symm h, false_or]
theorem QmC (l : List κ) : ∃ ks : List κ, V0 f l = (ks.map fun k => (f k, AV.bool true)) ∧ ∀ q, q ∈ ks ↔ q ∈ l := by
  have key : ∀ (l ks : List κ), ∃ ks' : List κ, l.foldl (fun es a => Qa3 es (f a) (.bool true)) (ks.map fun k => (f k, AV.bool true)) = (ks'.map fun k => (f k, AV.bool true)) ∧ ∀ q, q ∈ ks' ↔ q ∈ ks ∨ q ∈ l := by
    intro l
    induction l with
    | nil => intro ks; exact ⟨ks, rfl, by simp⟩
    | cons a l ih =>
      intro ks
      simp only [List.foldl_cons]
      obtain ⟨k1, h1, h2⟩ := Qn3 inj a ks
      rw [h1]
      obtain ⟨ks', h3, h4⟩ := ih k1
      exact ⟨ks', h3, fun q => by rw [h4, h2, List.mem_cons, or_assoc]⟩
  obtain ⟨ks, h1, h2⟩ := key l []
  exact ⟨ks, h1, by simpa using h2⟩
theorem QfU (l : List κ) (q : κ) : W7 (V0 f l) (f q) (.bool false) = .bool (decide (Qlu q l)) := by
  obtain ⟨ks, h1, h2⟩ := QmC inj l
  rw [h1, Qlv inj]
  simp only [AV.bool.injEq, decide_eq_decide]
  exact h2 q
end
theorem JU {l : List ByteArray} {q : ByteArray} : W7 (V0 AV.str l) (.str q) (.bool false) = .bool (decide (Qlu q l)) := QfU (f := AV.str) (by intro a b; rw [Qn2]; simp) l q
theorem JF {l : List (Int × Int)} {a b : Int} : W7 (V0 GA l) (.agg [.int .i64 a, .int .i64 b]) (.bool false) = .bool (decide (Qlu (a, b) l)) := QfU (f := GA) (by intro a b; rw [QmB]; simp) l (a, b)
theorem J6 {l : List ByteArray} {q : ByteArray} : Qa3 (V0 AV.str l) (.str q) (.bool true) = V0 AV.str (l ++ [q]) := by simp [V0]
theorem JV {l : List (Int × Int)} {a b : Int} : Qa3 (V0 GA l) (.agg [.int .i64 a, .int .i64 b]) (.bool true) = V0 GA (l ++ [(a, b)]) := by simp [V0, GA]
theorem Vx {α β : Type} [Inhabited α] {f : α → β} {l : List α} {i : Nat} (hi : i < l.length) : (l.take (i + 1)).map f = (l.take i).map f ++ [f (l.getD i default)] := by
  have e : l.getD i default = l[i] := by simp [hi]
  rw [e, List.take_succ_eq_append_getElem hi, List.map_append]; rfl
theorem Ur {α β : Type} [Inhabited α] {f : α → β} {l : List α} {i : Nat} (hi : i ≤ l.length) {q : β} : q ∈ (l.take i).map f ↔ ∃ k, k < i ∧ f (l.getD k default) = q := by
  simp only [List.mem_map]
  constructor
  · rintro ⟨x, hx, rfl⟩
    obtain ⟨k, hk, rfl⟩ := List.mem_iff_getElem.1 hx
    rw [List.length_take] at hk
    exact ⟨k, by omega, by rw [List.getElem_take]; simp [show k < l.length by omega]⟩
  · rintro ⟨k, hk, rfl⟩
    exact ⟨_, List.mem_iff_getElem.2 ⟨k, by rw [List.length_take]; omega, rfl⟩, by rw [List.getElem_take]; simp [show k < l.length by omega]⟩
theorem QsS (s : Sky) (x y : Int) (hd : G7 s.w s.h s.lv) : Contract P 62 [.agg (s.row 0), .int .i64 x, .int .i64 y] [] (.bool (decide (YP s.w s.h x y))) [] := by
  unfold G7 at hd
  simp only [Sky.row]
  refine Qt ((Env.nil P).add 60 Ja Y3) hm QeB (Nat.le_of_ble_eq_true rfl) rfl ?_; unfold Ws; simp (config := { maxSteps := 2000000 }) only [bitvec_to_nat, reduceIte, Nat.reduceEqDiff, Nat.reduceAdd, Nat.reduceLeDiff, reduceCtorEq, Nat.reduceBEq, Nat.reduceLT, Nat.reduceMod, List.forall_mem_cons, Ja, Qk, Qm, Qa, Q3, Qh, List.take_length, List.length_cons, List.length_nil, Nat.zero_add, QH, QX, Q4, Q6, Zone.row, Qf, Qs, Pt.row, Ql, QA, Aw.row, Qo, QB, Blk.row, Qb, Qj, Sec.row, Qc, Qn, Rw.row, Qp, QD, Qd]
  repeat' (first | with_reducible apply And.intro | with_reducible intro _)
  all_goals first | omega | grind [YP]
def JH : List AV → Option (Prop × AV)
  | [.agg [.int .i64 s_w, .int .i64 s_h, .int .i64 s_lv, .sl 0 3 s_pts, .sl 0 2 s_aws, .sl 0 2 s_secs, .sl 0 4 s_rws], .int .i64 x, .int .i64 y] => some ((((s_pts.map JA).map Pt.row = s_pts) ∧ ((s_aws.map JI).map (Aw.row 0) = s_aws) ∧ ((s_secs.map QP).map (Sec.row 0) = s_secs) ∧ ((s_rws.map JG).map Rw.row = s_rws)) ∧ (G7 (Sky.mk s_w s_h s_lv (s_pts.map JA) (s_aws.map JI) (s_secs.map QP) (s_rws.map JG)).w (Sky.mk s_w s_h s_lv (s_pts.map JA) (s_aws.map JI) (s_secs.map QP) (s_rws.map JG)).h (Sky.mk s_w s_h s_lv (s_pts.map JA) (s_aws.map JI) (s_secs.map QP) (s_rws.map JG)).lv), .bool (decide (YP (Sky.mk s_w s_h s_lv (s_pts.map JA) (s_aws.map JI) (s_secs.map QP) (s_rws.map JG)).w (Sky.mk s_w s_h s_lv (s_pts.map JA) (s_aws.map JI) (s_secs.map QP) (s_rws.map JG)).h x y)))
  | _ => none
theorem UF : ∀ args p v, JH args = some (p, v) → p → Contract P 62 args [] v [] ∧ noref v = true ∧ No99 v := by
  intro args p v h1 h2
  unfold JH at h1
  split at h1
  · rename_i s_w s_h s_lv s_pts s_aws s_secs s_rws x y
    cases h1
    obtain ⟨⟨e0, e1, e2, e3⟩, HP⟩ := h2
    have := QsS (Sky.mk s_w s_h s_lv (s_pts.map JA) (s_aws.map JI) (s_secs.map QP) (s_rws.map JG)) x y HP
    exact ⟨by simpa only [e0, e1, e2, e3, Sky.row] using this, rfl, trivial⟩
  · cases h1
theorem QqI (s : Sky) (b : Blk) : Contract P 63 [.agg (s.row 0), .agg b.row] [] (.bool (decide (b.ok s.w s.h s.lv))) [] := by
  simp only [Sky.row, Blk.row]
  refine Qt (Env.nil P) hm Qc7 (Nat.le_of_ble_eq_true rfl) rfl ?_; unfold VL; simp (config := { maxSteps := 2000000 }) only [bitvec_to_nat, reduceIte, Nat.reduceEqDiff, Nat.reduceAdd, Nat.reduceLeDiff, reduceCtorEq, Nat.reduceBEq, Nat.reduceLT, Nat.reduceMod, List.forall_mem_cons, Qk, Qm, Qa, Q3, Qh, List.take_length, List.length_cons, List.length_nil, Nat.zero_add, QH, QX, Q4, Q6, Zone.row, Qf, Qs, Pt.row, Ql, QA, Aw.row, Qo, QB, Blk.row, Qb, Qj, Sec.row, Qc, Qn, Rw.row, Qp, QD, Qd]
  repeat' (first | with_reducible apply And.intro | with_reducible intro _)
  all_goals first | omega | grind [Blk.ok]
def Jq : List AV → Option (Prop × AV)
  | [.agg [.int .i64 s_w, .int .i64 s_h, .int .i64 s_lv, .sl 0 3 s_pts, .sl 0 2 s_aws, .sl 0 2 s_secs, .sl 0 4 s_rws], .agg [.int .i64 b_x0, .int .i64 b_y0, .int .i64 b_x1, .int .i64 b_y1, .int .i64 b_lo, .int .i64 b_hi]] => some ((((s_pts.map JA).map Pt.row = s_pts) ∧ ((s_aws.map JI).map (Aw.row 0) = s_aws) ∧ ((s_secs.map QP).map (Sec.row 0) = s_secs) ∧ ((s_rws.map JG).map Rw.row = s_rws)) ∧ (True), .bool (decide ((Blk.mk b_x0 b_y0 b_x1 b_y1 b_lo b_hi).ok (Sky.mk s_w s_h s_lv (s_pts.map JA) (s_aws.map JI) (s_secs.map QP) (s_rws.map JG)).w (Sky.mk s_w s_h s_lv (s_pts.map JA) (s_aws.map JI) (s_secs.map QP) (s_rws.map JG)).h (Sky.mk s_w s_h s_lv (s_pts.map JA) (s_aws.map JI) (s_secs.map QP) (s_rws.map JG)).lv)))
  | _ => none
theorem Us : ∀ args p v, Jq args = some (p, v) → p → Contract P 63 args [] v [] ∧ noref v = true ∧ No99 v := by
  intro args p v h1 h2
  unfold Jq at h1
  split at h1
  · rename_i s_w s_h s_lv s_pts s_aws s_secs s_rws b_x0 b_y0 b_x1 b_y1 b_lo b_hi
    cases h1
    obtain ⟨⟨e0, e1, e2, e3⟩, HP⟩ := h2
    have := QqI (Sky.mk s_w s_h s_lv (s_pts.map JA) (s_aws.map JI) (s_secs.map QP) (s_rws.map JG)) (Blk.mk b_x0 b_y0 b_x1 b_y1 b_lo b_hi)
    exact ⟨by simpa only [e0, e1, e2, e3, Sky.row, Blk.row] using this, rfl, trivial⟩
  · cases h1
theorem QsT (a b : Blk) : Contract P 64 [.agg a.row, .agg b.row] [] (.bool (decide (a.less b))) [] := by
  simp only [Blk.row]
  refine Qt (Env.nil P) hm Qc8 (Nat.le_of_ble_eq_true rfl) rfl ?_; unfold VM; simp (config := { maxSteps := 2000000 }) only [bitvec_to_nat, reduceIte, Nat.reduceEqDiff, Nat.reduceAdd, Nat.reduceLeDiff, reduceCtorEq, Nat.reduceBEq, Nat.reduceLT, Nat.reduceMod, List.forall_mem_cons, Qk, Qm, Qa, Q3, Qh, List.take_length, List.length_cons, List.length_nil, Nat.zero_add, QH, QX, Q4, Q6, Zone.row, Qf, Qs, Pt.row, Ql, QA, Aw.row, Qo, QB, Blk.row, Qb, Qj, Sec.row, Qc, Qn, Rw.row, Qp, QD, Qd]
  repeat' (first | with_reducible apply And.intro | with_reducible intro _)
  all_goals first | omega | grind [Blk.less]
def JL : List AV → Option (Prop × AV)
  | [.agg [.int .i64 a_x0, .int .i64 a_y0, .int .i64 a_x1, .int .i64 a_y1, .int .i64 a_lo, .int .i64 a_hi], .agg [.int .i64 b_x0, .int .i64 b_y0, .int .i64 b_x1, .int .i64 b_y1, .int .i64 b_lo, .int .i64 b_hi]] => some ((True) ∧ (True), .bool (decide ((Blk.mk a_x0 a_y0 a_x1 a_y1 a_lo a_hi).less (Blk.mk b_x0 b_y0 b_x1 b_y1 b_lo b_hi))))
  | _ => none
theorem WM : ∀ args p v, JL args = some (p, v) → p → Contract P 64 args [] v [] ∧ noref v = true ∧ No99 v := by
  intro args p v h1 h2
  unfold JL at h1
  split at h1
  · rename_i a_x0 a_y0 a_x1 a_y1 a_lo a_hi b_x0 b_y0 b_x1 b_y1 b_lo b_hi
    cases h1
    obtain ⟨_, HP⟩ := h2
    have := QsT (Blk.mk a_x0 a_y0 a_x1 a_y1 a_lo a_hi) (Blk.mk b_x0 b_y0 b_x1 b_y1 b_lo b_hi)
    exact ⟨by simpa only [Blk.row, Blk.row] using this, rfl, trivial⟩
  · cases h1
theorem QqJ (a b : Blk) : Contract P 65 [.agg a.row, .agg b.row] [] (.bool (decide (a.meet b))) [] := by
  simp only [Blk.row]
  refine Qt (Env.nil P) hm QiG (Nat.le_of_ble_eq_true rfl) rfl ?_; unfold QcX; simp (config := { maxSteps := 2000000 }) only [bitvec_to_nat, reduceIte, Nat.reduceEqDiff, Nat.reduceAdd, Nat.reduceLeDiff, reduceCtorEq, Nat.reduceBEq, Nat.reduceLT, Nat.reduceMod, List.forall_mem_cons, Qk, Qm, Qa, Q3, Qh, List.take_length, List.length_cons, List.length_nil, Nat.zero_add, QH, QX, Q4, Q6, Zone.row, Qf, Qs, Pt.row, Ql, QA, Aw.row, Qo, QB, Blk.row, Qb, Qj, Sec.row, Qc, Qn, Rw.row, Qp, QD, Qd]
  repeat' (first | with_reducible apply And.intro | with_reducible intro _)
  all_goals first | omega | grind [Blk.meet]
def Jr : List AV → Option (Prop × AV)
  | [.agg [.int .i64 a_x0, .int .i64 a_y0, .int .i64 a_x1, .int .i64 a_y1, .int .i64 a_lo, .int .i64 a_hi], .agg [.int .i64 b_x0, .int .i64 b_y0, .int .i64 b_x1, .int .i64 b_y1, .int .i64 b_lo, .int .i64 b_hi]] => some ((True) ∧ (True), .bool (decide ((Blk.mk a_x0 a_y0 a_x1 a_y1 a_lo a_hi).meet (Blk.mk b_x0 b_y0 b_x1 b_y1 b_lo b_hi))))
  | _ => none
theorem Ut : ∀ args p v, Jr args = some (p, v) → p → Contract P 65 args [] v [] ∧ noref v = true ∧ No99 v := by
  intro args p v h1 h2
  unfold Jr at h1
  split at h1
  · rename_i a_x0 a_y0 a_x1 a_y1 a_lo a_hi b_x0 b_y0 b_x1 b_y1 b_lo b_hi
    cases h1
    obtain ⟨_, HP⟩ := h2
    have := QqJ (Blk.mk a_x0 a_y0 a_x1 a_y1 a_lo a_hi) (Blk.mk b_x0 b_y0 b_x1 b_y1 b_lo b_hi)
    exact ⟨by simpa only [Blk.row, Blk.row] using this, rfl, trivial⟩
  · cases h1
theorem QqK (b : Blk) (w h lv : Int) (hd : G7 w h lv) (hb : b.ok w h lv) : Contract P 66 [.agg b.row] [] (.int .i64 b.vol) [] := by
  have ho := QiQ hd hb
  unfold Blk.vol at ho ⊢
  simp only [Blk.row]
  refine Qt (Env.nil P) hm VZ (Nat.le_of_ble_eq_true rfl) rfl ?_; unfold GN; simp (config := { maxSteps := 2000000 }) only [bitvec_to_nat, reduceIte, Nat.reduceEqDiff, Nat.reduceAdd, Nat.reduceLeDiff, reduceCtorEq, Nat.reduceBEq, Nat.reduceLT, Nat.reduceMod, List.forall_mem_cons, Qk, Qm, Qa, Q3, Qh, List.take_length, List.length_cons, List.length_nil, Nat.zero_add, QH, QX, Q4, Q6, Zone.row, Qf, Qs, Pt.row, Ql, QA, Aw.row, Qo, QB, Blk.row, Qb, Qj, Sec.row, Qc, Qn, Rw.row, Qp, QD, Qd]
  exact ⟨by omega, by omega, by omega, by omega, by omega, by omega, by omega, by omega⟩
def Js : List AV → Option (Prop × AV)
  | [.agg [.int .i64 b_x0, .int .i64 b_y0, .int .i64 b_x1, .int .i64 b_y1, .int .i64 b_lo, .int .i64 b_hi]] => some ((True) ∧ (∃ w h lv, G7 w h lv ∧ Blk.ok w h lv (Blk.mk b_x0 b_y0 b_x1 b_y1 b_lo b_hi)), .int .i64 (Blk.vol (Blk.mk b_x0 b_y0 b_x1 b_y1 b_lo b_hi)))
  | _ => none
theorem Uu : ∀ args p v, Js args = some (p, v) → p → Contract P 66 args [] v [] ∧ noref v = true ∧ No99 v := by
  intro args p v h1 h2
  unfold Js at h1
  split at h1
  · rename_i b_x0 b_y0 b_x1 b_y1 b_lo b_hi
    cases h1
    obtain ⟨_, HP⟩ := h2
    have := QqK (Blk.mk b_x0 b_y0 b_x1 b_y1 b_lo b_hi) _ _ _ HP.choose_spec.choose_spec.choose_spec.1 HP.choose_spec.choose_spec.choose_spec.2
    exact ⟨by simpa only [Blk.row] using this, rfl, trivial⟩
  · cases h1
theorem Qn4 {t : Int} (h : 1 ≤ t ∧ t ≤ 8) : ∃ rest, List.drop (t.toNat * 2) Qa4 = .int .i64 (dX t) :: .int .i64 (dY t) :: rest := by
  have hc : t = 1 ∨ t = 2 ∨ t = 3 ∨ t = 4 ∨ t = 5 ∨ t = 6 ∨ t = 7 ∨ t = 8 := by omega
  rcases hc with rfl | rfl | rfl | rfl | rfl | rfl | rfl | rfl <;> exact ⟨_, rfl⟩
theorem QqL (s : Sky) (r : Rw) (hd : G7 s.w s.h s.lv) : Contract P 67 [.agg (s.row 0), .agg r.row] [] (.bool (decide (r.ok s.w s.h))) [] := by
  obtain ⟨nm, x, y, tn⟩ := r
  have hx := QuD tn
  have hy := QuE tn
  by_cases ht : 1 ≤ tn ∧ tn ≤ 8
  · obtain ⟨rest, e⟩ := Qn4 ht
    simp only [Sky.row, Rw.row]
    refine Qt (((Env.nil P).add 60 Ja Y3).add 62 JH UF) hm U5 (Nat.le_of_ble_eq_true rfl) rfl ?_; unfold G3; simp (config := { maxSteps := 2000000 }) only [bitvec_to_nat, reduceIte, Nat.reduceEqDiff, Nat.reduceAdd, Nat.reduceLeDiff, reduceCtorEq, Nat.reduceBEq, Nat.reduceLT, Nat.reduceMod, List.forall_mem_cons, Ja, JH, Qk, Qm, Qa, Q3, Qh, List.take_length, List.length_cons, List.length_nil, Nat.zero_add, QH, QX, Q4, Q6, Zone.row, Qf, Qs, Pt.row, Ql, QA, Aw.row, Qo, QB, Blk.row, Qb, Qj, Sec.row, Qc, Qn, Rw.row, Qp, QD, Qd, gv0, e, ht, Int.toNat_one, Nat.mul_one, Nat.zero_mul, not_true_eq_false, not_false_eq_true]
    repeat' (first | with_reducible apply And.intro | with_reducible intro _)
    all_goals first | omega | exact hd | (simp only [List.length_cons]; omega) | grind [Rw.ok, YP, G7]
  · have e : True := trivial
    simp only [Sky.row, Rw.row]
    refine Qt (((Env.nil P).add 60 Ja Y3).add 62 JH UF) hm U5 (Nat.le_of_ble_eq_true rfl) rfl ?_; unfold G3; simp (config := { maxSteps := 2000000 }) only [bitvec_to_nat, reduceIte, Nat.reduceEqDiff, Nat.reduceAdd, Nat.reduceLeDiff, reduceCtorEq, Nat.reduceBEq, Nat.reduceLT, Nat.reduceMod, List.forall_mem_cons, Ja, JH, Qk, Qm, Qa, Q3, Qh, List.take_length, List.length_cons, List.length_nil, Nat.zero_add, QH, QX, Q4, Q6, Zone.row, Qf, Qs, Pt.row, Ql, QA, Aw.row, Qo, QB, Blk.row, Qb, Qj, Sec.row, Qc, Qn, Rw.row, Qp, QD, Qd, gv0, e, ht, Int.toNat_one, Nat.mul_one, Nat.zero_mul, not_true_eq_false, not_false_eq_true]
    repeat' (first | with_reducible apply And.intro | with_reducible intro _)
    all_goals first | omega | grind [Rw.ok]
def Jt : List AV → Option (Prop × AV)
  | [.agg [.int .i64 s_w, .int .i64 s_h, .int .i64 s_lv, .sl 0 3 s_pts, .sl 0 2 s_aws, .sl 0 2 s_secs, .sl 0 4 s_rws], .agg [.str r_nm, .int .i64 r_x, .int .i64 r_y, .int .i64 r_tn]] => some ((((s_pts.map JA).map Pt.row = s_pts) ∧ ((s_aws.map JI).map (Aw.row 0) = s_aws) ∧ ((s_secs.map QP).map (Sec.row 0) = s_secs) ∧ ((s_rws.map JG).map Rw.row = s_rws)) ∧ (G7 (Sky.mk s_w s_h s_lv (s_pts.map JA) (s_aws.map JI) (s_secs.map QP) (s_rws.map JG)).w (Sky.mk s_w s_h s_lv (s_pts.map JA) (s_aws.map JI) (s_secs.map QP) (s_rws.map JG)).h (Sky.mk s_w s_h s_lv (s_pts.map JA) (s_aws.map JI) (s_secs.map QP) (s_rws.map JG)).lv), .bool (decide ((Rw.mk r_nm r_x r_y r_tn).ok (Sky.mk s_w s_h s_lv (s_pts.map JA) (s_aws.map JI) (s_secs.map QP) (s_rws.map JG)).w (Sky.mk s_w s_h s_lv (s_pts.map JA) (s_aws.map JI) (s_secs.map QP) (s_rws.map JG)).h)))
  | _ => none
theorem Uv : ∀ args p v, Jt args = some (p, v) → p → Contract P 67 args [] v [] ∧ noref v = true ∧ No99 v := by
  intro args p v h1 h2
  unfold Jt at h1
  split at h1
  · rename_i s_w s_h s_lv s_pts s_aws s_secs s_rws r_nm r_x r_y r_tn
    cases h1
    obtain ⟨⟨e0, e1, e2, e3⟩, HP⟩ := h2
    have := QqL (Sky.mk s_w s_h s_lv (s_pts.map JA) (s_aws.map JI) (s_secs.map QP) (s_rws.map JG)) (Rw.mk r_nm r_x r_y r_tn) HP
    exact ⟨by simpa only [e0, e1, e2, e3, Sky.row, Rw.row] using this, rfl, trivial⟩
  · cases h1
end
end Go.Ve

namespace Go.Ve
noncomputable section
open Go.Proofs
set_option linter.unusedSimpArgs false
set_option linter.unusedVariables false
set_option maxRecDepth 100000
set_option maxHeartbeats 400000 in
theorem QbZ (s : Sky) {Q : XT → St → Prop}  (hQ : ∀ bv : Bool, (bv = true ↔ ¬ (G7 s.w s.h s.lv ∧ s.pts.length ≤ 16 ∧ s.aws.length ≤ 8 ∧ s.secs.length ≤ 6 ∧ s.rws.length ≤ 4)) → Q .normal ⟨[(1, .ptr 101 0), (63, .bool bv)], [(101, .box [.int .i64 s.w, .int .i64 s.h, .int .i64 s.lv, .sl 0 3 (s.pts.map Pt.row), .sl 0 2 (s.aws.map (Aw.row 0)), .sl 0 2 (s.secs.map (Sec.row 0)), .sl 0 4 (s.rws.map Rw.row)])]⟩) : SCode.wp (((((((((Env.nil P).add 60 Ja Y3).add 61 Jp Up).add 62 JH UF).add 63 Jq Us).add 64 JL WM).add 65 Jr Ut).add 66 Js Uu).add 67 Jt Uv) GW Q ⟨[(1, .ptr 101 0)], [(101, .box [.int .i64 s.w, .int .i64 s.h, .int .i64 s.lv, .sl 0 3 (s.pts.map Pt.row), .sl 0 2 (s.aws.map (Aw.row 0)), .sl 0 2 (s.secs.map (Sec.row 0)), .sl 0 4 (s.rws.map Rw.row)])]⟩ := by
  all_goals (unfold GW; simp (config := { maxSteps := 2000000 }) only [bitvec_to_nat, reduceIte, Nat.reduceEqDiff, Nat.reduceAdd, Nat.reduceLeDiff, reduceCtorEq, Nat.reduceBEq, Nat.reduceLT, Nat.reduceMod, List.forall_mem_cons, Ja, Jp, JH, Jq, JL, Jr, Js, Jt, Qk, Qm, Qa, Q3, Qh, List.take_length, List.length_cons, List.length_nil, Nat.zero_add, QH, QX, Q4, Q6, Zone.row, Qf, Qs, Pt.row, Ql, QA, Aw.row, Qo, QB, Blk.row, Qb, Qj, Sec.row, Qc, Qn, Rw.row, Qp, QD, Qd, Kh, Ki, JU, JF, JT, JE, J6, JV])
  repeat' (first | with_reducible apply And.intro | with_reducible intro _)
  all_goals first
    | omega
    | (refine hQ _ ?_
       first
         | grind [G7]
         | (simp; grind [G7]))
    | grind [G7]
set_option maxHeartbeats 400000 in
theorem Qb0 (s : Sky) (i : Nat) (cl : List (Int × Int)) {e1 : List (AV × AV)} {w67 : AV} {w68 : AV} {w69 : AV} {Q : XT → St → Prop} (hi : i < s.pts.length) (hl : s.pts.length ≤ 1048576) (hd : G7 s.w s.h s.lv) (hQ : ∀ bv : Bool, (bv = true ↔ ¬ (K9 (s.pts.getD i default).nm ∧ (0 < i → slt (s.pts.getD (i - 1) default).nm (s.pts.getD i default).nm) ∧ YP s.w s.h (s.pts.getD i default).x (s.pts.getD i default).y ∧ ¬ Qlu ((s.pts.getD i default).x, (s.pts.getD i default).y) cl)) → Q .normal ⟨[(1, .ptr 101 0), (3, .ptr 164 0), (4, .ptr 165 0), (6, .ptr 106 0), (7, .ptr 107 0), (67, w67), (68, w68), (69, w69), (112, .bool bv)], [(101, .box [.int .i64 s.w, .int .i64 s.h, .int .i64 s.lv, .sl 0 3 (s.pts.map Pt.row), .sl 0 2 (s.aws.map (Aw.row 0)), .sl 0 2 (s.secs.map (Sec.row 0)), .sl 0 4 (s.rws.map Rw.row)]), (164, .mp 0 e1), (165, .mp 2 (V0 GA cl)), (106, .box [.str (s.pts.getD i default).nm, .int .i64 (s.pts.getD i default).x, .int .i64 (s.pts.getD i default).y]), (107, .box [.int .i64 (s.pts.getD i default).x, .int .i64 (s.pts.getD i default).y])]⟩) : SCode.wp (((((((((Env.nil P).add 60 Ja Y3).add 61 Jp Up).add 62 JH UF).add 63 Jq Us).add 64 JL WM).add 65 Jr Ut).add 66 Js Uu).add 67 Jt Uv) GX Q ⟨[(1, .ptr 101 0), (3, .ptr 164 0), (4, .ptr 165 0), (5, .int .i64 i), (6, .ptr 106 0), (7, .ptr 107 0), (67, w67), (68, w68), (69, w69)], [(101, .box [.int .i64 s.w, .int .i64 s.h, .int .i64 s.lv, .sl 0 3 (s.pts.map Pt.row), .sl 0 2 (s.aws.map (Aw.row 0)), .sl 0 2 (s.secs.map (Sec.row 0)), .sl 0 4 (s.rws.map Rw.row)]), (164, .mp 0 e1), (165, .mp 2 (V0 GA cl)), (106, .box [.str (s.pts.getD i default).nm, .int .i64 (s.pts.getD i default).x, .int .i64 (s.pts.getD i default).y]), (107, .box [.int .i64 (s.pts.getD i default).x, .int .i64 (s.pts.getD i default).y])]⟩ := by
  all_goals (unfold GX; simp (config := { maxSteps := 2000000 }) only [bitvec_to_nat, reduceIte, Nat.reduceEqDiff, Nat.reduceAdd, Nat.reduceLeDiff, reduceCtorEq, Nat.reduceBEq, Nat.reduceLT, Nat.reduceMod, List.forall_mem_cons, Ja, Jp, JH, Jq, JL, Jr, Js, Jt, Qk, Qm, Qa, Q3, Qh, List.take_length, List.length_cons, List.length_nil, Nat.zero_add, QH, QX, Q4, Q6, Zone.row, Qf, Qs, Pt.row, Ql, QA, Aw.row, Qo, QB, Blk.row, Qb, Qj, Sec.row, Qc, Qn, Rw.row, Qp, QD, Qd, Kh, Ki, JU, JF, JT, JE, J6, JV])
  repeat' (first | with_reducible apply And.intro | with_reducible intro _)
  all_goals first
    | omega
    | (refine hQ _ ?_
       first
         | grind [YP, G7]
         | (simp; grind [YP, G7]))
    | grind [YP, G7]
set_option maxHeartbeats 400000 in
theorem Qb1 (s : Sky) (i : Nat) {e1 e2 : List (AV × AV)} {w120 : AV} {w121 : AV} {w122 : AV} {Q : XT → St → Prop} (hi : i < s.aws.length) (hl : s.aws.length ≤ 1048576) (hQ : ∀ bv : Bool, (bv = true ↔ ¬ (K9 (s.aws.getD i default).nm ∧ (0 < i → slt (s.aws.getD (i - 1) default).nm (s.aws.getD i default).nm) ∧ 2 ≤ (s.aws.getD i default).pts.length ∧ (s.aws.getD i default).pts.length ≤ 8)) → Q .normal ⟨[(1, .ptr 101 0), (3, .ptr 164 0), (9, .ptr 109 0), (120, w120), (121, w121), (122, w122), (153, .bool bv)], [(101, .box [.int .i64 s.w, .int .i64 s.h, .int .i64 s.lv, .sl 0 3 (s.pts.map Pt.row), .sl 0 2 (s.aws.map (Aw.row 0)), .sl 0 2 (s.secs.map (Sec.row 0)), .sl 0 4 (s.rws.map Rw.row)]), (164, .mp 0 e1), (165, .mp 2 e2), (109, .box [.str (s.aws.getD i default).nm, .sl 0 1 ((s.aws.getD i default).pts.map QH)])]⟩) : SCode.wp (((((((((Env.nil P).add 60 Ja Y3).add 61 Jp Up).add 62 JH UF).add 63 Jq Us).add 64 JL WM).add 65 Jr Ut).add 66 Js Uu).add 67 Jt Uv) GY Q ⟨[(1, .ptr 101 0), (3, .ptr 164 0), (8, .int .i64 i), (9, .ptr 109 0), (120, w120), (121, w121), (122, w122)], [(101, .box [.int .i64 s.w, .int .i64 s.h, .int .i64 s.lv, .sl 0 3 (s.pts.map Pt.row), .sl 0 2 (s.aws.map (Aw.row 0)), .sl 0 2 (s.secs.map (Sec.row 0)), .sl 0 4 (s.rws.map Rw.row)]), (164, .mp 0 e1), (165, .mp 2 e2), (109, .box [.str (s.aws.getD i default).nm, .sl 0 1 ((s.aws.getD i default).pts.map QH)])]⟩ := by
  all_goals (unfold GY; simp (config := { maxSteps := 2000000 }) only [bitvec_to_nat, reduceIte, Nat.reduceEqDiff, Nat.reduceAdd, Nat.reduceLeDiff, reduceCtorEq, Nat.reduceBEq, Nat.reduceLT, Nat.reduceMod, List.forall_mem_cons, Ja, Jp, JH, Jq, JL, Jr, Js, Jt, Qk, Qm, Qa, Q3, Qh, List.take_length, List.length_cons, List.length_nil, Nat.zero_add, QH, QX, Q4, Q6, Zone.row, Qf, Qs, Pt.row, Ql, QA, Aw.row, Qo, QB, Blk.row, Qb, Qj, Sec.row, Qc, Qn, Rw.row, Qp, QD, Qd, Kh, Ki, JU, JF, JT, JE, J6, JV])
  repeat' (first | with_reducible apply And.intro | with_reducible intro _)
  all_goals first
    | omega
    | (refine hQ _ ?_
       first
         | grind []
         | (simp; grind []))
    | grind []
set_option maxHeartbeats 400000 in
theorem Qb2 (s : Sky) (i m : Nat) {rows : List (List AV)} {e1 e2 : List (AV × AV)} {w14 : AV} {w176 : AV} {w177 : AV} {w178 : AV} {Q : XT → St → Prop} (hi : i < s.secs.length) (hl : s.secs.length ≤ 1048576) (hQ : ∀ bv : Bool, (bv = true ↔ ¬ (K9 (s.secs.getD i default).nm ∧ (0 < i → slt (s.secs.getD (i - 1) default).nm (s.secs.getD i default).nm) ∧ 1 ≤ (s.secs.getD i default).bl.length ∧ (s.secs.getD i default).bl.length ≤ 4)) → Q .normal ⟨[(1, .ptr 101 0), (13, .own 113 m 0 m), (14, w14), (16, .ptr 116 0), (176, w176), (177, w177), (178, w178), (209, .bool bv)], [(101, .box [.int .i64 s.w, .int .i64 s.h, .int .i64 s.lv, .sl 0 3 (s.pts.map Pt.row), .sl 0 2 (s.aws.map (Aw.row 0)), .sl 0 2 (s.secs.map (Sec.row 0)), .sl 0 4 (s.rws.map Rw.row)]), (164, .mp 0 e1), (165, .mp 2 e2), (113, .arr 122 m 6 rows), (116, .box [.str (s.secs.getD i default).nm, .sl 0 6 ((s.secs.getD i default).bl.map Blk.row)])]⟩) : SCode.wp (((((((((Env.nil P).add 60 Ja Y3).add 61 Jp Up).add 62 JH UF).add 63 Jq Us).add 64 JL WM).add 65 Jr Ut).add 66 Js Uu).add 67 Jt Uv) GZ Q ⟨[(1, .ptr 101 0), (13, .own 113 m 0 m), (14, w14), (15, .int .i64 i), (16, .ptr 116 0), (176, w176), (177, w177), (178, w178)], [(101, .box [.int .i64 s.w, .int .i64 s.h, .int .i64 s.lv, .sl 0 3 (s.pts.map Pt.row), .sl 0 2 (s.aws.map (Aw.row 0)), .sl 0 2 (s.secs.map (Sec.row 0)), .sl 0 4 (s.rws.map Rw.row)]), (164, .mp 0 e1), (165, .mp 2 e2), (113, .arr 122 m 6 rows), (116, .box [.str (s.secs.getD i default).nm, .sl 0 6 ((s.secs.getD i default).bl.map Blk.row)])]⟩ := by
  all_goals (unfold GZ; simp (config := { maxSteps := 2000000 }) only [bitvec_to_nat, reduceIte, Nat.reduceEqDiff, Nat.reduceAdd, Nat.reduceLeDiff, reduceCtorEq, Nat.reduceBEq, Nat.reduceLT, Nat.reduceMod, List.forall_mem_cons, Ja, Jp, JH, Jq, JL, Jr, Js, Jt, Qk, Qm, Qa, Q3, Qh, List.take_length, List.length_cons, List.length_nil, Nat.zero_add, QH, QX, Q4, Q6, Zone.row, Qf, Qs, Pt.row, Ql, QA, Aw.row, Qo, QB, Blk.row, Qb, Qj, Sec.row, Qc, Qn, Rw.row, Qp, QD, Qd, Kh, Ki, JU, JF, JT, JE, J6, JV])
  repeat' (first | with_reducible apply And.intro | with_reducible intro _)
  all_goals first
    | omega
    | (refine hQ _ ?_
       first
         | grind []
         | (simp; grind []))
    | grind []
set_option maxHeartbeats 400000 in
theorem Qb3 (s : Sky) (i k m : Nat) {rows : List (List AV)} {e1 e2 : List (AV × AV)} {w14 : AV} {w176 : AV} {w177 : AV} {w178 : AV} {w211 : AV} {w212 : AV} {w213 : AV} {Q : XT → St → Prop} (hk : k < (s.secs.getD i default).bl.length) (hl : (s.secs.getD i default).bl.length ≤ 1048576) (hQ : ∀ bv : Bool, (bv = true ↔ ¬ Qdf s.w s.h s.lv (s.secs.getD i default).bl k) → Q .normal ⟨[(1, .ptr 101 0), (13, .own 113 m 0 m), (14, w14), (16, .ptr 116 0), (18, .ptr 118 0), (176, w176), (177, w177), (178, w178), (211, w211), (212, w212), (213, w213), (236, .bool bv)], [(101, .box [.int .i64 s.w, .int .i64 s.h, .int .i64 s.lv, .sl 0 3 (s.pts.map Pt.row), .sl 0 2 (s.aws.map (Aw.row 0)), .sl 0 2 (s.secs.map (Sec.row 0)), .sl 0 4 (s.rws.map Rw.row)]), (164, .mp 0 e1), (165, .mp 2 e2), (113, .arr 122 m 6 rows), (116, .box [.str (s.secs.getD i default).nm, .sl 0 6 ((s.secs.getD i default).bl.map Blk.row)]), (118, .box [.int .i64 ((s.secs.getD i default).bl.getD k default).x0, .int .i64 ((s.secs.getD i default).bl.getD k default).y0, .int .i64 ((s.secs.getD i default).bl.getD k default).x1, .int .i64 ((s.secs.getD i default).bl.getD k default).y1, .int .i64 ((s.secs.getD i default).bl.getD k default).lo, .int .i64 ((s.secs.getD i default).bl.getD k default).hi])]⟩) : SCode.wp (((((((((Env.nil P).add 60 Ja Y3).add 61 Jp Up).add 62 JH UF).add 63 Jq Us).add 64 JL WM).add 65 Jr Ut).add 66 Js Uu).add 67 Jt Uv) G0 Q ⟨[(1, .ptr 101 0), (13, .own 113 m 0 m), (14, w14), (16, .ptr 116 0), (17, .int .i64 k), (18, .ptr 118 0), (176, w176), (177, w177), (178, w178), (211, w211), (212, w212), (213, w213)], [(101, .box [.int .i64 s.w, .int .i64 s.h, .int .i64 s.lv, .sl 0 3 (s.pts.map Pt.row), .sl 0 2 (s.aws.map (Aw.row 0)), .sl 0 2 (s.secs.map (Sec.row 0)), .sl 0 4 (s.rws.map Rw.row)]), (164, .mp 0 e1), (165, .mp 2 e2), (113, .arr 122 m 6 rows), (116, .box [.str (s.secs.getD i default).nm, .sl 0 6 ((s.secs.getD i default).bl.map Blk.row)]), (118, .box [.int .i64 ((s.secs.getD i default).bl.getD k default).x0, .int .i64 ((s.secs.getD i default).bl.getD k default).y0, .int .i64 ((s.secs.getD i default).bl.getD k default).x1, .int .i64 ((s.secs.getD i default).bl.getD k default).y1, .int .i64 ((s.secs.getD i default).bl.getD k default).lo, .int .i64 ((s.secs.getD i default).bl.getD k default).hi])]⟩ := by
  all_goals (unfold G0; simp (config := { maxSteps := 2000000 }) only [bitvec_to_nat, reduceIte, Nat.reduceEqDiff, Nat.reduceAdd, Nat.reduceLeDiff, reduceCtorEq, Nat.reduceBEq, Nat.reduceLT, Nat.reduceMod, List.forall_mem_cons, Ja, Jp, JH, Jq, JL, Jr, Js, Jt, Qk, Qm, Qa, Q3, Qh, List.take_length, List.length_cons, List.length_nil, Nat.zero_add, QH, QX, Q4, Q6, Zone.row, Qf, Qs, Pt.row, Ql, QA, Aw.row, Qo, QB, Blk.row, Qb, Qj, Sec.row, Qc, Qn, Rw.row, Qp, QD, Qd, Kh, Ki, JU, JF, JT, JE, J6, JV])
  repeat' (first | with_reducible apply And.intro | with_reducible intro _)
  all_goals first
    | omega
    | (refine hQ _ ?_
       first
         | grind [Qdf]
         | (simp; grind [Qdf]))
    | grind [Qdf]
set_option maxHeartbeats 400000 in
theorem Qb4 (s : Sky) (n : Int) (m : Nat) {rows : List (List AV)} {e1 e2 : List (AV × AV)} {w13 : AV} {w176 : AV} {w177 : AV} {w178 : AV} {w179 : AV} {Q : XT → St → Prop} (hm : (1 ≤ s.w * s.h ∧ s.w * s.h ≤ 256) ∧ 1 ≤ s.w * s.h * s.lv ∧ s.w * s.h * s.lv ≤ 1536) (hQ : ∀ bv : Bool, (bv = true ↔ ¬ (n = s.w * s.h * s.lv)) → Q .normal ⟨[(1, .ptr 101 0), (266, .bool bv)], [(101, .box [.int .i64 s.w, .int .i64 s.h, .int .i64 s.lv, .sl 0 3 (s.pts.map Pt.row), .sl 0 2 (s.aws.map (Aw.row 0)), .sl 0 2 (s.secs.map (Sec.row 0)), .sl 0 4 (s.rws.map Rw.row)]), (164, .mp 0 e1), (165, .mp 2 e2), (113, .arr 122 m 6 rows)]⟩) : SCode.wp (((((((((Env.nil P).add 60 Ja Y3).add 61 Jp Up).add 62 JH UF).add 63 Jq Us).add 64 JL WM).add 65 Jr Ut).add 66 Js Uu).add 67 Jt Uv) G1 Q ⟨[(1, .ptr 101 0), (13, w13), (14, .int .i64 n), (176, w176), (177, w177), (178, w178), (179, w179)], [(101, .box [.int .i64 s.w, .int .i64 s.h, .int .i64 s.lv, .sl 0 3 (s.pts.map Pt.row), .sl 0 2 (s.aws.map (Aw.row 0)), .sl 0 2 (s.secs.map (Sec.row 0)), .sl 0 4 (s.rws.map Rw.row)]), (164, .mp 0 e1), (165, .mp 2 e2), (113, .arr 122 m 6 rows)]⟩ := by
  all_goals (unfold G1; simp (config := { maxSteps := 2000000 }) only [bitvec_to_nat, reduceIte, Nat.reduceEqDiff, Nat.reduceAdd, Nat.reduceLeDiff, reduceCtorEq, Nat.reduceBEq, Nat.reduceLT, Nat.reduceMod, List.forall_mem_cons, Ja, Jp, JH, Jq, JL, Jr, Js, Jt, Qk, Qm, Qa, Q3, Qh, List.take_length, List.length_cons, List.length_nil, Nat.zero_add, QH, QX, Q4, Q6, Zone.row, Qf, Qs, Pt.row, Ql, QA, Aw.row, Qo, QB, Blk.row, Qb, Qj, Sec.row, Qc, Qn, Rw.row, Qp, QD, Qd, Kh, Ki, JU, JF, JT, JE, J6, JV])
  repeat' (first | with_reducible apply And.intro | with_reducible intro _)
  all_goals first
    | omega
    | (refine hQ _ ?_
       first
         | grind []
         | (simp; grind []))
    | grind []
set_option maxHeartbeats 400000 in
theorem Qb5 (s : Sky) (i m : Nat) (cl : List (Int × Int)) {rows : List (List AV)} {e1 e2 : List (AV × AV)} {w269 : AV} {w270 : AV} {w271 : AV} {Q : XT → St → Prop} (hi : i < s.rws.length) (hl : s.rws.length ≤ 1048576) (hd : G7 s.w s.h s.lv) (hQ : ∀ bv : Bool, (bv = true ↔ ¬ (K9 (s.rws.getD i default).nm ∧ (0 < i → slt (s.rws.getD (i - 1) default).nm (s.rws.getD i default).nm) ∧ (s.rws.getD i default).ok s.w s.h ∧ ¬ Qlu ((s.rws.getD i default).x, (s.rws.getD i default).y) cl)) → Q .normal ⟨[(1, .ptr 101 0), (4, .ptr 367 0), (23, .ptr 123 0), (269, w269), (270, w270), (271, w271), (311, .bool bv)], [(101, .box [.int .i64 s.w, .int .i64 s.h, .int .i64 s.lv, .sl 0 3 (s.pts.map Pt.row), .sl 0 2 (s.aws.map (Aw.row 0)), .sl 0 2 (s.secs.map (Sec.row 0)), .sl 0 4 (s.rws.map Rw.row)]), (164, .mp 0 e1), (165, .mp 2 e2), (113, .arr 122 m 6 rows), (367, .mp 2 (V0 GA cl)), (122, .box [.str (s.rws.getD i default).nm, .int .i64 (s.rws.getD i default).x, .int .i64 (s.rws.getD i default).y, .int .i64 (s.rws.getD i default).tn]), (123, .box [.int .i64 (s.rws.getD i default).x, .int .i64 (s.rws.getD i default).y])]⟩) : SCode.wp (((((((((Env.nil P).add 60 Ja Y3).add 61 Jp Up).add 62 JH UF).add 63 Jq Us).add 64 JL WM).add 65 Jr Ut).add 66 Js Uu).add 67 Jt Uv) G2 Q ⟨[(1, .ptr 101 0), (4, .ptr 367 0), (21, .int .i64 i), (22, .ptr 122 0), (23, .ptr 123 0), (269, w269), (270, w270), (271, w271)], [(101, .box [.int .i64 s.w, .int .i64 s.h, .int .i64 s.lv, .sl 0 3 (s.pts.map Pt.row), .sl 0 2 (s.aws.map (Aw.row 0)), .sl 0 2 (s.secs.map (Sec.row 0)), .sl 0 4 (s.rws.map Rw.row)]), (164, .mp 0 e1), (165, .mp 2 e2), (113, .arr 122 m 6 rows), (367, .mp 2 (V0 GA cl)), (122, .box [.str (s.rws.getD i default).nm, .int .i64 (s.rws.getD i default).x, .int .i64 (s.rws.getD i default).y, .int .i64 (s.rws.getD i default).tn]), (123, .box [.int .i64 (s.rws.getD i default).x, .int .i64 (s.rws.getD i default).y])]⟩ := by
  all_goals (unfold G2; simp (config := { maxSteps := 2000000 }) only [bitvec_to_nat, reduceIte, Nat.reduceEqDiff, Nat.reduceAdd, Nat.reduceLeDiff, reduceCtorEq, Nat.reduceBEq, Nat.reduceLT, Nat.reduceMod, List.forall_mem_cons, Ja, Jp, JH, Jq, JL, Jr, Js, Jt, Qk, Qm, Qa, Q3, Qh, List.take_length, List.length_cons, List.length_nil, Nat.zero_add, QH, QX, Q4, Q6, Zone.row, Qf, Qs, Pt.row, Ql, QA, Aw.row, Qo, QB, Blk.row, Qb, Qj, Sec.row, Qc, Qn, Rw.row, Qp, QD, Qd, Kh, Ki, JU, JF, JT, JE, J6, JV])
  repeat' (first | with_reducible apply And.intro | with_reducible intro _)
  all_goals first
    | omega
    | (refine hQ _ ?_
       first
         | grind [Rw.ok, YP, G7]
         | (simp; grind [Rw.ok, YP, G7]))
    | grind [Rw.ok, YP, G7]
theorem Qn5 {l : List Pt} {q : ByteArray} : Qlu q (l.map (·.nm)) ↔ 0 ≤ KN l q := by
  unfold Qlu KN
  rw [QsD]
  constructor
  · intro h
    have h : q ∈ (l.take l.length).map (·.nm) := by rw [List.take_length]; exact h
    obtain ⟨k, hk, e⟩ := (Ur (Nat.le_refl _)).1 h
    exact ⟨k, hk, by simpa using e⟩
  · rintro ⟨k, hk, e⟩
    have := (Ur (f := (·.nm)) (l := l) (Nat.le_refl _) (q := q)).2 ⟨k, hk, by simpa using e⟩
    rwa [List.take_length] at this
theorem Qn6 {l : List ByteArray} {i : Nat} (hi : i ≤ l.length) {q : ByteArray} : Qlu q (l.take i) ↔ ∃ k, k < i ∧ l.getD k default = q := by
  have := Ur (f := fun x : ByteArray => x) hi (q := q)
  rwa [List.map_id'] at this
theorem QiS {α : Type} [Inhabited α] {f : α → Int × Int} {l : List α} {i : Nat} (hi : i ≤ l.length) {q : Int × Int} : Qlu q ((l.take i).map f) ↔ ∃ k, k < i ∧ f (l.getD k default) = q := Ur hi
theorem QiT {α : Type} [Inhabited α] {l : List α} {i : Nat} (hi : i < l.length) : l.take (i + 1) = l.take i ++ [l.getD i default] := by
  have e : l.getD i default = l[i] := by simp [hi]
  rw [e, List.take_succ_eq_append_getElem hi]
end
end Go.Ve

namespace Go.Ve
noncomputable section
open Go.Proofs
set_option linter.unusedSimpArgs false
set_option linter.unusedVariables false
set_option maxRecDepth 100000
def pre (l : List Sec) (i k : Nat) : List Blk := JP (l.take i) ++ (l.getD i default).bl.take k
theorem Qlw {l : List Sec} {i : Nat} : pre l i 0 = JP (l.take i) := by simp [pre]
theorem Qlx {l : List Sec} {i k : Nat} (hk : k < (l.getD i default).bl.length) : pre l i (k + 1) = pre l i k ++ [(l.getD i default).bl.getD k default] := by
  unfold pre; rw [QiT hk, List.append_assoc]
theorem QsU {l : List Sec} {i : Nat} (hi : i < l.length) : pre l i (l.getD i default).bl.length = JP (l.take (i + 1)) := by
  unfold pre; rw [List.take_length, Zy hi]
theorem QsV {l : List Sec} {i k : Nat} (hi : i < l.length) : (pre l i k).Sublist (JP l) := by
  have h1 : (pre l i k).Sublist (JP (l.take (i + 1))) := by
    rw [Zy hi]; exact List.Sublist.append (List.Sublist.refl _) (List.take_sublist _ _)
  have h2 : (JP (l.take (i + 1))).Sublist (JP l) := by
    have : JP l = JP (l.take (i + 1)) ++ JP (l.drop (i + 1)) := by
      have h := List.take_append_drop (i + 1) l
      conv => lhs; rw [← h]
      simp only [JP, List.flatMap_append]
    rw [this]; exact List.sublist_append_left _ _
  exact h1.trans h2
theorem QeR {l : List Sec} : ∀ {i : Nat}, i ≤ l.length → (∀ j, j < i → (l.getD j default).bl.length ≤ 4) → (JP (l.take i)).length ≤ 4 * i
  | 0, _, _ => by simp [JP]
  | i + 1, hi, h => by
    rw [Zy (by omega), List.length_append]
    have := QeR (l := l) (i := i) (by omega) fun j hj => h j (by omega)
    have := h i (by omega); omega
theorem QqM {l : List Blk} {b : Blk} : Qlq (l ++ [b]) = Qlq l + b.vol := by simp [Qlq]
theorem QuF {w h lv : Int} {l : List Sec} {i k : Nat} (hi : i < l.length) (h1 : ∀ j, j < i → QiN w h lv l j) (hk : k ≤ (l.getD i default).bl.length) (h2 : ∀ j, j < k → Qdf w h lv (l.getD i default).bl j) : ∀ b ∈ pre l i k, b.ok w h lv := by
  intro b hb
  unfold pre at hb
  rw [List.mem_append] at hb
  rcases hb with hb | hb
  · simp only [JP, List.mem_flatMap] at hb
    obtain ⟨x, hx, hb⟩ := hb
    obtain ⟨j, hj, rfl⟩ := List.mem_iff_getElem.1 hx
    rw [List.length_take] at hj
    rw [List.getElem_take] at hb
    obtain ⟨q, hq, rfl⟩ := List.mem_iff_getElem.1 hb
    have := ((h1 j (by omega)).2.2.2 q (by simpa [show j < l.length by omega] using hq)).1
    simpa [show j < l.length by omega, hq] using this
  · obtain ⟨q, hq, rfl⟩ := List.mem_iff_getElem.1 hb
    rw [List.length_take] at hq
    rw [List.getElem_take]
    have := (h2 q (by omega)).1
    rwa [List.getD_eq_getElem?_getD, List.getElem?_eq_getElem (by omega)] at this
def QeS (l : List Blk) : Prop := l.Pairwise fun a b => ¬ a.meet b
theorem QiU {l : List Blk} : (∀ i, i < l.length → Qg6 l i) ↔ QeS l := by
  unfold QeS Qg6
  rw [List.pairwise_iff_getElem]
  constructor
  · intro h i j hi hj hij
    have := h j hj i hij
    simpa [hi, hj] using this
  · intro h i hi k hk
    have := h k i (by omega) hi hk
    simpa [hi, show k < l.length by omega] using this
theorem QfV {l : List Blk} {b : Blk} : QeS (l ++ [b]) ↔ QeS l ∧ ∀ k, k < l.length → ¬ (l.getD k default).meet b := by
  unfold QeS
  rw [List.pairwise_append]
  constructor
  · rintro ⟨h1, _, h3⟩
    exact ⟨h1, fun k hk => h3 _ (Qhe hk) b (by simp)⟩
  · rintro ⟨h1, h2⟩
    refine ⟨h1, List.pairwise_singleton _ _, fun a ha b' hb' => ?_⟩
    obtain ⟨k, hk, rfl⟩ := List.mem_iff_getElem.1 ha
    have := h2 k hk
    simp only [List.mem_singleton] at hb'
    subst hb'
    simpa [hk] using this
set_option maxHeartbeats 2000000 in
theorem Qj3 (s : Sky) (hs : s.small) (hf : s.fitp) : Contract P 25 [.agg (s.row 0)] [] (.bool (decide s.valid)) [] := by
  have hs1 := hs.1; have hs2 := hs.2.1.1; have hs3 := hs.2.2.1.1; have hs4 := hs.2.2.2
  simp only [Sky.row]
  refine Qt (((((((((Env.nil P).add 60 Ja Y3).add 61 Jp Up).add 62 JH UF).add 63 Jq Us).add 64 JL WM).add 65 Jr Ut).add 66 Js Uu).add 67 Jt Uv) hm Qey (Nat.le_of_ble_eq_true rfl) rfl ?_; unfold Wm; simp (config := { maxSteps := 2000000 }) only [bitvec_to_nat, reduceIte, Nat.reduceEqDiff, Nat.reduceAdd, Nat.reduceLeDiff, reduceCtorEq, Nat.reduceBEq, Nat.reduceLT, Nat.reduceMod, List.forall_mem_cons, Ja, Jp, JH, Jq, JL, Jr, Js, Jt, Qk, Qm, Qa, Q3, Qh, List.take_length, List.length_cons, List.length_nil, Nat.zero_add, QH, QX, Q4, Q6, Zone.row, Qf, Qs, Pt.row, Ql, QA, Aw.row, Qo, QB, Blk.row, Qb, Qj, Sec.row, Qc, Qn, Rw.row, Qp, QD, Qd, Kh, Ki, JU, JF, JT, JE, J6, JV]
  refine QbZ s fun bv hbv => ?_
  cases bv
  case true =>
    simp (config := { maxSteps := 2000000 }) only [bitvec_to_nat, reduceIte, Nat.reduceEqDiff, Nat.reduceAdd, Nat.reduceLeDiff, reduceCtorEq, Nat.reduceBEq, Nat.reduceLT, Nat.reduceMod, List.forall_mem_cons, Ja, Jp, JH, Jq, JL, Jr, Js, Jt, Qk, Qm, Qa, Q3, Qh, List.take_length, List.length_cons, List.length_nil, Nat.zero_add, QH, QX, Q4, Q6, Zone.row, Qf, Qs, Pt.row, Ql, QA, Aw.row, Qo, QB, Blk.row, Qb, Qj, Sec.row, Qc, Qn, Rw.row, Qp, QD, Qd, Kh, Ki, JU, JF, JT, JE, J6, JV]
    exact fun hv => (hbv.1 rfl) ⟨hv.1, hv.2.1.1, hv.2.2.1.1, hv.2.2.2.1.1, hv.2.2.2.2.2.1⟩
  have o0 := Classical.not_not.1 fun h => Bool.noConfusion (hbv.2 h)
  obtain ⟨hd, l1, l2, l3, l4⟩ := o0
  have hmul := Qls hd
  simp (config := { maxSteps := 2000000 }) only [bitvec_to_nat, reduceIte, Nat.reduceEqDiff, Nat.reduceAdd, Nat.reduceLeDiff, reduceCtorEq, Nat.reduceBEq, Nat.reduceLT, Nat.reduceMod, List.forall_mem_cons, Ja, Jp, JH, Jq, JL, Jr, Js, Jt, Qk, Qm, Qa, Q3, Qh, List.take_length, List.length_cons, List.length_nil, Nat.zero_add, QH, QX, Q4, Q6, Zone.row, Qf, Qs, Pt.row, Ql, QA, Aw.row, Qo, QB, Blk.row, Qb, Qj, Sec.row, Qc, Qn, Rw.row, Qp, QD, Qd, Kh, Ki, JU, JF, JT, JE, J6, JV]
  -- points
  refine QV (fun i : Nat => [(69, .int .i64 i)]) (fun i => [(164, .mp 0 (V0 AV.str ((s.pts.take i).map (·.nm)))), (165, .mp 2 (V0 GA ((s.pts.take i).map fun p => (p.x, p.y))))]) (fun i => i ≤ s.pts.length ∧ ∀ j, j < i → QsO s.w s.h s.pts j) (fun i => s.pts.length - i) (0) (by simp only [JX, JY, JZ, J0, Qw, Qx, Qy, Qz, reduceIte, Nat.reduceEqDiff]; exact ⟨by repeat' (first | exact trivial | refine ⟨.inr rfl, ?_⟩), by repeat' (first | exact trivial | refine ⟨rfl, ?_⟩), by first | rfl | simp [closedB, Qr, Qg, Qi, dom, Qe, *], by first | rfl | simp [keepB, dom]⟩) ?_ ?_
  · exact ⟨Nat.zero_le _, by intro j hj; omega⟩
  intro i hi NX hN
  unfold UT; simp (config := { maxSteps := 2000000 }) only [bitvec_to_nat, reduceIte, Nat.reduceEqDiff, Nat.reduceAdd, Nat.reduceLeDiff, reduceCtorEq, Nat.reduceBEq, Nat.reduceLT, Nat.reduceMod, List.forall_mem_cons, Ja, Jp, JH, Jq, JL, Jr, Js, Jt, Qk, Qm, Qa, Q3, Qh, List.take_length, List.length_cons, List.length_nil, Nat.zero_add, QH, QX, Q4, Q6, Zone.row, Qf, Qs, Pt.row, Ql, QA, Aw.row, Qo, QB, Blk.row, Qb, Qj, Sec.row, Qc, Qn, Rw.row, Qp, QD, Qd, Kh, Ki, JU, JF, JT, JE, J6, JV]
  refine ⟨fun g1 => ⟨by omega, by omega, ?_⟩, fun g1 => ?_⟩
  · have A : s.valid → QsO s.w s.h s.pts i := fun h => h.2.1.2 i (by omega)
    unfold QsO at A
    have hc := QiS (f := fun p : Pt => (p.x, p.y)) (l := s.pts) (i := i) (by omega) (q := ((s.pts.getD i default).x, (s.pts.getD i default).y))
    refine Qb0 s i _ (by omega) hs1 hd fun bv hbv => ?_
    cases bv
    case true =>
      simp (config := { maxSteps := 2000000 }) only [bitvec_to_nat, reduceIte, Nat.reduceEqDiff, Nat.reduceAdd, Nat.reduceLeDiff, reduceCtorEq, Nat.reduceBEq, Nat.reduceLT, Nat.reduceMod, List.forall_mem_cons, Ja, Jp, JH, Jq, JL, Jr, Js, Jt, Qk, Qm, Qa, Q3, Qh, List.take_length, List.length_cons, List.length_nil, Nat.zero_add, QH, QX, Q4, Q6, Zone.row, Qf, Qs, Pt.row, Ql, QA, Aw.row, Qo, QB, Blk.row, Qb, Qj, Sec.row, Qc, Qn, Rw.row, Qp, QD, Qd, Kh, Ki, JU, JF, JT, JE, J6, JV]
      refine fun hv => (hbv.1 rfl) ⟨(A hv).1, (A hv).2.1, (A hv).2.2.1, fun h => ?_⟩
      obtain ⟨k, hk, e⟩ := hc.1 h
      simp only [Prod.mk.injEq] at e
      exact (A hv).2.2.2 k hk e
    have o1 := Classical.not_not.1 fun h => Bool.noConfusion (hbv.2 h)
    simp (config := { maxSteps := 2000000 }) only [bitvec_to_nat, reduceIte, Nat.reduceEqDiff, Nat.reduceAdd, Nat.reduceLeDiff, reduceCtorEq, Nat.reduceBEq, Nat.reduceLT, Nat.reduceMod, List.forall_mem_cons, Ja, Jp, JH, Jq, JL, Jr, Js, Jt, Qk, Qm, Qa, Q3, Qh, List.take_length, List.length_cons, List.length_nil, Nat.zero_add, QH, QX, Q4, Q6, Zone.row, Qf, Qs, Pt.row, Ql, QA, Aw.row, Qo, QB, Blk.row, Qb, Qj, Sec.row, Qc, Qn, Rw.row, Qp, QD, Qd, Kh, Ki, JU, JF, JT, JE, J6, JV]
    have e1 := Vx (f := fun p : Pt => p.nm) (l := s.pts) (i := i) (by omega)
    have e2 := Vx (f := fun p : Pt => (p.x, p.y)) (l := s.pts) (i := i) (by omega)
    have hb := o1.2.2.1
    unfold YP at hb; unfold G7 at hd
    have hn := o1.1.1
    refine ⟨by omega, by omega, by omega, ?_⟩
    refine hN (i + 1) _ (by simp only [e1, e2, List.length_append, List.length_cons, List.length_nil, Nat.zero_add, List.map_append, List.map_cons, List.map_nil, JX, JY, JZ, J0, Qw, Qx, Qy, Qz, reduceIte, Nat.reduceEqDiff]; exact ⟨by repeat' (first | exact trivial | refine ⟨.inr rfl, ?_⟩), by repeat' (first | exact trivial | refine ⟨rfl, ?_⟩), by first | rfl | simp [closedB, Qr, Qg, Qi, dom, Qe, *], by first | rfl | simp [keepB, dom]⟩) ?_ ?_
    · refine ⟨by omega, JB hi.2 ⟨o1.1, o1.2.1, o1.2.2.1, fun k hk e => o1.2.2.2 (hc.2 ⟨k, hk, by rw [e.1, e.2]⟩)⟩⟩
    · omega
  -- airways
  have e : i = s.pts.length := by omega
  subst e
  have hpts := hi.2
  clear hi hN NX
  simp only [List.take_length]
  refine QV (fun i : Nat => [(122, .int .i64 i)]) (fun _ => []) (fun i => i ≤ s.aws.length ∧ ∀ j, j < i → QsP s.pts s.aws j) (fun i => s.aws.length - i) (0) (by simp only [JX, JY, JZ, J0, Qw, Qx, Qy, Qz, reduceIte, Nat.reduceEqDiff]; exact ⟨by repeat' (first | exact trivial | refine ⟨.inr rfl, ?_⟩), by repeat' (first | exact trivial | refine ⟨rfl, ?_⟩), by first | rfl | simp [closedB, Qr, Qg, Qi, dom, Qe, *], by first | rfl | simp [keepB, dom]⟩) ?_ ?_
  · exact ⟨Nat.zero_le _, by intro j hj; omega⟩
  intro i hi NX hN
  unfold UV; simp (config := { maxSteps := 2000000 }) only [bitvec_to_nat, reduceIte, Nat.reduceEqDiff, Nat.reduceAdd, Nat.reduceLeDiff, reduceCtorEq, Nat.reduceBEq, Nat.reduceLT, Nat.reduceMod, List.forall_mem_cons, Ja, Jp, JH, Jq, JL, Jr, Js, Jt, Qk, Qm, Qa, Q3, Qh, List.take_length, List.length_cons, List.length_nil, Nat.zero_add, QH, QX, Q4, Q6, Zone.row, Qf, Qs, Pt.row, Ql, QA, Aw.row, Qo, QB, Blk.row, Qb, Qj, Sec.row, Qc, Qn, Rw.row, Qp, QD, Qd, Kh, Ki, JU, JF, JT, JE, J6, JV]
  refine ⟨fun g1 => ⟨by omega, by omega, ?_⟩, fun g1 => ?_⟩
  · have A : s.valid → QsP s.pts s.aws i := fun h => h.2.2.1.2 i (by omega)
    unfold QsP at A
    have hq4 := Sky.small_aw hs (i := i) (by omega)
    have hff : (s.aws.getD i default).fitp := hf.2.1.2 _ (Qhe (by omega))
    refine Qb1 s i (by omega) hs2 fun bv hbv => ?_
    cases bv
    case true =>
      simp (config := { maxSteps := 2000000 }) only [bitvec_to_nat, reduceIte, Nat.reduceEqDiff, Nat.reduceAdd, Nat.reduceLeDiff, reduceCtorEq, Nat.reduceBEq, Nat.reduceLT, Nat.reduceMod, List.forall_mem_cons, Ja, Jp, JH, Jq, JL, Jr, Js, Jt, Qk, Qm, Qa, Q3, Qh, List.take_length, List.length_cons, List.length_nil, Nat.zero_add, QH, QX, Q4, Q6, Zone.row, Qf, Qs, Pt.row, Ql, QA, Aw.row, Qo, QB, Blk.row, Qb, Qj, Sec.row, Qc, Qn, Rw.row, Qp, QD, Qd, Kh, Ki, JU, JF, JT, JE, J6, JV]
      exact fun hv => (hbv.1 rfl) ⟨(A hv).1, (A hv).2.1, (A hv).2.2.1⟩
    have o1 := Classical.not_not.1 fun h => Bool.noConfusion (hbv.2 h)
    simp (config := { maxSteps := 2000000 }) only [bitvec_to_nat, reduceIte, Nat.reduceEqDiff, Nat.reduceAdd, Nat.reduceLeDiff, reduceCtorEq, Nat.reduceBEq, Nat.reduceLT, Nat.reduceMod, List.forall_mem_cons, Ja, Jp, JH, Jq, JL, Jr, Js, Jt, Qk, Qm, Qa, Q3, Qh, List.take_length, List.length_cons, List.length_nil, Nat.zero_add, QH, QX, Q4, Q6, Zone.row, Qf, Qs, Pt.row, Ql, QA, Aw.row, Qo, QB, Blk.row, Qb, Qj, Sec.row, Qc, Qn, Rw.row, Qp, QD, Qd, Kh, Ki, JU, JF, JT, JE, J6, JV]
    refine QV (fun k : Nat => [(158, .int .i64 k)]) (fun k => [(254, .mp 0 (V0 AV.str ((s.aws.getD i default).pts.take k)))]) (fun k => k ≤ (s.aws.getD i default).pts.length ∧ ∀ j, j < k → Qv5 s.pts (s.aws.getD i default).pts j) (fun k => (s.aws.getD i default).pts.length - k) (0) (by simp only [JX, JY, JZ, J0, Qw, Qx, Qy, Qz, reduceIte, Nat.reduceEqDiff]; exact ⟨by repeat' (first | exact trivial | refine ⟨.inr rfl, ?_⟩), by repeat' (first | exact trivial | refine ⟨rfl, ?_⟩), by first | rfl | simp [closedB, Qr, Qg, Qi, dom, Qe, *], by first | rfl | simp [keepB, dom]⟩) ?_ ?_
    · exact ⟨Nat.zero_le _, by intro j hj; omega⟩
    intro k hk NX2 hN2
    unfold UU; simp (config := { maxSteps := 2000000 }) only [bitvec_to_nat, reduceIte, Nat.reduceEqDiff, Nat.reduceAdd, Nat.reduceLeDiff, reduceCtorEq, Nat.reduceBEq, Nat.reduceLT, Nat.reduceMod, List.forall_mem_cons, Ja, Jp, JH, Jq, JL, Jr, Js, Jt, Qk, Qm, Qa, Q3, Qh, List.take_length, List.length_cons, List.length_nil, Nat.zero_add, QH, QX, Q4, Q6, Zone.row, Qf, Qs, Pt.row, Ql, QA, Aw.row, Qo, QB, Blk.row, Qb, Qj, Sec.row, Qc, Qn, Rw.row, Qp, QD, Qd, Kh, Ki, JU, JF, JT, JE, J6, JV]
    refine ⟨fun g2 => ?_, fun g2 => ⟨by omega, ?_⟩⟩
    · have hlen := hff.2.2 _ (Qhe (l := (s.aws.getD i default).pts) (i := k) (by omega))
      have hin := Qn6 (l := (s.aws.getD i default).pts) (i := k) (by omega) (q := (s.aws.getD i default).pts.getD k default)
      refine ⟨by omega, by omega, hlen, fun g3 => ⟨hlen, fun g4 hv => ?_, fun g4 => ⟨hlen, by omega, ?_⟩⟩, fun g3 hv => ?_⟩
      · obtain ⟨j, hj, e⟩ := hin.1 g4
        exact ((A hv).2.2.2 k (by omega)).2 j hj e
      · have e1 := QiT (l := (s.aws.getD i default).pts) (i := k) (by omega)
        refine hN2 (k + 1) _ (by simp only [e1, List.length_append, List.length_cons, List.length_nil, Nat.zero_add, List.map_append, List.map_cons, List.map_nil, JX, JY, JZ, J0, Qw, Qx, Qy, Qz, reduceIte, Nat.reduceEqDiff]; exact ⟨by repeat' (first | exact trivial | refine ⟨.inr rfl, ?_⟩), by repeat' (first | exact trivial | refine ⟨rfl, ?_⟩), by first | rfl | simp [closedB, Qr, Qg, Qi, dom, Qe, *], by first | rfl | simp [keepB, dom]⟩) ?_ ?_
        · exact ⟨by omega, JB hk.2 ⟨Qn5.1 g3, fun j hj e => g4 (hin.2 ⟨j, hj, e⟩)⟩⟩
        · omega
      · exact g3 (Qn5.2 ((A hv).2.2.2 k (by omega)).1)
    · refine hN (i + 1) _ (by simp only [JX, JY, JZ, J0, Qw, Qx, Qy, Qz, reduceIte, Nat.reduceEqDiff]; exact ⟨by repeat' (first | exact trivial | refine ⟨.inr rfl, ?_⟩), by repeat' (first | exact trivial | refine ⟨rfl, ?_⟩), by first | rfl | simp [closedB, Qr, Qg, Qi, dom, Qe, *], by first | rfl | simp [keepB, dom]⟩) ?_ ?_
      · exact ⟨by omega, JB hi.2 ⟨o1.1, o1.2.1, o1.2.2, fun k' hk' => hk.2 k' (by omega)⟩⟩
      · omega
  -- sectors
  have e : i = s.aws.length := by omega
  subst e
  have haws := hi.2
  clear hi hN NX
  refine QV (fun i : Nat => [(13, .own 113 (JP (s.secs.take i)).length 0 (JP (s.secs.take i)).length), (14, .int .i64 (Qlq (JP (s.secs.take i)))), (178, .int .i64 i)]) (fun i => [(113, .arr 122 (JP (s.secs.take i)).length 6 ((JP (s.secs.take i)).map Blk.row))]) (fun i => i ≤ s.secs.length ∧ (∀ j, j < i → QiN s.w s.h s.lv s.secs j) ∧ QeS (JP (s.secs.take i))) (fun i => s.secs.length - i) (0) (by simp only [JX, JY, JZ, J0, Qw, Qx, Qy, Qz, reduceIte, Nat.reduceEqDiff]; exact ⟨by repeat' (first | exact trivial | refine ⟨.inr rfl, ?_⟩), by repeat' (first | exact trivial | refine ⟨rfl, ?_⟩), by first | rfl | simp [closedB, Qr, Qg, Qi, dom, Qe, *], by first | rfl | simp [keepB, dom]⟩) ?_ ?_
  · exact ⟨Nat.zero_le _, (by intro j hj; omega), List.Pairwise.nil⟩
  intro i hi NX hN
  unfold UY; simp (config := { maxSteps := 2000000 }) only [bitvec_to_nat, reduceIte, Nat.reduceEqDiff, Nat.reduceAdd, Nat.reduceLeDiff, reduceCtorEq, Nat.reduceBEq, Nat.reduceLT, Nat.reduceMod, List.forall_mem_cons, Ja, Jp, JH, Jq, JL, Jr, Js, Jt, Qk, Qm, Qa, Q3, Qh, List.take_length, List.length_cons, List.length_nil, Nat.zero_add, QH, QX, Q4, Q6, Zone.row, Qf, Qs, Pt.row, Ql, QA, Aw.row, Qo, QB, Blk.row, Qb, Qj, Sec.row, Qc, Qn, Rw.row, Qp, QD, Qd, Kh, Ki, JU, JF, JT, JE, J6, JV]
  refine ⟨fun g1 => ⟨by omega, by omega, ?_⟩, fun g1 => ?_⟩
  · have A : s.valid → QiN s.w s.h s.lv s.secs i := fun h => h.2.2.2.1.2 i (by omega)
    unfold QiN at A
    have hq4 := Sky.small_sec hs (i := i) (by omega)
    have hbl := QeR (l := s.secs) (i := i) (by omega) fun j hj => (hi.2.1 j hj).2.2.1.2
    refine Qb2 s i _ (by omega) hs3 fun bv hbv => ?_
    cases bv
    case true =>
      simp (config := { maxSteps := 2000000 }) only [bitvec_to_nat, reduceIte, Nat.reduceEqDiff, Nat.reduceAdd, Nat.reduceLeDiff, reduceCtorEq, Nat.reduceBEq, Nat.reduceLT, Nat.reduceMod, List.forall_mem_cons, Ja, Jp, JH, Jq, JL, Jr, Js, Jt, Qk, Qm, Qa, Q3, Qh, List.take_length, List.length_cons, List.length_nil, Nat.zero_add, QH, QX, Q4, Q6, Zone.row, Qf, Qs, Pt.row, Ql, QA, Aw.row, Qo, QB, Blk.row, Qb, Qj, Sec.row, Qc, Qn, Rw.row, Qp, QD, Qd, Kh, Ki, JU, JF, JT, JE, J6, JV]
      exact fun hv => (hbv.1 rfl) ⟨(A hv).1, (A hv).2.1, (A hv).2.2.1⟩
    have o1 := Classical.not_not.1 fun h => Bool.noConfusion (hbv.2 h)
    simp (config := { maxSteps := 2000000 }) only [bitvec_to_nat, reduceIte, Nat.reduceEqDiff, Nat.reduceAdd, Nat.reduceLeDiff, reduceCtorEq, Nat.reduceBEq, Nat.reduceLT, Nat.reduceMod, List.forall_mem_cons, Ja, Jp, JH, Jq, JL, Jr, Js, Jt, Qk, Qm, Qa, Q3, Qh, List.take_length, List.length_cons, List.length_nil, Nat.zero_add, QH, QX, Q4, Q6, Zone.row, Qf, Qs, Pt.row, Ql, QA, Aw.row, Qo, QB, Blk.row, Qb, Qj, Sec.row, Qc, Qn, Rw.row, Qp, QD, Qd, Kh, Ki, JU, JF, JT, JE, J6, JV]
    rw [← Qlw (l := s.secs) (i := i)]
    refine QV (fun k : Nat => [(13, .own 113 (pre s.secs i k).length 0 (pre s.secs i k).length), (14, .int .i64 (Qlq (pre s.secs i k))), (213, .int .i64 k)]) (fun k => [(113, .arr 122 (pre s.secs i k).length 6 ((pre s.secs i k).map Blk.row))]) (fun k => k ≤ (s.secs.getD i default).bl.length ∧ (∀ j, j < k → Qdf s.w s.h s.lv (s.secs.getD i default).bl j) ∧ QeS (pre s.secs i k)) (fun k => (s.secs.getD i default).bl.length - k) (0) (by simp only [JX, JY, JZ, J0, Qw, Qx, Qy, Qz, reduceIte, Nat.reduceEqDiff]; exact ⟨by repeat' (first | exact trivial | refine ⟨.inr rfl, ?_⟩), by repeat' (first | exact trivial | refine ⟨rfl, ?_⟩), by first | rfl | simp [closedB, Qr, Qg, Qi, dom, Qe, *], by first | rfl | simp [keepB, dom]⟩) ?_ ?_
    · exact ⟨Nat.zero_le _, (by intro j hj; omega), by rw [Qlw]; exact hi.2.2⟩
    intro k hk NX2 hN2
    unfold UX; simp (config := { maxSteps := 2000000 }) only [bitvec_to_nat, reduceIte, Nat.reduceEqDiff, Nat.reduceAdd, Nat.reduceLeDiff, reduceCtorEq, Nat.reduceBEq, Nat.reduceLT, Nat.reduceMod, List.forall_mem_cons, Ja, Jp, JH, Jq, JL, Jr, Js, Jt, Qk, Qm, Qa, Q3, Qh, List.take_length, List.length_cons, List.length_nil, Nat.zero_add, QH, QX, Q4, Q6, Zone.row, Qf, Qs, Pt.row, Ql, QA, Aw.row, Qo, QB, Blk.row, Qb, Qj, Sec.row, Qc, Qn, Rw.row, Qp, QD, Qd, Kh, Ki, JU, JF, JT, JE, J6, JV]
    refine ⟨fun g2 => ⟨by omega, by omega, ?_⟩, fun g2 => ?_⟩
    · refine Qb3 s i k _ (by omega) hq4 fun bv hbv => ?_
      cases bv
      case true =>
        simp (config := { maxSteps := 2000000 }) only [bitvec_to_nat, reduceIte, Nat.reduceEqDiff, Nat.reduceAdd, Nat.reduceLeDiff, reduceCtorEq, Nat.reduceBEq, Nat.reduceLT, Nat.reduceMod, List.forall_mem_cons, Ja, Jp, JH, Jq, JL, Jr, Js, Jt, Qk, Qm, Qa, Q3, Qh, List.take_length, List.length_cons, List.length_nil, Nat.zero_add, QH, QX, Q4, Q6, Zone.row, Qf, Qs, Pt.row, Ql, QA, Aw.row, Qo, QB, Blk.row, Qb, Qj, Sec.row, Qc, Qn, Rw.row, Qp, QD, Qd, Kh, Ki, JU, JF, JT, JE, J6, JV]
        exact fun hv => (hbv.1 rfl) ((A hv).2.2.2 k (by omega))
      have o2 := Classical.not_not.1 fun h => Bool.noConfusion (hbv.2 h)
      have hpl : (pre s.secs i k).length ≤ 28 := by unfold pre; rw [List.length_append, List.length_take]; omega
      simp (config := { maxSteps := 2000000 }) only [bitvec_to_nat, reduceIte, Nat.reduceEqDiff, Nat.reduceAdd, Nat.reduceLeDiff, reduceCtorEq, Nat.reduceBEq, Nat.reduceLT, Nat.reduceMod, List.forall_mem_cons, Ja, Jp, JH, Jq, JL, Jr, Js, Jt, Qk, Qm, Qa, Q3, Qh, List.take_length, List.length_cons, List.length_nil, Nat.zero_add, QH, QX, Q4, Q6, Zone.row, Qf, Qs, Pt.row, Ql, QA, Aw.row, Qo, QB, Blk.row, Qb, Qj, Sec.row, Qc, Qn, Rw.row, Qp, QD, Qd, Kh, Ki, JU, JF, JT, JE, J6, JV]
      refine QV (fun j : Nat => [(239, .int .i64 j)]) (fun _ => []) (fun j => j ≤ (pre s.secs i k).length ∧ ∀ q, q < j → ¬ ((pre s.secs i k).getD q default).meet ((s.secs.getD i default).bl.getD k default)) (fun j => (pre s.secs i k).length - j) (0) (by simp only [JX, JY, JZ, J0, Qw, Qx, Qy, Qz, reduceIte, Nat.reduceEqDiff]; exact ⟨by repeat' (first | exact trivial | refine ⟨.inr rfl, ?_⟩), by repeat' (first | exact trivial | refine ⟨rfl, ?_⟩), by first | rfl | simp [closedB, Qr, Qg, Qi, dom, Qe, *], by first | rfl | simp [keepB, dom]⟩) ?_ ?_
      · exact ⟨Nat.zero_le _, by intro j hj; omega⟩
      intro j hj NX3 hN3
      unfold UW; simp (config := { maxSteps := 2000000 }) only [bitvec_to_nat, reduceIte, Nat.reduceEqDiff, Nat.reduceAdd, Nat.reduceLeDiff, reduceCtorEq, Nat.reduceBEq, Nat.reduceLT, Nat.reduceMod, List.forall_mem_cons, Ja, Jp, JH, Jq, JL, Jr, Js, Jt, Qk, Qm, Qa, Q3, Qh, List.take_length, List.length_cons, List.length_nil, Nat.zero_add, QH, QX, Q4, Q6, Zone.row, Qf, Qs, Pt.row, Ql, QA, Aw.row, Qo, QB, Blk.row, Qb, Qj, Sec.row, Qc, Qn, Rw.row, Qp, QD, Qd, Kh, Ki, JU, JF, JT, JE, J6, JV]
      refine ⟨fun g3 => ⟨⟨by omega, by omega⟩, by omega, fun g4 hv => ?_, fun g4 => ⟨by omega, ?_⟩⟩, fun g3 => ?_⟩
      · have h1 := QiU.1 hv.2.2.2.2.1.1
        have h2 : QeS (pre s.secs i (k + 1)) := h1.sublist (QsV (by omega))
        rw [Qlx (by omega)] at h2
        exact (QfV.1 h2).2 j (by omega) g4
      · refine hN3 (j + 1) _ (by simp only [JX, JY, JZ, J0, Qw, Qx, Qy, Qz, reduceIte, Nat.reduceEqDiff]; exact ⟨by repeat' (first | exact trivial | refine ⟨.inr rfl, ?_⟩), by repeat' (first | exact trivial | refine ⟨rfl, ?_⟩), by first | rfl | simp [closedB, Qr, Qg, Qi, dom, Qe, *], by first | rfl | simp [keepB, dom]⟩) ?_ ?_
        · exact ⟨by omega, JB hj.2 g4⟩
        · omega
      · have hbo := o2.1
        have hvb := QiQ hd hbo
        have hvs := Qj1 hd (QuF (l := s.secs) (i := i) (k := k) (by omega) hi.2.1 (by omega) hk.2.1)
        have e1 := Qlx (l := s.secs) (i := i) (k := k) (by omega)
        refine ⟨by omega, ⟨_, _, _, hd, hbo⟩, by omega, by omega, ?_⟩
        refine hN2 (k + 1) _ (by simp only [e1, QqM, List.length_append, List.length_cons, List.length_nil, Nat.zero_add, List.map_append, List.map_cons, List.map_nil, JX, JY, JZ, J0, Qw, Qx, Qy, Qz, reduceIte, Nat.reduceEqDiff]; exact ⟨by repeat' (first | exact trivial | refine ⟨.inr rfl, ?_⟩), by repeat' (first | exact trivial | refine ⟨rfl, ?_⟩), by first | rfl | simp [closedB, Qr, Qg, Qi, dom, Qe, *], by first | rfl | simp [keepB, dom]⟩) ?_ ?_
        · exact ⟨by omega, JB hk.2.1 o2, by rw [e1]; exact QfV.2 ⟨hk.2.2, fun q hq => hj.2 q (by omega)⟩⟩
        · omega
    · have e1 : pre s.secs i k = JP (s.secs.take (i + 1)) := by rw [← QsU (by omega)]; congr 1; omega
      have hap := hk.2.2
      simp only [e1] at hap ⊢
      refine ⟨by omega, ?_⟩
      refine hN (i + 1) _ (by simp only [JX, JY, JZ, J0, Qw, Qx, Qy, Qz, reduceIte, Nat.reduceEqDiff]; exact ⟨by repeat' (first | exact trivial | refine ⟨.inr rfl, ?_⟩), by repeat' (first | exact trivial | refine ⟨rfl, ?_⟩), by first | rfl | simp [closedB, Qr, Qg, Qi, dom, Qe, *], by first | rfl | simp [keepB, dom]⟩) ?_ ?_
      · exact ⟨by omega, JB hi.2.1 ⟨o1.1, o1.2.1, o1.2.2, fun k' hk' => hk.2.1 k' (by omega)⟩, hap⟩
      · omega
  -- how many places
  have e : i = s.secs.length := by omega
  subst e
  have hsecs := hi.2.1
  have hap := hi.2.2
  clear hi hN NX
  simp only [List.take_length] at hap ⊢
  refine Qb4 s _ _ hmul fun bv hbv => ?_
  cases bv
  case true =>
    simp (config := { maxSteps := 2000000 }) only [bitvec_to_nat, reduceIte, Nat.reduceEqDiff, Nat.reduceAdd, Nat.reduceLeDiff, reduceCtorEq, Nat.reduceBEq, Nat.reduceLT, Nat.reduceMod, List.forall_mem_cons, Ja, Jp, JH, Jq, JL, Jr, Js, Jt, Qk, Qm, Qa, Q3, Qh, List.take_length, List.length_cons, List.length_nil, Nat.zero_add, QH, QX, Q4, Q6, Zone.row, Qf, Qs, Pt.row, Ql, QA, Aw.row, Qo, QB, Blk.row, Qb, Qj, Sec.row, Qc, Qn, Rw.row, Qp, QD, Qd, Kh, Ki, JU, JF, JT, JE, J6, JV]
    exact fun hv => (hbv.1 rfl) hv.2.2.2.2.1.2
  have o5 := Classical.not_not.1 fun h => Bool.noConfusion (hbv.2 h)
  simp (config := { maxSteps := 2000000 }) only [bitvec_to_nat, reduceIte, Nat.reduceEqDiff, Nat.reduceAdd, Nat.reduceLeDiff, reduceCtorEq, Nat.reduceBEq, Nat.reduceLT, Nat.reduceMod, List.forall_mem_cons, Ja, Jp, JH, Jq, JL, Jr, Js, Jt, Qk, Qm, Qa, Q3, Qh, List.take_length, List.length_cons, List.length_nil, Nat.zero_add, QH, QX, Q4, Q6, Zone.row, Qf, Qs, Pt.row, Ql, QA, Aw.row, Qo, QB, Blk.row, Qb, Qj, Sec.row, Qc, Qn, Rw.row, Qp, QD, Qd, Kh, Ki, JU, JF, JT, JE, J6, JV]
  -- runways
  refine QV (fun i : Nat => [(271, .int .i64 i)]) (fun i => [(367, .mp 2 (V0 GA ((s.rws.take i).map fun r => (r.x, r.y))))]) (fun i => i ≤ s.rws.length ∧ ∀ j, j < i → QsQ s.w s.h s.rws j) (fun i => s.rws.length - i) (0) (by simp only [JX, JY, JZ, J0, Qw, Qx, Qy, Qz, reduceIte, Nat.reduceEqDiff]; exact ⟨by repeat' (first | exact trivial | refine ⟨.inr rfl, ?_⟩), by repeat' (first | exact trivial | refine ⟨rfl, ?_⟩), by first | rfl | simp [closedB, Qr, Qg, Qi, dom, Qe, *], by first | rfl | simp [keepB, dom]⟩) ?_ ?_
  · exact ⟨Nat.zero_le _, by intro j hj; omega⟩
  intro i hi NX hN
  unfold UZ; simp (config := { maxSteps := 2000000 }) only [bitvec_to_nat, reduceIte, Nat.reduceEqDiff, Nat.reduceAdd, Nat.reduceLeDiff, reduceCtorEq, Nat.reduceBEq, Nat.reduceLT, Nat.reduceMod, List.forall_mem_cons, Ja, Jp, JH, Jq, JL, Jr, Js, Jt, Qk, Qm, Qa, Q3, Qh, List.take_length, List.length_cons, List.length_nil, Nat.zero_add, QH, QX, Q4, Q6, Zone.row, Qf, Qs, Pt.row, Ql, QA, Aw.row, Qo, QB, Blk.row, Qb, Qj, Sec.row, Qc, Qn, Rw.row, Qp, QD, Qd, Kh, Ki, JU, JF, JT, JE, J6, JV]
  refine ⟨fun g1 => ⟨by omega, by omega, ?_⟩, fun g1 => ?_⟩
  · have A : s.valid → QsQ s.w s.h s.rws i := fun h => h.2.2.2.2.2.2 i (by omega)
    unfold QsQ at A
    have hc := QiS (f := fun p : Rw => (p.x, p.y)) (l := s.rws) (i := i) (by omega) (q := ((s.rws.getD i default).x, (s.rws.getD i default).y))
    refine Qb5 s i _ _ (by omega) hs4 hd fun bv hbv => ?_
    cases bv
    case true =>
      simp (config := { maxSteps := 2000000 }) only [bitvec_to_nat, reduceIte, Nat.reduceEqDiff, Nat.reduceAdd, Nat.reduceLeDiff, reduceCtorEq, Nat.reduceBEq, Nat.reduceLT, Nat.reduceMod, List.forall_mem_cons, Ja, Jp, JH, Jq, JL, Jr, Js, Jt, Qk, Qm, Qa, Q3, Qh, List.take_length, List.length_cons, List.length_nil, Nat.zero_add, QH, QX, Q4, Q6, Zone.row, Qf, Qs, Pt.row, Ql, QA, Aw.row, Qo, QB, Blk.row, Qb, Qj, Sec.row, Qc, Qn, Rw.row, Qp, QD, Qd, Kh, Ki, JU, JF, JT, JE, J6, JV]
      refine fun hv => (hbv.1 rfl) ⟨(A hv).1, (A hv).2.1, (A hv).2.2.1, fun h => ?_⟩
      obtain ⟨k, hk, e⟩ := hc.1 h
      simp only [Prod.mk.injEq] at e
      exact (A hv).2.2.2 k hk e
    have o1 := Classical.not_not.1 fun h => Bool.noConfusion (hbv.2 h)
    simp (config := { maxSteps := 2000000 }) only [bitvec_to_nat, reduceIte, Nat.reduceEqDiff, Nat.reduceAdd, Nat.reduceLeDiff, reduceCtorEq, Nat.reduceBEq, Nat.reduceLT, Nat.reduceMod, List.forall_mem_cons, Ja, Jp, JH, Jq, JL, Jr, Js, Jt, Qk, Qm, Qa, Q3, Qh, List.take_length, List.length_cons, List.length_nil, Nat.zero_add, QH, QX, Q4, Q6, Zone.row, Qf, Qs, Pt.row, Ql, QA, Aw.row, Qo, QB, Blk.row, Qb, Qj, Sec.row, Qc, Qn, Rw.row, Qp, QD, Qd, Kh, Ki, JU, JF, JT, JE, J6, JV]
    have e2 := Vx (f := fun p : Rw => (p.x, p.y)) (l := s.rws) (i := i) (by omega)
    have hb := o1.2.2.1.2.1
    unfold YP at hb; unfold G7 at hd
    refine ⟨by omega, by omega, ?_⟩
    refine hN (i + 1) _ (by simp only [e2, List.length_append, List.length_cons, List.length_nil, Nat.zero_add, List.map_append, List.map_cons, List.map_nil, JX, JY, JZ, J0, Qw, Qx, Qy, Qz, reduceIte, Nat.reduceEqDiff]; exact ⟨by repeat' (first | exact trivial | refine ⟨.inr rfl, ?_⟩), by repeat' (first | exact trivial | refine ⟨rfl, ?_⟩), by first | rfl | simp [closedB, Qr, Qg, Qi, dom, Qe, *], by first | rfl | simp [keepB, dom]⟩) ?_ ?_
    · refine ⟨by omega, JB hi.2 ⟨o1.1, o1.2.1, o1.2.2.1, fun k hk e => o1.2.2.2 (hc.2 ⟨k, hk, by rw [e.1, e.2]⟩)⟩⟩
    · omega
  · exact ⟨hd, ⟨l1, hpts⟩, ⟨l2, haws⟩, ⟨l3, hsecs⟩, ⟨QiU.2 hap, o5⟩, ⟨l4, fun j hj => hi.2 j (by omega)⟩⟩
def JM : List AV → Option (Prop × AV)
  | [.agg [.int .i64 s_w, .int .i64 s_h, .int .i64 s_lv, .sl 0 3 s_pts, .sl 0 2 s_aws, .sl 0 2 s_secs, .sl 0 4 s_rws]] => some ((((s_pts.map JA).map Pt.row = s_pts) ∧ ((s_aws.map JI).map (Aw.row 0) = s_aws) ∧ ((s_secs.map QP).map (Sec.row 0) = s_secs) ∧ ((s_rws.map JG).map Rw.row = s_rws)) ∧ ((Sky.mk s_w s_h s_lv (s_pts.map JA) (s_aws.map JI) (s_secs.map QP) (s_rws.map JG)).small ∧ (Sky.mk s_w s_h s_lv (s_pts.map JA) (s_aws.map JI) (s_secs.map QP) (s_rws.map JG)).fitp), .bool (decide (Sky.mk s_w s_h s_lv (s_pts.map JA) (s_aws.map JI) (s_secs.map QP) (s_rws.map JG)).valid))
  | _ => none
theorem QeT : ∀ args p v, JM args = some (p, v) → p → Contract P 25 args [] v [] ∧ noref v = true ∧ No99 v := by
  intro args p v h1 h2
  unfold JM at h1
  split at h1
  · rename_i s_w s_h s_lv s_pts s_aws s_secs s_rws
    cases h1
    obtain ⟨⟨e0, e1, e2, e3⟩, HP⟩ := h2
    have := Qj3 (Sky.mk s_w s_h s_lv (s_pts.map JA) (s_aws.map JI) (s_secs.map QP) (s_rws.map JG)) HP.1 HP.2
    exact ⟨by simpa only [e0, e1, e2, e3, Sky.row] using this, rfl, trivial⟩
  · cases h1
end
end Go.Ve

namespace Go.Ve
noncomputable section
open Go.Proofs
set_option linter.unusedSimpArgs false
set_option linter.unusedVariables false
set_option maxRecDepth 100000
structure Place where
  x : Int
  y : Int
  lv : Int
  deriving Inhabited, DecidableEq
def Place.row (s : Place) : List AV := [.int .i64 s.x, .int .i64 s.y, .int .i64 s.lv]
def Qj4 : List AV → Place
  | [.int .i64 vx, .int .i64 vy, .int .i64 vlv] => (Place.mk vx vy vlv)
  | _ => default
theorem Qj5 (s : Place) : Qj4 (Place.row s) = s := by
  cases s; simp only [Place.row, Qj4]
theorem QQ (l : List Place) : (l.map Place.row).map Qj4 = l := by
  rw [List.map_map]; exact List.map_id'' (fun s => Qj5 s) l
theorem QG (s : Place) : (Place.mk s.x s.y s.lv) = s := (rfl)
def Blk.has (b : Blk) (x y z : Int) : Prop := (b.x0 ≤ x ∧ x ≤ b.x1) ∧ (b.y0 ≤ y ∧ y ≤ b.y1) ∧ (b.lo ≤ z ∧ z ≤ b.hi)
instance (b : Blk) (x y z : Int) : Decidable (b.has x y z) := by unfold Blk.has; infer_instance
def Sec.has (c : Sec) (x y z : Int) : Prop := ∃ k, k < c.bl.length ∧ (c.bl.getD k default).has x y z
noncomputable instance (c : Sec) (x y z : Int) : Decidable (c.has x y z) := Classical.propDecidable _
/-- The sector that a QdY is in, -1 if there is none. -/
def Qn7 (l : List Sec) (x y z : Int) : Int := Qmi (fun c => decide (c.has x y z)) l
def wNm (l : List Sec) (x y z : Int) : ByteArray := if 0 ≤ Qn7 l x y z then (l.getD (Qn7 l x y z).toNat default).nm else ⟨#[]⟩
theorem Qwj {l : List Sec} {x y z : Int} {i : Nat} (hi : i < l.length) (h : (l.getD i default).has x y z) (k : ∀ j, j < i → ¬ (l.getD j default).has x y z) : (l.getD i default).nm = wNm l x y z ∧ 0 ≤ Qn7 l x y z := by
  have e : Qn7 l x y z = i := QjL hi (by simpa using h) fun j hj => by simpa using k j hj
  unfold wNm
  rw [e]
  exact ⟨by simp, by omega⟩
theorem QuG {l : List Sec} {x y z : Int} (k : ∀ j, j < l.length → ¬ (l.getD j default).has x y z) : (⟨#[]⟩ : ByteArray) = wNm l x y z ∧ ¬ 0 ≤ Qn7 l x y z := by
  have e : Qn7 l x y z = -1 := Qek fun j hj => by simpa using k j hj
  unfold wNm
  rw [e]
  exact ⟨by simp, by omega⟩
theorem QuH (b : Blk) (x y z : Int) : Contract P 92 [.agg b.row, .agg [.int .i64 x, .int .i64 y, .int .i64 z]] [] (.bool (decide (b.has x y z))) [] := by
  simp only [Blk.row]
  refine Qt ((Env.nil P).add 46 JC XP) hm QjW (Nat.le_of_ble_eq_true rfl) rfl ?_; unfold QeL; simp (config := { maxSteps := 2000000 }) only [bitvec_to_nat, reduceIte, Nat.reduceEqDiff, Nat.reduceAdd, Nat.reduceLeDiff, reduceCtorEq, Nat.reduceBEq, Nat.reduceLT, Nat.reduceMod, List.forall_mem_cons, JC, Qk, Qm, Qa, Q3, Qh, List.take_length, List.length_cons, List.length_nil, Nat.zero_add, QH, QX, Q4, Q6, Zone.row, Qf, Qs, Pt.row, Ql, QA, Aw.row, Qo, QB, Blk.row, Qb, Qj, Sec.row, Qc, Qn, Rw.row, Qp, QD, Qd]
  repeat' (first | with_reducible apply And.intro | with_reducible intro _)
  all_goals first | omega | grind [Blk.has]
def QfW : List AV → Option (Prop × AV)
  | [.agg [.int .i64 b_x0, .int .i64 b_y0, .int .i64 b_x1, .int .i64 b_y1, .int .i64 b_lo, .int .i64 b_hi], .agg [.int .i64 p_x, .int .i64 p_y, .int .i64 p_lv]] => some ((True) ∧ (True), .bool (decide ((Blk.mk b_x0 b_y0 b_x1 b_y1 b_lo b_hi).has (Place.mk p_x p_y p_lv).x (Place.mk p_x p_y p_lv).y (Place.mk p_x p_y p_lv).lv)))
  | _ => none
theorem QuI : ∀ args p v, QfW args = some (p, v) → p → Contract P 92 args [] v [] ∧ noref v = true ∧ No99 v := by
  intro args p v h1 h2
  unfold QfW at h1
  split at h1
  · rename_i b_x0 b_y0 b_x1 b_y1 b_lo b_hi p_x p_y p_lv
    cases h1
    obtain ⟨_, HP⟩ := h2
    have := QuH (Blk.mk b_x0 b_y0 b_x1 b_y1 b_lo b_hi) p_x p_y p_lv
    exact ⟨by simpa only [Blk.row, Place.row] using this, rfl, trivial⟩
  · cases h1
theorem QqN (s : Sky) (x y z : Int) (hs : s.small) : Contract P 26 [.agg (s.row 0), .agg [.int .i64 x, .int .i64 y, .int .i64 z]] [] (.tup [.str (wNm s.secs x y z), .bool (decide (0 ≤ Qn7 s.secs x y z))]) [] := by
  have hl : s.secs.length ≤ 1048576 := hs.2.2.1.1
  simp only [Sky.row]
  refine Qt ((Env.nil P).add 60 Ja Y3) hm Qc4 (Nat.le_of_ble_eq_true rfl) rfl ?_; unfold VF; simp (config := { maxSteps := 2000000 }) only [bitvec_to_nat, reduceIte, Nat.reduceEqDiff, Nat.reduceAdd, Nat.reduceLeDiff, reduceCtorEq, Nat.reduceBEq, Nat.reduceLT, Nat.reduceMod, List.forall_mem_cons, Ja, Qk, Qm, Qa, Q3, Qh, List.take_length, List.length_cons, List.length_nil, Nat.zero_add, QH, QX, Q4, Q6, Zone.row, Qf, Qs, Pt.row, Ql, QA, Aw.row, Qo, QB, Blk.row, Qb, Qj, Sec.row, Qc, Qn, Rw.row, Qp, QD, Qd]
  refine QV (fun i : Nat => [(13, .int .i64 i)]) (fun _ => []) (fun i => i ≤ s.secs.length ∧ ∀ j, j < i → ¬ (s.secs.getD j default).has x y z) (fun i => s.secs.length - i) (0) (by simp only [JX, JY, JZ, J0, Qw, Qx, Qy, Qz, reduceIte, Nat.reduceEqDiff]; exact ⟨by repeat' (first | exact trivial | refine ⟨.inr rfl, ?_⟩), by repeat' (first | exact trivial | refine ⟨rfl, ?_⟩), by first | rfl | simp [closedB, Qr, Qg, Qi, dom, Qe, *], by first | rfl | simp [keepB, dom]⟩) ?_ ?_
  · exact ⟨Nat.zero_le _, by intro j hj; omega⟩
  intro i hi NX hN
  unfold ZT; simp (config := { maxSteps := 2000000 }) only [bitvec_to_nat, reduceIte, Nat.reduceEqDiff, Nat.reduceAdd, Nat.reduceLeDiff, reduceCtorEq, Nat.reduceBEq, Nat.reduceLT, Nat.reduceMod, List.forall_mem_cons, Ja, Qk, Qm, Qa, Q3, Qh, List.take_length, List.length_cons, List.length_nil, Nat.zero_add, QH, QX, Q4, Q6, Zone.row, Qf, Qs, Pt.row, Ql, QA, Aw.row, Qo, QB, Blk.row, Qb, Qj, Sec.row, Qc, Qn, Rw.row, Qp, QD, Qd]
  refine ⟨fun g1 => ⟨by omega, by omega, ?_⟩, fun g1 => ?_⟩
  · have hq4 := Sky.small_sec hs (i := i) (by omega)
    refine QV (fun k : Nat => [(20, .int .i64 k)]) (fun _ => []) (fun k => k ≤ (s.secs.getD i default).bl.length ∧ ∀ j, j < k → ¬ ((s.secs.getD i default).bl.getD j default).has x y z) (fun k => (s.secs.getD i default).bl.length - k) (0) (by simp only [JX, JY, JZ, J0, Qw, Qx, Qy, Qz, reduceIte, Nat.reduceEqDiff]; exact ⟨by repeat' (first | exact trivial | refine ⟨.inr rfl, ?_⟩), by repeat' (first | exact trivial | refine ⟨rfl, ?_⟩), by first | rfl | simp [closedB, Qr, Qg, Qi, dom, Qe, *], by first | rfl | simp [keepB, dom]⟩) ?_ ?_
    · exact ⟨Nat.zero_le _, by intro j hj; omega⟩
    intro k hk NX2 hN2
    unfold ZS; simp (config := { maxSteps := 2000000 }) only [bitvec_to_nat, reduceIte, Nat.reduceEqDiff, Nat.reduceAdd, Nat.reduceLeDiff, reduceCtorEq, Nat.reduceBEq, Nat.reduceLT, Nat.reduceMod, List.forall_mem_cons, Ja, Qk, Qm, Qa, Q3, Qh, List.take_length, List.length_cons, List.length_nil, Nat.zero_add, QH, QX, Q4, Q6, Zone.row, Qf, Qs, Pt.row, Ql, QA, Aw.row, Qo, QB, Blk.row, Qb, Qj, Sec.row, Qc, Qn, Rw.row, Qp, QD, Qd]
    repeat' (first | with_reducible apply And.intro | with_reducible intro _)
    all_goals first
      | omega
      | (refine hN2 (k + 1) _ (by simp only [JX, JY, JZ, J0, Qw, Qx, Qy, Qz, reduceIte, Nat.reduceEqDiff]; exact ⟨by repeat' (first | exact trivial | refine ⟨.inr rfl, ?_⟩), by repeat' (first | exact trivial | refine ⟨rfl, ?_⟩), by first | rfl | simp [closedB, Qr, Qg, Qi, dom, Qe, *], by first | rfl | simp [keepB, dom]⟩) ?_ ?_
         · exact ⟨by omega, JB hk.2 (by grind [Blk.has])⟩
         · omega)
      | (refine hN (i + 1) _ (by simp only [JX, JY, JZ, J0, Qw, Qx, Qy, Qz, reduceIte, Nat.reduceEqDiff]; exact ⟨by repeat' (first | exact trivial | refine ⟨.inr rfl, ?_⟩), by repeat' (first | exact trivial | refine ⟨rfl, ?_⟩), by first | rfl | simp [closedB, Qr, Qg, Qi, dom, Qe, *], by first | rfl | simp [keepB, dom]⟩) ?_ ?_
         · exact ⟨by omega, JB hi.2 (by rintro ⟨q, hq, h⟩; exact hk.2 q (by omega) h)⟩
         · omega)
      | (have h9 := Qwj (l := s.secs) (x := x) (y := y) (z := z) (i := i) (by omega) ⟨k, by omega, by grind [Blk.has]⟩ hi.2
         first | exact h9.1 | exact congrArg AV.str h9.1 | exact h9.2 | (simp [h9.2]; done))
  · have h9 := QuG (l := s.secs) (x := x) (y := y) (z := z) fun j hj => hi.2 j (by omega)
    repeat' (first | with_reducible apply And.intro | with_reducible intro _)
    all_goals first | exact h9.1 | exact congrArg AV.str h9.1 | exact h9.2 | (simp [h9.2]; done)
def KA : List AV → Option (Prop × AV)
  | [.agg [.int .i64 s_w, .int .i64 s_h, .int .i64 s_lv, .sl 0 3 s_pts, .sl 0 2 s_aws, .sl 0 2 s_secs, .sl 0 4 s_rws], .agg [.int .i64 p_x, .int .i64 p_y, .int .i64 p_lv]] => some ((((s_pts.map JA).map Pt.row = s_pts) ∧ ((s_aws.map JI).map (Aw.row 0) = s_aws) ∧ ((s_secs.map QP).map (Sec.row 0) = s_secs) ∧ ((s_rws.map JG).map Rw.row = s_rws)) ∧ ((Sky.mk s_w s_h s_lv (s_pts.map JA) (s_aws.map JI) (s_secs.map QP) (s_rws.map JG)).small), .tup [.str (wNm (Sky.mk s_w s_h s_lv (s_pts.map JA) (s_aws.map JI) (s_secs.map QP) (s_rws.map JG)).secs (Place.mk p_x p_y p_lv).x (Place.mk p_x p_y p_lv).y (Place.mk p_x p_y p_lv).lv), .bool (decide (0 ≤ Qn7 (Sky.mk s_w s_h s_lv (s_pts.map JA) (s_aws.map JI) (s_secs.map QP) (s_rws.map JG)).secs (Place.mk p_x p_y p_lv).x (Place.mk p_x p_y p_lv).y (Place.mk p_x p_y p_lv).lv))])
  | _ => none
theorem QqO : ∀ args p v, KA args = some (p, v) → p → Contract P 26 args [] v [] ∧ noref v = true ∧ No99 v := by
  intro args p v h1 h2
  unfold KA at h1
  split at h1
  · rename_i s_w s_h s_lv s_pts s_aws s_secs s_rws p_x p_y p_lv
    cases h1
    obtain ⟨⟨e0, e1, e2, e3⟩, HP⟩ := h2
    have := QqN (Sky.mk s_w s_h s_lv (s_pts.map JA) (s_aws.map JI) (s_secs.map QP) (s_rws.map JG)) p_x p_y p_lv HP
    exact ⟨by simpa only [e0, e1, e2, e3, Sky.row, Place.row] using this, rfl, by simp [No99, Ko]⟩
  · cases h1
theorem Qn8 (s : Sky) (x y z : Int) (hs : s.small) : Contract P 52 [.agg (s.row 0), .agg [.int .i64 x, .int .i64 y, .int .i64 z]] [] (.tup [.str (wNm s.secs x y z), .bool (decide (0 ≤ Qn7 s.secs x y z))]) [] := by
  have hl : s.secs.length ≤ 1048576 := hs.2.2.1.1
  simp only [Sky.row]
  refine Qt ((Env.nil P).add 92 QfW QuI) hm Qft (Nat.le_of_ble_eq_true rfl) rfl ?_; unfold Qal; simp (config := { maxSteps := 2000000 }) only [bitvec_to_nat, reduceIte, Nat.reduceEqDiff, Nat.reduceAdd, Nat.reduceLeDiff, reduceCtorEq, Nat.reduceBEq, Nat.reduceLT, Nat.reduceMod, List.forall_mem_cons, QfW, Qk, Qm, Qa, Q3, Qh, List.take_length, List.length_cons, List.length_nil, Nat.zero_add, QH, QX, Q4, Q6, Zone.row, Qf, Qs, Pt.row, Ql, QA, Aw.row, Qo, QB, Blk.row, Qb, Qj, Sec.row, Qc, Qn, Rw.row, Qp, QD, Qd]
  refine QV (fun i : Nat => [(6, .int .i64 i)]) (fun _ => []) (fun i => i ≤ s.secs.length ∧ ∀ j, j < i → ¬ (s.secs.getD j default).has x y z) (fun i => s.secs.length - i) (0) (by simp only [JX, JY, JZ, J0, Qw, Qx, Qy, Qz, reduceIte, Nat.reduceEqDiff]; exact ⟨by repeat' (first | exact trivial | refine ⟨.inr rfl, ?_⟩), by repeat' (first | exact trivial | refine ⟨rfl, ?_⟩), by first | rfl | simp [closedB, Qr, Qg, Qi, dom, Qe, *], by first | rfl | simp [keepB, dom]⟩) ?_ ?_
  · exact ⟨Nat.zero_le _, by intro j hj; omega⟩
  intro i hi NX hN
  unfold VJ; simp (config := { maxSteps := 2000000 }) only [bitvec_to_nat, reduceIte, Nat.reduceEqDiff, Nat.reduceAdd, Nat.reduceLeDiff, reduceCtorEq, Nat.reduceBEq, Nat.reduceLT, Nat.reduceMod, List.forall_mem_cons, QfW, Qk, Qm, Qa, Q3, Qh, List.take_length, List.length_cons, List.length_nil, Nat.zero_add, QH, QX, Q4, Q6, Zone.row, Qf, Qs, Pt.row, Ql, QA, Aw.row, Qo, QB, Blk.row, Qb, Qj, Sec.row, Qc, Qn, Rw.row, Qp, QD, Qd]
  refine ⟨fun g1 => ?_, fun g1 => ?_⟩
  · have hq4 := Sky.small_sec hs (i := i) (by omega)
    refine QV (fun k : Nat => [(7, .int .i64 k)]) (fun _ => []) (fun k => k ≤ (s.secs.getD i default).bl.length ∧ ∀ j, j < k → ¬ ((s.secs.getD i default).bl.getD j default).has x y z) (fun k => (s.secs.getD i default).bl.length - k) (0) (by simp only [JX, JY, JZ, J0, Qw, Qx, Qy, Qz, reduceIte, Nat.reduceEqDiff]; exact ⟨by repeat' (first | exact trivial | refine ⟨.inr rfl, ?_⟩), by repeat' (first | exact trivial | refine ⟨rfl, ?_⟩), by first | rfl | simp [closedB, Qr, Qg, Qi, dom, Qe, *], by first | rfl | simp [keepB, dom]⟩) ?_ ?_
    · exact ⟨Nat.zero_le _, by intro j hj; omega⟩
    intro k hk NX2 hN2
    unfold VI; simp (config := { maxSteps := 2000000 }) only [bitvec_to_nat, reduceIte, Nat.reduceEqDiff, Nat.reduceAdd, Nat.reduceLeDiff, reduceCtorEq, Nat.reduceBEq, Nat.reduceLT, Nat.reduceMod, List.forall_mem_cons, QfW, Qk, Qm, Qa, Q3, Qh, List.take_length, List.length_cons, List.length_nil, Nat.zero_add, QH, QX, Q4, Q6, Zone.row, Qf, Qs, Pt.row, Ql, QA, Aw.row, Qo, QB, Blk.row, Qb, Qj, Sec.row, Qc, Qn, Rw.row, Qp, QD, Qd]
    repeat' (first | with_reducible apply And.intro | with_reducible intro _)
    all_goals first
      | omega
      | (refine hN2 (k + 1) _ (by simp only [JX, JY, JZ, J0, Qw, Qx, Qy, Qz, reduceIte, Nat.reduceEqDiff]; exact ⟨by repeat' (first | exact trivial | refine ⟨.inr rfl, ?_⟩), by repeat' (first | exact trivial | refine ⟨rfl, ?_⟩), by first | rfl | simp [closedB, Qr, Qg, Qi, dom, Qe, *], by first | rfl | simp [keepB, dom]⟩) ?_ ?_
         · exact ⟨by omega, JB hk.2 (by grind [Blk.has])⟩
         · omega)
      | (refine hN (i + 1) _ (by simp only [JX, JY, JZ, J0, Qw, Qx, Qy, Qz, reduceIte, Nat.reduceEqDiff]; exact ⟨by repeat' (first | exact trivial | refine ⟨.inr rfl, ?_⟩), by repeat' (first | exact trivial | refine ⟨rfl, ?_⟩), by first | rfl | simp [closedB, Qr, Qg, Qi, dom, Qe, *], by first | rfl | simp [keepB, dom]⟩) ?_ ?_
         · exact ⟨by omega, JB hi.2 (by rintro ⟨q, hq, h⟩; exact hk.2 q (by omega) h)⟩
         · omega)
      | (have h9 := Qwj (l := s.secs) (x := x) (y := y) (z := z) (i := i) (by omega) ⟨k, by omega, by grind [Blk.has]⟩ hi.2
         first | exact h9.1 | exact congrArg AV.str h9.1 | exact h9.2 | (simp [h9.2]; done))
  · have h9 := QuG (l := s.secs) (x := x) (y := y) (z := z) fun j hj => hi.2 j (by omega)
    repeat' (first | with_reducible apply And.intro | with_reducible intro _)
    all_goals first | exact h9.1 | exact congrArg AV.str h9.1 | exact h9.2 | (simp [h9.2]; done)
def Vh : List AV → Option (Prop × AV)
  | [.agg [.int .i64 s_w, .int .i64 s_h, .int .i64 s_lv, .sl 0 3 s_pts, .sl 0 2 s_aws, .sl 0 2 s_secs, .sl 0 4 s_rws], .agg [.int .i64 p_x, .int .i64 p_y, .int .i64 p_lv]] => some ((((s_pts.map JA).map Pt.row = s_pts) ∧ ((s_aws.map JI).map (Aw.row 0) = s_aws) ∧ ((s_secs.map QP).map (Sec.row 0) = s_secs) ∧ ((s_rws.map JG).map Rw.row = s_rws)) ∧ ((Sky.mk s_w s_h s_lv (s_pts.map JA) (s_aws.map JI) (s_secs.map QP) (s_rws.map JG)).small), .tup [.str (wNm (Sky.mk s_w s_h s_lv (s_pts.map JA) (s_aws.map JI) (s_secs.map QP) (s_rws.map JG)).secs (Place.mk p_x p_y p_lv).x (Place.mk p_x p_y p_lv).y (Place.mk p_x p_y p_lv).lv), .bool (decide (0 ≤ Qn7 (Sky.mk s_w s_h s_lv (s_pts.map JA) (s_aws.map JI) (s_secs.map QP) (s_rws.map JG)).secs (Place.mk p_x p_y p_lv).x (Place.mk p_x p_y p_lv).y (Place.mk p_x p_y p_lv).lv))])
  | _ => none
theorem Qn9 : ∀ args p v, Vh args = some (p, v) → p → Contract P 52 args [] v [] ∧ noref v = true ∧ No99 v := by
  intro args p v h1 h2
  unfold Vh at h1
  split at h1
  · rename_i s_w s_h s_lv s_pts s_aws s_secs s_rws p_x p_y p_lv
    cases h1
    obtain ⟨⟨e0, e1, e2, e3⟩, HP⟩ := h2
    have := Qn8 (Sky.mk s_w s_h s_lv (s_pts.map JA) (s_aws.map JI) (s_secs.map QP) (s_rws.map JG)) p_x p_y p_lv HP
    exact ⟨by simpa only [e0, e1, e2, e3, Sky.row, Place.row] using this, rfl, by simp [No99, Ko]⟩
  · cases h1
def vOk (s : Sky) (x y z : Int) : Prop := s.valid ∧ 0 ≤ Qn7 s.secs x y z
noncomputable instance (s : Sky) (x y z : Int) : Decidable (vOk s x y z) := Classical.propDecidable _
end
end Go.Ve

namespace Go.Ve
noncomputable section
open Go.Proofs
set_option linter.unusedSimpArgs false
set_option linter.unusedVariables false
set_option maxRecDepth 100000
def Blk.touch (a b : Blk) : Prop := (a.x0 - 1 ≤ b.x1 ∧ b.x0 ≤ a.x1 + 1) ∧ (a.y0 - 1 ≤ b.y1 ∧ b.y0 ≤ a.y1 + 1) ∧ (a.lo - 1 ≤ b.hi ∧ b.lo ≤ a.hi + 1)
instance (a b : Blk) : Decidable (a.touch b) := by unfold Blk.touch; infer_instance
def Sec.touch (a b : Sec) : Prop := ∃ m, m < a.bl.length ∧ ∃ n, n < b.bl.length ∧ (a.bl.getD m default).touch (b.bl.getD n default)
def Qv7 (l : List Sec) (a b : ByteArray) (i k : Nat) : Prop := ((l.getD i default).nm = a ∧ (l.getD k default).nm = b) ∧ (l.getD i default).touch (l.getD k default)
def QqP (s : Sky) (a b : ByteArray) : Prop := s.valid ∧ a ≠ b ∧ ∃ i, i < s.secs.length ∧ ∃ k, k < s.secs.length ∧ Qv7 s.secs a b i k
noncomputable instance (s : Sky) (a b : ByteArray) : Decidable (QqP s a b) := Classical.propDecidable _
end
end Go.Ve

namespace Go.Ve
noncomputable section
open Go.Proofs
set_option linter.unusedSimpArgs false
set_option linter.unusedVariables false
set_option maxRecDepth 100000
theorem Qj6 (t : Nat) (l : List ByteArray) (a : Int) (ha : 0 ≤ a ∧ a ≤ 1048576) (hl : l.length ≤ 9223372036854775807 ∧ ∀ y ∈ l, y.toList.length ≤ 9223372036854775807) : Contract P 83 [.sl t 1 (l.map QH), .int .i64 a] [] (.int .i64 (szS Vu l a)) [] := by
  refine Qt (Env.nil P) hm Qda (Nat.le_of_ble_eq_true rfl) rfl ?_; unfold VO; simp (config := { maxSteps := 2000000 }) only [bitvec_to_nat, reduceIte, Nat.reduceEqDiff, Nat.reduceAdd, Nat.reduceLeDiff, reduceCtorEq, Nat.reduceBEq, Nat.reduceLT, Nat.reduceMod, List.forall_mem_cons, QH, Q4, List.take_zero, List.foldl_nil]
  have hz : V6 a l.length = if a - l.length < 0 then -1 else a - l.length := rfl
  refine ⟨by omega, fun h1 => ?_, fun h1 => ?_⟩
  · unfold szS
    rw [(Kl Vv l _ (by omega) (by omega)).2.1 (by omega)]
  have e0 : V6 a l.length = a - l.length := if_neg h1
  refine QV (fun i : Nat => [(1, .int .i64 ((l.take i).foldl (fun a x => Vu x a) (a - l.length))), (5, .int .i64 i)]) (fun _ => []) (fun i => i ≤ l.length ∧ 0 ≤ (l.take i).foldl (fun a x => Vu x a) (a - l.length)) (fun i => l.length - i) (0) (by simp only [JX, JY, JZ, J0, Qw, Qx, Qy, Qz, reduceIte, Nat.reduceEqDiff]; exact ⟨by repeat' (first | exact trivial | refine ⟨.inr rfl, ?_⟩), by repeat' (first | exact trivial | refine ⟨rfl, ?_⟩), by first | rfl | simp [closedB, Qr, Qg, Qi, dom, Qe, *], by first | rfl | simp [keepB, dom]⟩) ?_ ?_
  · simp only [List.take_zero, List.foldl_nil]; omega
  intro i hi NX hN
  unfold Ug; simp (config := { maxSteps := 2000000 }) only [bitvec_to_nat, reduceIte, Nat.reduceEqDiff, Nat.reduceAdd, Nat.reduceLeDiff, reduceCtorEq, Nat.reduceBEq, Nat.reduceLT, Nat.reduceMod, List.forall_mem_cons, QH, Q4, List.take_zero, List.foldl_nil]
  have hm := (Kl Vv (l.take i) (a - l.length) (by omega) (by omega)).2.2
  have hg : i < l.length → (l.getD i default).toList.length ≤ 9223372036854775807 := fun h => hl.2 _ (JD h)
  have hn : i < l.length → (l.take (i + 1)).foldl (fun a x => Vu x a) (a - l.length) = Vu (l.getD i default) ((l.take i).foldl (fun a x => Vu x a) (a - l.length)) := fun h => Vf h
  have hs : i < l.length → Vu (l.getD i default) ((l.take i).foldl (fun a x => Vu x a) (a - l.length)) < 0 → szS Vu l a = -1 := fun h h2 => by unfold szS; rw [e0]; exact WL Vv h (by omega) (by omega) h2
  have hd : Vu (l.getD i default) ((l.take i).foldl (fun a x => Vu x a) (a - l.length)) = if ((l.take i).foldl (fun a x => Vu x a) (a - l.length)) - ((l.getD i default).toList.length : Nat) < 0 then -1 else ((l.take i).foldl (fun a x => Vu x a) (a - l.length)) - ((l.getD i default).toList.length : Nat) := rfl
  refine ⟨fun h2 => ⟨by omega, by omega, by omega, fun h3 => by rw [hs (by omega) (by omega)], fun h3 => ⟨by omega, ?_⟩⟩, fun h2 => ?_⟩
  · have e := hn (by omega)
    rw [hd, if_neg h3] at e
    refine hN (i + 1) _ (by simp only [e, List.length_append, List.length_cons, List.length_nil, Nat.zero_add, List.map_append, List.map_cons, List.map_nil, JX, JY, JZ, J0, Qw, Qx, Qy, Qz, reduceIte, Nat.reduceEqDiff]; exact ⟨by repeat' (first | exact trivial | refine ⟨.inr rfl, ?_⟩), by repeat' (first | exact trivial | refine ⟨rfl, ?_⟩), by first | rfl | simp [closedB, Qr, Qg, Qi, dom, Qe, *], by first | rfl | simp [keepB, dom]⟩) ?_ ?_
    · exact ⟨by omega, by omega⟩
    · omega
  · have e : i = l.length := by omega
    subst e
    simp only [List.take_length]; unfold szS; rw [e0]
def Vy : List AV → Option (Prop × AV)
  | [.sl lt 1 lx, .int .i64 b] => some ((((lx.map unS).map QH = lx)) ∧ ((0 ≤ b ∧ b ≤ 1048576) ∧ ((lx.map unS).length ≤ 9223372036854775807 ∧ ∀ y ∈ (lx.map unS), y.toList.length ≤ 9223372036854775807)), .int .i64 (szS Vu (lx.map unS) b))
  | _ => none
theorem Qj7 : ∀ args p v, Vy args = some (p, v) → p → Contract P 83 args [] v [] ∧ noref v = true ∧ No99 v := by
  intro args p v h1 h2
  unfold Vy at h1
  split at h1
  · rename_i lt lx b
    cases h1
    obtain ⟨e0, HP⟩ := h2
    have := Qj6 lt (lx.map unS) b HP.1 HP.2
    exact ⟨by simpa only [e0] using this, rfl, trivial⟩
  · cases h1
theorem QqQ (t sz : Nat) (xs : List (List AV)) (a : Int) (hp : (0 ≤ a ∧ a ≤ 1048576) ∧ xs.length ≤ 9223372036854775807) : Contract P 84 [.sl t sz xs, .int .i64 a] [] (.int .i64 (V6 a xs.length)) [] := by
  refine Qt (Env.nil P) hm QbR (Nat.le_of_ble_eq_true rfl) rfl ?_; unfold Uh; simp (config := { maxSteps := 2000000 }) only [bitvec_to_nat, reduceIte, Nat.reduceEqDiff, Nat.reduceAdd, Nat.reduceLeDiff, reduceCtorEq, Nat.reduceBEq, Nat.reduceLT, Nat.reduceMod, List.forall_mem_cons]
  refine ⟨by omega, fun h1 => ?_, fun h1 => ?_⟩
  · unfold V6; rw [if_pos h1]
  · unfold V6; rw [if_neg h1]
def QdH : List AV → Option (Prop × AV)
  | [.sl t sz xs, .int .i64 a] => some ((0 ≤ a ∧ a ≤ 1048576) ∧ xs.length ≤ 9223372036854775807, .int .i64 (V6 a xs.length))
  | _ => none
theorem QqR : ∀ args p v, QdH args = some (p, v) → p → Contract P 84 args [] v [] ∧ noref v = true ∧ No99 v := by
  intro args p v h1 h2
  unfold QdH at h1
  split at h1
  · cases h1; exact ⟨QqQ _ _ _ _ h2, rfl, trivial⟩
  · cases h1
theorem QuJ (s : Pt) (a : Int) (ha : 0 ≤ a ∧ a ≤ 1048576) (hs : s.fitp) : Contract P 42 [.agg s.row, .int .i64 a] [] (.int .i64 (s.sz a)) [] := by
  unfold Pt.fitp at hs
  simp only [Pt.row]
  refine Qt (Env.nil P) hm Qcw (Nat.le_of_ble_eq_true rfl) rfl ?_; unfold U0; simp (config := { maxSteps := 2000000 }) only [bitvec_to_nat, reduceIte, Nat.reduceEqDiff, Nat.reduceAdd, Nat.reduceLeDiff, reduceCtorEq, Nat.reduceBEq, Nat.reduceLT, Nat.reduceMod, List.forall_mem_cons, Qk, Qm, Qa, Q3, Qh, List.take_length, List.length_cons, List.length_nil, Nat.zero_add, QH, QX, Q4, Q6, Pt.row, Ql, Aw.row, Qo, Blk.row, Qb, Sec.row, Qc, Rw.row, Qp, Sky.row, Qd, QA, QB, Qj, Qn, QD, QO]
  unfold Pt.sz
  repeat' (first | with_reducible apply And.intro | with_reducible intro _)
  all_goals first | omega | (exact hs) | (exact hs.1) | (exact hs.2.1) | (exact hs.2.2) | (exact hs.2.2.1) | (exact hs.2.2.2) | (exact hs.2.2.2.1) | (exact hs.2.2.2.2) | (exact hs.1.1) | (exact hs.1.2) | (exact hs.2.1.1) | (exact hs.2.1.2) | (unfold chk; grind) | grind
def QiV : List AV → Option (Prop × AV)
  | [.agg [.str s_nm, .int .i64 s_x, .int .i64 s_y], .int .i64 b] => some ((True) ∧ ((0 ≤ b ∧ b ≤ 1048576) ∧ (Pt.fitp (Pt.mk s_nm s_x s_y))), .int .i64 (Pt.sz (Pt.mk s_nm s_x s_y) b))
  | _ => none
theorem QuK : ∀ args p v, QiV args = some (p, v) → p → Contract P 42 args [] v [] ∧ noref v = true ∧ No99 v := by
  intro args p v h1 h2
  unfold QiV at h1
  split at h1
  · rename_i s_nm s_x s_y b
    cases h1
    obtain ⟨_, HP⟩ := h2
    have := QuJ (Pt.mk s_nm s_x s_y) b HP.1 HP.2
    exact ⟨by simpa only [Pt.row] using this, rfl, trivial⟩
  · cases h1
theorem QsW (t : Nat) (l : List Pt) (a : Int) (ha : 0 ≤ a ∧ a ≤ 1048576) (hl : l.length ≤ 9223372036854775807 ∧ ∀ y ∈ l, y.fitp) : Contract P 13 [.sl t 3 (l.map Pt.row), .int .i64 a] [] (.int .i64 (szS Pt.sz l a)) [] := by
  refine Qt ((Env.nil P).add 42 QiV QuK) hm Qbt (Nat.le_of_ble_eq_true rfl) rfl ?_; unfold ZQ; simp (config := { maxSteps := 2000000 }) only [bitvec_to_nat, reduceIte, Nat.reduceEqDiff, Nat.reduceAdd, Nat.reduceLeDiff, reduceCtorEq, Nat.reduceBEq, Nat.reduceLT, Nat.reduceMod, List.forall_mem_cons, QiV, Qk, Qm, Qa, Q3, Qh, List.take_length, List.length_cons, List.length_nil, Nat.zero_add, QH, QX, Q4, Q6, Pt.row, Ql, Aw.row, Qo, Blk.row, Qb, Sec.row, Qc, Rw.row, Qp, Sky.row, Qd, QA, QB, Qj, Qn, QD, QO, List.take_zero, List.foldl_nil]
  have hz : V6 a l.length = if a - l.length < 0 then -1 else a - l.length := rfl
  refine ⟨by omega, fun h1 => ?_, fun h1 => ?_⟩
  · unfold szS
    rw [(Kl QaR l _ (by omega) (by omega)).2.1 (by omega)]
  have e0 : V6 a l.length = a - l.length := if_neg h1
  refine QV (fun i : Nat => [(1, .int .i64 ((l.take i).foldl (fun a x => x.sz a) (a - l.length))), (5, .int .i64 i)]) (fun _ => []) (fun i => i ≤ l.length ∧ 0 ≤ (l.take i).foldl (fun a x => x.sz a) (a - l.length)) (fun i => l.length - i) (0) (by simp only [JX, JY, JZ, J0, Qw, Qx, Qy, Qz, reduceIte, Nat.reduceEqDiff]; exact ⟨by repeat' (first | exact trivial | refine ⟨.inr rfl, ?_⟩), by repeat' (first | exact trivial | refine ⟨rfl, ?_⟩), by first | rfl | simp [closedB, Qr, Qg, Qi, dom, Qe, *], by first | rfl | simp [keepB, dom]⟩) ?_ ?_
  · simp only [List.take_zero, List.foldl_nil]; omega
  intro i hi NX hN
  have hm := (Kl QaR (l.take i) (a - l.length) (by omega) (by omega)).2.2
  have hg : i < l.length → (l.getD i default).fitp := fun h => hl.2 _ (JD h)
  have hn : i < l.length → (l.take (i + 1)).foldl (fun a x => x.sz a) (a - l.length) = (l.getD i default).sz ((l.take i).foldl (fun a x => x.sz a) (a - l.length)) := fun h => Vf (f := Pt.sz) h
  have hs : i < l.length → (l.getD i default).sz ((l.take i).foldl (fun a x => x.sz a) (a - l.length)) < 0 → szS Pt.sz l a = -1 := fun h h2 => by unfold szS; rw [e0]; exact WL QaR h (by omega) (by omega) h2
  unfold Xz; simp (config := { maxSteps := 2000000 }) only [bitvec_to_nat, reduceIte, Nat.reduceEqDiff, Nat.reduceAdd, Nat.reduceLeDiff, reduceCtorEq, Nat.reduceBEq, Nat.reduceLT, Nat.reduceMod, List.forall_mem_cons, QiV, Qk, Qm, Qa, Q3, Qh, List.take_length, List.length_cons, List.length_nil, Nat.zero_add, QH, QX, Q4, Q6, Pt.row, Ql, Aw.row, Qo, Blk.row, Qb, Sec.row, Qc, Rw.row, Qp, Sky.row, Qd, QA, QB, Qj, Qn, QD, QO, List.take_zero, List.foldl_nil]
  refine ⟨fun h2 => ⟨by omega, by omega, ⟨⟨by omega, by omega⟩, hg (by omega)⟩, fun h3 => by rw [hs (by omega) h3], fun h3 => ⟨by omega, ?_⟩⟩, fun h2 => ?_⟩
  · have e := hn (by omega)
    refine hN (i + 1) _ (by simp only [e, List.length_append, List.length_cons, List.length_nil, Nat.zero_add, List.map_append, List.map_cons, List.map_nil, JX, JY, JZ, J0, Qw, Qx, Qy, Qz, reduceIte, Nat.reduceEqDiff]; exact ⟨by repeat' (first | exact trivial | refine ⟨.inr rfl, ?_⟩), by repeat' (first | exact trivial | refine ⟨rfl, ?_⟩), by first | rfl | simp [closedB, Qr, Qg, Qi, dom, Qe, *], by first | rfl | simp [keepB, dom]⟩) ?_ ?_
    · exact ⟨by omega, by rw [e]; omega⟩
    · omega
  · have e : i = l.length := by omega
    subst e
    simp only [List.take_length]; unfold szS; rw [e0]
def Qhg : List AV → Option (Prop × AV)
  | [.sl lt 3 lx, .int .i64 b] => some ((((lx.map JA).map Pt.row = lx)) ∧ ((0 ≤ b ∧ b ≤ 1048576) ∧ ((lx.map JA).length ≤ 9223372036854775807 ∧ ∀ y ∈ (lx.map JA), Pt.fitp y)), .int .i64 (szS Pt.sz (lx.map JA) b))
  | _ => none
theorem QsX : ∀ args p v, Qhg args = some (p, v) → p → Contract P 13 args [] v [] ∧ noref v = true ∧ No99 v := by
  intro args p v h1 h2
  unfold Qhg at h1
  split at h1
  · rename_i lt lx b
    cases h1
    obtain ⟨e0, HP⟩ := h2
    have := QsW lt (lx.map JA) b HP.1 HP.2
    exact ⟨by simpa only [e0] using this, rfl, trivial⟩
  · cases h1
theorem QuL (s : Rw) (a : Int) (ha : 0 ≤ a ∧ a ≤ 1048576) (hs : s.fitp) : Contract P 45 [.agg s.row, .int .i64 a] [] (.int .i64 (s.sz a)) [] := by
  unfold Rw.fitp at hs
  simp only [Rw.row]
  refine Qt (Env.nil P) hm QbD (Nat.le_of_ble_eq_true rfl) rfl ?_; unfold Z3; simp (config := { maxSteps := 2000000 }) only [bitvec_to_nat, reduceIte, Nat.reduceEqDiff, Nat.reduceAdd, Nat.reduceLeDiff, reduceCtorEq, Nat.reduceBEq, Nat.reduceLT, Nat.reduceMod, List.forall_mem_cons, Qk, Qm, Qa, Q3, Qh, List.take_length, List.length_cons, List.length_nil, Nat.zero_add, QH, QX, Q4, Q6, Pt.row, Ql, Aw.row, Qo, Blk.row, Qb, Sec.row, Qc, Rw.row, Qp, Sky.row, Qd, QA, QB, Qj, Qn, QD, QO]
  unfold Rw.sz
  repeat' (first | with_reducible apply And.intro | with_reducible intro _)
  all_goals first | omega | (exact hs) | (exact hs.1) | (exact hs.2.1) | (exact hs.2.2) | (exact hs.2.2.1) | (exact hs.2.2.2) | (exact hs.2.2.2.1) | (exact hs.2.2.2.2) | (exact hs.1.1) | (exact hs.1.2) | (exact hs.2.1.1) | (exact hs.2.1.2) | (unfold chk; grind) | grind
def QiW : List AV → Option (Prop × AV)
  | [.agg [.str s_nm, .int .i64 s_x, .int .i64 s_y, .int .i64 s_tn], .int .i64 b] => some ((True) ∧ ((0 ≤ b ∧ b ≤ 1048576) ∧ (Rw.fitp (Rw.mk s_nm s_x s_y s_tn))), .int .i64 (Rw.sz (Rw.mk s_nm s_x s_y s_tn) b))
  | _ => none
theorem QuM : ∀ args p v, QiW args = some (p, v) → p → Contract P 45 args [] v [] ∧ noref v = true ∧ No99 v := by
  intro args p v h1 h2
  unfold QiW at h1
  split at h1
  · rename_i s_nm s_x s_y s_tn b
    cases h1
    obtain ⟨_, HP⟩ := h2
    have := QuL (Rw.mk s_nm s_x s_y s_tn) b HP.1 HP.2
    exact ⟨by simpa only [Rw.row] using this, rfl, trivial⟩
  · cases h1
theorem QsY (t : Nat) (l : List Rw) (a : Int) (ha : 0 ≤ a ∧ a ≤ 1048576) (hl : l.length ≤ 9223372036854775807 ∧ ∀ y ∈ l, y.fitp) : Contract P 16 [.sl t 4 (l.map Rw.row), .int .i64 a] [] (.int .i64 (szS Rw.sz l a)) [] := by
  refine Qt ((Env.nil P).add 45 QiW QuM) hm QaJ (Nat.le_of_ble_eq_true rfl) rfl ?_; unfold Zo; simp (config := { maxSteps := 2000000 }) only [bitvec_to_nat, reduceIte, Nat.reduceEqDiff, Nat.reduceAdd, Nat.reduceLeDiff, reduceCtorEq, Nat.reduceBEq, Nat.reduceLT, Nat.reduceMod, List.forall_mem_cons, QiW, Qk, Qm, Qa, Q3, Qh, List.take_length, List.length_cons, List.length_nil, Nat.zero_add, QH, QX, Q4, Q6, Pt.row, Ql, Aw.row, Qo, Blk.row, Qb, Sec.row, Qc, Rw.row, Qp, Sky.row, Qd, QA, QB, Qj, Qn, QD, QO, List.take_zero, List.foldl_nil]
  have hz : V6 a l.length = if a - l.length < 0 then -1 else a - l.length := rfl
  refine ⟨by omega, fun h1 => ?_, fun h1 => ?_⟩
  · unfold szS
    rw [(Kl QaS l _ (by omega) (by omega)).2.1 (by omega)]
  have e0 : V6 a l.length = a - l.length := if_neg h1
  refine QV (fun i : Nat => [(1, .int .i64 ((l.take i).foldl (fun a x => x.sz a) (a - l.length))), (5, .int .i64 i)]) (fun _ => []) (fun i => i ≤ l.length ∧ 0 ≤ (l.take i).foldl (fun a x => x.sz a) (a - l.length)) (fun i => l.length - i) (0) (by simp only [JX, JY, JZ, J0, Qw, Qx, Qy, Qz, reduceIte, Nat.reduceEqDiff]; exact ⟨by repeat' (first | exact trivial | refine ⟨.inr rfl, ?_⟩), by repeat' (first | exact trivial | refine ⟨rfl, ?_⟩), by first | rfl | simp [closedB, Qr, Qg, Qi, dom, Qe, *], by first | rfl | simp [keepB, dom]⟩) ?_ ?_
  · simp only [List.take_zero, List.foldl_nil]; omega
  intro i hi NX hN
  have hm := (Kl QaS (l.take i) (a - l.length) (by omega) (by omega)).2.2
  have hg : i < l.length → (l.getD i default).fitp := fun h => hl.2 _ (JD h)
  have hn : i < l.length → (l.take (i + 1)).foldl (fun a x => x.sz a) (a - l.length) = (l.getD i default).sz ((l.take i).foldl (fun a x => x.sz a) (a - l.length)) := fun h => Vf (f := Rw.sz) h
  have hs : i < l.length → (l.getD i default).sz ((l.take i).foldl (fun a x => x.sz a) (a - l.length)) < 0 → szS Rw.sz l a = -1 := fun h h2 => by unfold szS; rw [e0]; exact WL QaS h (by omega) (by omega) h2
  unfold Xe; simp (config := { maxSteps := 2000000 }) only [bitvec_to_nat, reduceIte, Nat.reduceEqDiff, Nat.reduceAdd, Nat.reduceLeDiff, reduceCtorEq, Nat.reduceBEq, Nat.reduceLT, Nat.reduceMod, List.forall_mem_cons, QiW, Qk, Qm, Qa, Q3, Qh, List.take_length, List.length_cons, List.length_nil, Nat.zero_add, QH, QX, Q4, Q6, Pt.row, Ql, Aw.row, Qo, Blk.row, Qb, Sec.row, Qc, Rw.row, Qp, Sky.row, Qd, QA, QB, Qj, Qn, QD, QO, List.take_zero, List.foldl_nil]
  refine ⟨fun h2 => ⟨by omega, by omega, ⟨⟨by omega, by omega⟩, hg (by omega)⟩, fun h3 => by rw [hs (by omega) h3], fun h3 => ⟨by omega, ?_⟩⟩, fun h2 => ?_⟩
  · have e := hn (by omega)
    refine hN (i + 1) _ (by simp only [e, List.length_append, List.length_cons, List.length_nil, Nat.zero_add, List.map_append, List.map_cons, List.map_nil, JX, JY, JZ, J0, Qw, Qx, Qy, Qz, reduceIte, Nat.reduceEqDiff]; exact ⟨by repeat' (first | exact trivial | refine ⟨.inr rfl, ?_⟩), by repeat' (first | exact trivial | refine ⟨rfl, ?_⟩), by first | rfl | simp [closedB, Qr, Qg, Qi, dom, Qe, *], by first | rfl | simp [keepB, dom]⟩) ?_ ?_
    · exact ⟨by omega, by rw [e]; omega⟩
    · omega
  · have e : i = l.length := by omega
    subst e
    simp only [List.take_length]; unfold szS; rw [e0]
def Qhh : List AV → Option (Prop × AV)
  | [.sl lt 4 lx, .int .i64 b] => some ((((lx.map JG).map Rw.row = lx)) ∧ ((0 ≤ b ∧ b ≤ 1048576) ∧ ((lx.map JG).length ≤ 9223372036854775807 ∧ ∀ y ∈ (lx.map JG), Rw.fitp y)), .int .i64 (szS Rw.sz (lx.map JG) b))
  | _ => none
theorem QsZ : ∀ args p v, Qhh args = some (p, v) → p → Contract P 16 args [] v [] ∧ noref v = true ∧ No99 v := by
  intro args p v h1 h2
  unfold Qhh at h1
  split at h1
  · rename_i lt lx b
    cases h1
    obtain ⟨e0, HP⟩ := h2
    have := QsY lt (lx.map JG) b HP.1 HP.2
    exact ⟨by simpa only [e0] using this, rfl, trivial⟩
  · cases h1
theorem QuN (s : Aw) (a : Int) (ha : 0 ≤ a ∧ a ≤ 1048576) (hs : s.fitp) : Contract P 43 [.agg (s.row 1), .int .i64 a] [] (.int .i64 (s.sz a)) [] := by
  unfold Aw.fitp at hs
  simp only [Aw.row]
  refine Qt ((Env.nil P).add 83 Vy Qj7) hm QbB (Nat.le_of_ble_eq_true rfl) rfl ?_; unfold Z1; simp (config := { maxSteps := 2000000 }) only [bitvec_to_nat, reduceIte, Nat.reduceEqDiff, Nat.reduceAdd, Nat.reduceLeDiff, reduceCtorEq, Nat.reduceBEq, Nat.reduceLT, Nat.reduceMod, List.forall_mem_cons, Vy, Qk, Qm, Qa, Q3, Qh, List.take_length, List.length_cons, List.length_nil, Nat.zero_add, QH, QX, Q4, Q6, Pt.row, Ql, Aw.row, Qo, Blk.row, Qb, Sec.row, Qc, Rw.row, Qp, Sky.row, Qd, QA, QB, Qj, Qn, QD, QO]
  unfold Aw.sz
  have qpts : (szS Vu s.pts (a - (s.nm.toList.length : Nat))) ≤ max (a - (s.nm.toList.length : Nat)) (-1) := (KZ Vv s.pts (a - (s.nm.toList.length : Nat)) (by omega)).2.2
  repeat' (first | with_reducible apply And.intro | with_reducible intro _)
  all_goals first | omega | (exact hs) | (exact hs.1) | (exact hs.2.1) | (exact hs.2.2) | (exact hs.2.2.1) | (exact hs.2.2.2) | (exact hs.2.2.2.1) | (exact hs.2.2.2.2) | (exact hs.1.1) | (exact hs.1.2) | (exact hs.2.1.1) | (exact hs.2.1.2) | (unfold chk; grind) | grind
def QiX : List AV → Option (Prop × AV)
  | [.agg [.str s_nm, .sl 1 1 s_pts], .int .i64 b] => some ((((s_pts.map unS).map QH = s_pts)) ∧ ((0 ≤ b ∧ b ≤ 1048576) ∧ (Aw.fitp (Aw.mk s_nm (s_pts.map unS)))), .int .i64 (Aw.sz (Aw.mk s_nm (s_pts.map unS)) b))
  | _ => none
theorem QuO : ∀ args p v, QiX args = some (p, v) → p → Contract P 43 args [] v [] ∧ noref v = true ∧ No99 v := by
  intro args p v h1 h2
  unfold QiX at h1
  split at h1
  · rename_i s_nm s_pts b
    cases h1
    obtain ⟨e0, HP⟩ := h2
    have := QuN (Aw.mk s_nm (s_pts.map unS)) b HP.1 HP.2
    exact ⟨by simpa only [e0, Aw.row] using this, rfl, trivial⟩
  · cases h1
theorem Qs0 (t : Nat) (l : List Aw) (a : Int) (ha : 0 ≤ a ∧ a ≤ 1048576) (hl : l.length ≤ 9223372036854775807 ∧ ∀ y ∈ l, y.fitp) : Contract P 14 [.sl t 2 (l.map (Aw.row 1)), .int .i64 a] [] (.int .i64 (szS Aw.sz l a)) [] := by
  refine Qt ((Env.nil P).add 43 QiX QuO) hm QaH (Nat.le_of_ble_eq_true rfl) rfl ?_; unfold Zm; simp (config := { maxSteps := 2000000 }) only [bitvec_to_nat, reduceIte, Nat.reduceEqDiff, Nat.reduceAdd, Nat.reduceLeDiff, reduceCtorEq, Nat.reduceBEq, Nat.reduceLT, Nat.reduceMod, List.forall_mem_cons, QiX, Qk, Qm, Qa, Q3, Qh, List.take_length, List.length_cons, List.length_nil, Nat.zero_add, QH, QX, Q4, Q6, Pt.row, Ql, Aw.row, Qo, Blk.row, Qb, Sec.row, Qc, Rw.row, Qp, Sky.row, Qd, QA, QB, Qj, Qn, QD, QO, List.take_zero, List.foldl_nil]
  have hz : V6 a l.length = if a - l.length < 0 then -1 else a - l.length := rfl
  refine ⟨by omega, fun h1 => ?_, fun h1 => ?_⟩
  · unfold szS
    rw [(Kl QaT l _ (by omega) (by omega)).2.1 (by omega)]
  have e0 : V6 a l.length = a - l.length := if_neg h1
  refine QV (fun i : Nat => [(1, .int .i64 ((l.take i).foldl (fun a x => x.sz a) (a - l.length))), (5, .int .i64 i)]) (fun _ => []) (fun i => i ≤ l.length ∧ 0 ≤ (l.take i).foldl (fun a x => x.sz a) (a - l.length)) (fun i => l.length - i) (0) (by simp only [JX, JY, JZ, J0, Qw, Qx, Qy, Qz, reduceIte, Nat.reduceEqDiff]; exact ⟨by repeat' (first | exact trivial | refine ⟨.inr rfl, ?_⟩), by repeat' (first | exact trivial | refine ⟨rfl, ?_⟩), by first | rfl | simp [closedB, Qr, Qg, Qi, dom, Qe, *], by first | rfl | simp [keepB, dom]⟩) ?_ ?_
  · simp only [List.take_zero, List.foldl_nil]; omega
  intro i hi NX hN
  have hm := (Kl QaT (l.take i) (a - l.length) (by omega) (by omega)).2.2
  have hg : i < l.length → (l.getD i default).fitp := fun h => hl.2 _ (JD h)
  have hn : i < l.length → (l.take (i + 1)).foldl (fun a x => x.sz a) (a - l.length) = (l.getD i default).sz ((l.take i).foldl (fun a x => x.sz a) (a - l.length)) := fun h => Vf (f := Aw.sz) h
  have hs : i < l.length → (l.getD i default).sz ((l.take i).foldl (fun a x => x.sz a) (a - l.length)) < 0 → szS Aw.sz l a = -1 := fun h h2 => by unfold szS; rw [e0]; exact WL QaT h (by omega) (by omega) h2
  unfold Xc; simp (config := { maxSteps := 2000000 }) only [bitvec_to_nat, reduceIte, Nat.reduceEqDiff, Nat.reduceAdd, Nat.reduceLeDiff, reduceCtorEq, Nat.reduceBEq, Nat.reduceLT, Nat.reduceMod, List.forall_mem_cons, QiX, Qk, Qm, Qa, Q3, Qh, List.take_length, List.length_cons, List.length_nil, Nat.zero_add, QH, QX, Q4, Q6, Pt.row, Ql, Aw.row, Qo, Blk.row, Qb, Sec.row, Qc, Rw.row, Qp, Sky.row, Qd, QA, QB, Qj, Qn, QD, QO, List.take_zero, List.foldl_nil]
  refine ⟨fun h2 => ⟨by omega, by omega, ⟨⟨by omega, by omega⟩, hg (by omega)⟩, fun h3 => by rw [hs (by omega) h3], fun h3 => ⟨by omega, ?_⟩⟩, fun h2 => ?_⟩
  · have e := hn (by omega)
    refine hN (i + 1) _ (by simp only [e, List.length_append, List.length_cons, List.length_nil, Nat.zero_add, List.map_append, List.map_cons, List.map_nil, JX, JY, JZ, J0, Qw, Qx, Qy, Qz, reduceIte, Nat.reduceEqDiff]; exact ⟨by repeat' (first | exact trivial | refine ⟨.inr rfl, ?_⟩), by repeat' (first | exact trivial | refine ⟨rfl, ?_⟩), by first | rfl | simp [closedB, Qr, Qg, Qi, dom, Qe, *], by first | rfl | simp [keepB, dom]⟩) ?_ ?_
    · exact ⟨by omega, by rw [e]; omega⟩
    · omega
  · have e : i = l.length := by omega
    subst e
    simp only [List.take_length]; unfold szS; rw [e0]
def Qhi : List AV → Option (Prop × AV)
  | [.sl lt 2 lx, .int .i64 b] => some ((((lx.map JI).map (Aw.row 1) = lx)) ∧ ((0 ≤ b ∧ b ≤ 1048576) ∧ ((lx.map JI).length ≤ 9223372036854775807 ∧ ∀ y ∈ (lx.map JI), Aw.fitp y)), .int .i64 (szS Aw.sz (lx.map JI) b))
  | _ => none
theorem Qs1 : ∀ args p v, Qhi args = some (p, v) → p → Contract P 14 args [] v [] ∧ noref v = true ∧ No99 v := by
  intro args p v h1 h2
  unfold Qhi at h1
  split at h1
  · rename_i lt lx b
    cases h1
    obtain ⟨e0, HP⟩ := h2
    have := Qs0 lt (lx.map JI) b HP.1 HP.2
    exact ⟨by simpa only [e0] using this, rfl, trivial⟩
  · cases h1
theorem Qs2 (s : Sec) (a : Int) (ha : 0 ≤ a ∧ a ≤ 1048576) (hs : s.fitp) : Contract P 44 [.agg (s.row 1), .int .i64 a] [] (.int .i64 (s.sz a)) [] := by
  unfold Sec.fitp at hs
  simp only [Sec.row]
  refine Qt ((Env.nil P).add 84 QdH QqR) hm QbC (Nat.le_of_ble_eq_true rfl) rfl ?_; unfold Z2; simp (config := { maxSteps := 2000000 }) only [bitvec_to_nat, reduceIte, Nat.reduceEqDiff, Nat.reduceAdd, Nat.reduceLeDiff, reduceCtorEq, Nat.reduceBEq, Nat.reduceLT, Nat.reduceMod, List.forall_mem_cons, QdH, Qk, Qm, Qa, Q3, Qh, List.take_length, List.length_cons, List.length_nil, Nat.zero_add, QH, QX, Q4, Q6, Pt.row, Ql, Aw.row, Qo, Blk.row, Qb, Sec.row, Qc, Rw.row, Qp, Sky.row, Qd, QA, QB, Qj, Qn, QD, QO]
  unfold Sec.sz
  have qbl : (V6 (a - (s.nm.toList.length : Nat)) s.bl.length) ≤ max (a - (s.nm.toList.length : Nat)) (-1) := by unfold V6; split <;> omega
  repeat' (first | with_reducible apply And.intro | with_reducible intro _)
  all_goals first | omega | (exact hs) | (exact hs.1) | (exact hs.2.1) | (exact hs.2.2) | (exact hs.2.2.1) | (exact hs.2.2.2) | (exact hs.2.2.2.1) | (exact hs.2.2.2.2) | (exact hs.1.1) | (exact hs.1.2) | (exact hs.2.1.1) | (exact hs.2.1.2) | (unfold chk; grind) | grind
def QeU : List AV → Option (Prop × AV)
  | [.agg [.str s_nm, .sl 1 6 s_bl], .int .i64 b] => some ((((s_bl.map Yp).map Blk.row = s_bl)) ∧ ((0 ≤ b ∧ b ≤ 1048576) ∧ (Sec.fitp (Sec.mk s_nm (s_bl.map Yp)))), .int .i64 (Sec.sz (Sec.mk s_nm (s_bl.map Yp)) b))
  | _ => none
theorem Qs3 : ∀ args p v, QeU args = some (p, v) → p → Contract P 44 args [] v [] ∧ noref v = true ∧ No99 v := by
  intro args p v h1 h2
  unfold QeU at h1
  split at h1
  · rename_i s_nm s_bl b
    cases h1
    obtain ⟨e0, HP⟩ := h2
    have := Qs2 (Sec.mk s_nm (s_bl.map Yp)) b HP.1 HP.2
    exact ⟨by simpa only [e0, Sec.row] using this, rfl, trivial⟩
  · cases h1
theorem QqS (t : Nat) (l : List Sec) (a : Int) (ha : 0 ≤ a ∧ a ≤ 1048576) (hl : l.length ≤ 9223372036854775807 ∧ ∀ y ∈ l, y.fitp) : Contract P 15 [.sl t 2 (l.map (Sec.row 1)), .int .i64 a] [] (.int .i64 (szS Sec.sz l a)) [] := by
  refine Qt ((Env.nil P).add 44 QeU Qs3) hm QaI (Nat.le_of_ble_eq_true rfl) rfl ?_; unfold Zn; simp (config := { maxSteps := 2000000 }) only [bitvec_to_nat, reduceIte, Nat.reduceEqDiff, Nat.reduceAdd, Nat.reduceLeDiff, reduceCtorEq, Nat.reduceBEq, Nat.reduceLT, Nat.reduceMod, List.forall_mem_cons, QeU, Qk, Qm, Qa, Q3, Qh, List.take_length, List.length_cons, List.length_nil, Nat.zero_add, QH, QX, Q4, Q6, Pt.row, Ql, Aw.row, Qo, Blk.row, Qb, Sec.row, Qc, Rw.row, Qp, Sky.row, Qd, QA, QB, Qj, Qn, QD, QO, List.take_zero, List.foldl_nil]
  have hz : V6 a l.length = if a - l.length < 0 then -1 else a - l.length := rfl
  refine ⟨by omega, fun h1 => ?_, fun h1 => ?_⟩
  · unfold szS
    rw [(Kl Vw l _ (by omega) (by omega)).2.1 (by omega)]
  have e0 : V6 a l.length = a - l.length := if_neg h1
  refine QV (fun i : Nat => [(1, .int .i64 ((l.take i).foldl (fun a x => x.sz a) (a - l.length))), (5, .int .i64 i)]) (fun _ => []) (fun i => i ≤ l.length ∧ 0 ≤ (l.take i).foldl (fun a x => x.sz a) (a - l.length)) (fun i => l.length - i) (0) (by simp only [JX, JY, JZ, J0, Qw, Qx, Qy, Qz, reduceIte, Nat.reduceEqDiff]; exact ⟨by repeat' (first | exact trivial | refine ⟨.inr rfl, ?_⟩), by repeat' (first | exact trivial | refine ⟨rfl, ?_⟩), by first | rfl | simp [closedB, Qr, Qg, Qi, dom, Qe, *], by first | rfl | simp [keepB, dom]⟩) ?_ ?_
  · simp only [List.take_zero, List.foldl_nil]; omega
  intro i hi NX hN
  have hm := (Kl Vw (l.take i) (a - l.length) (by omega) (by omega)).2.2
  have hg : i < l.length → (l.getD i default).fitp := fun h => hl.2 _ (JD h)
  have hn : i < l.length → (l.take (i + 1)).foldl (fun a x => x.sz a) (a - l.length) = (l.getD i default).sz ((l.take i).foldl (fun a x => x.sz a) (a - l.length)) := fun h => Vf (f := Sec.sz) h
  have hs : i < l.length → (l.getD i default).sz ((l.take i).foldl (fun a x => x.sz a) (a - l.length)) < 0 → szS Sec.sz l a = -1 := fun h h2 => by unfold szS; rw [e0]; exact WL Vw h (by omega) (by omega) h2
  unfold Xd; simp (config := { maxSteps := 2000000 }) only [bitvec_to_nat, reduceIte, Nat.reduceEqDiff, Nat.reduceAdd, Nat.reduceLeDiff, reduceCtorEq, Nat.reduceBEq, Nat.reduceLT, Nat.reduceMod, List.forall_mem_cons, QeU, Qk, Qm, Qa, Q3, Qh, List.take_length, List.length_cons, List.length_nil, Nat.zero_add, QH, QX, Q4, Q6, Pt.row, Ql, Aw.row, Qo, Blk.row, Qb, Sec.row, Qc, Rw.row, Qp, Sky.row, Qd, QA, QB, Qj, Qn, QD, QO, List.take_zero, List.foldl_nil]
  refine ⟨fun h2 => ⟨by omega, by omega, ⟨⟨by omega, by omega⟩, hg (by omega)⟩, fun h3 => by rw [hs (by omega) h3], fun h3 => ⟨by omega, ?_⟩⟩, fun h2 => ?_⟩
  · have e := hn (by omega)
    refine hN (i + 1) _ (by simp only [e, List.length_append, List.length_cons, List.length_nil, Nat.zero_add, List.map_append, List.map_cons, List.map_nil, JX, JY, JZ, J0, Qw, Qx, Qy, Qz, reduceIte, Nat.reduceEqDiff]; exact ⟨by repeat' (first | exact trivial | refine ⟨.inr rfl, ?_⟩), by repeat' (first | exact trivial | refine ⟨rfl, ?_⟩), by first | rfl | simp [closedB, Qr, Qg, Qi, dom, Qe, *], by first | rfl | simp [keepB, dom]⟩) ?_ ?_
    · exact ⟨by omega, by rw [e]; omega⟩
    · omega
  · have e : i = l.length := by omega
    subst e
    simp only [List.take_length]; unfold szS; rw [e0]
def QdI : List AV → Option (Prop × AV)
  | [.sl lt 2 lx, .int .i64 b] => some ((((lx.map QP).map (Sec.row 1) = lx)) ∧ ((0 ≤ b ∧ b ≤ 1048576) ∧ ((lx.map QP).length ≤ 9223372036854775807 ∧ ∀ y ∈ (lx.map QP), Sec.fitp y)), .int .i64 (szS Sec.sz (lx.map QP) b))
  | _ => none
theorem QqT : ∀ args p v, QdI args = some (p, v) → p → Contract P 15 args [] v [] ∧ noref v = true ∧ No99 v := by
  intro args p v h1 h2
  unfold QdI at h1
  split at h1
  · rename_i lt lx b
    cases h1
    obtain ⟨e0, HP⟩ := h2
    have := QqS lt (lx.map QP) b HP.1 HP.2
    exact ⟨by simpa only [e0] using this, rfl, trivial⟩
  · cases h1
theorem Qs4 (s : Sky) (a : Int) (ha : 0 ≤ a ∧ a ≤ 1048576) (hs : s.fitp) : Contract P 4 [.agg (s.row 1), .int .i64 a] [] (.int .i64 (s.sz a)) [] := by
  unfold Sky.fitp at hs
  simp only [Sky.row]
  refine Qt (((((Env.nil P).add 14 Qhi Qs1).add 13 Qhg QsX).add 16 Qhh QsZ).add 15 QdI QqT) hm QiE (Nat.le_of_ble_eq_true rfl) rfl ?_; unfold QcT; simp (config := { maxSteps := 2000000 }) only [bitvec_to_nat, reduceIte, Nat.reduceEqDiff, Nat.reduceAdd, Nat.reduceLeDiff, reduceCtorEq, Nat.reduceBEq, Nat.reduceLT, Nat.reduceMod, List.forall_mem_cons, Qhi, Qhg, Qhh, QdI, Qk, Qm, Qa, Q3, Qh, List.take_length, List.length_cons, List.length_nil, Nat.zero_add, QH, QX, Q4, Q6, Pt.row, Ql, Aw.row, Qo, Blk.row, Qb, Sec.row, Qc, Rw.row, Qp, Sky.row, Qd, QA, QB, Qj, Qn, QD, QO]
  unfold Sky.sz
  have qpts : (szS Pt.sz s.pts a) ≤ max a (-1) := (KZ QaR s.pts a (by omega)).2.2
  have qaws : (szS Aw.sz s.aws (szS Pt.sz s.pts a)) ≤ max (szS Pt.sz s.pts a) (-1) := (KZ QaT s.aws (szS Pt.sz s.pts a) (by omega)).2.2
  have qsecs : (szS Sec.sz s.secs (szS Aw.sz s.aws (szS Pt.sz s.pts a))) ≤ max (szS Aw.sz s.aws (szS Pt.sz s.pts a)) (-1) := (KZ Vw s.secs (szS Aw.sz s.aws (szS Pt.sz s.pts a)) (by omega)).2.2
  have qrws : (szS Rw.sz s.rws (szS Sec.sz s.secs (szS Aw.sz s.aws (szS Pt.sz s.pts a)))) ≤ max (szS Sec.sz s.secs (szS Aw.sz s.aws (szS Pt.sz s.pts a))) (-1) := (KZ QaS s.rws (szS Sec.sz s.secs (szS Aw.sz s.aws (szS Pt.sz s.pts a))) (by omega)).2.2
  repeat' (first | with_reducible apply And.intro | with_reducible intro _)
  all_goals first | omega | (exact hs) | (exact hs.1) | (exact hs.2.1) | (exact hs.2.2) | (exact hs.2.2.1) | (exact hs.2.2.2) | (exact hs.2.2.2.1) | (exact hs.2.2.2.2) | (exact hs.1.1) | (exact hs.1.2) | (exact hs.2.1.1) | (exact hs.2.1.2) | (unfold chk; grind) | grind
def K6 : List AV → Option (Prop × AV)
  | [.agg [.int .i64 s_w, .int .i64 s_h, .int .i64 s_lv, .sl 1 3 s_pts, .sl 1 2 s_aws, .sl 1 2 s_secs, .sl 1 4 s_rws], .int .i64 b] => some ((((s_pts.map JA).map Pt.row = s_pts) ∧ ((s_aws.map JI).map (Aw.row 1) = s_aws) ∧ ((s_secs.map QP).map (Sec.row 1) = s_secs) ∧ ((s_rws.map JG).map Rw.row = s_rws)) ∧ ((0 ≤ b ∧ b ≤ 1048576) ∧ (Sky.fitp (Sky.mk s_w s_h s_lv (s_pts.map JA) (s_aws.map JI) (s_secs.map QP) (s_rws.map JG)))), .int .i64 (Sky.sz (Sky.mk s_w s_h s_lv (s_pts.map JA) (s_aws.map JI) (s_secs.map QP) (s_rws.map JG)) b))
  | _ => none
theorem Qs5 : ∀ args p v, K6 args = some (p, v) → p → Contract P 4 args [] v [] ∧ noref v = true ∧ No99 v := by
  intro args p v h1 h2
  unfold K6 at h1
  split at h1
  · rename_i s_w s_h s_lv s_pts s_aws s_secs s_rws b
    cases h1
    obtain ⟨⟨e0, e1, e2, e3⟩, HP⟩ := h2
    have := Qs4 (Sky.mk s_w s_h s_lv (s_pts.map JA) (s_aws.map JI) (s_secs.map QP) (s_rws.map JG)) b HP.1 HP.2
    exact ⟨by simpa only [e0, e1, e2, e3, Sky.row] using this, rfl, trivial⟩
  · cases h1
end
end Go.Ve

namespace Go.Ve
noncomputable section
open Go.Proofs
set_option linter.unusedSimpArgs false
set_option linter.unusedVariables false
set_option maxRecDepth 100000
theorem X2 {lst : List ByteArray} {idx : Nat} {v : ByteArray} : (lst.map QH).set idx (QT ((lst.map QH).getD idx []) 0 [.str v]) = (lst.set idx v).map QH :=
  JR (α := ByteArray) (f := QH) (fun s => v) fun x => by simp [QH, QT]
def J2 (a : List ByteArray) (i : Nat) : List ByteArray := a.take i ++ List.replicate (a.length - i) ⟨#[]⟩
theorem WN {a : List ByteArray} {i : Nat} (h : i < a.length) : (J2 a i).set i (a.getD i default) = J2 a (i + 1) := by
  refine List.ext_getElem (by simp [J2]; omega) fun j h1 h2 => ?_
  by_cases e : j = i
  · subst e
    simp [J2, List.getElem_append, h]
    intro h9; omega
  · simp only [List.getElem_set_ne (Ne.symm e)]
    simp only [J2, List.getElem_append, List.length_take, List.getElem_take, List.getElem_replicate]
    split <;> split <;> first | rfl | omega
theorem Qfw (t : Nat) (a : List ByteArray) (ha : a.length ≤ 1048576) : Contract P 98 [.sl t 1 (a.map QH)] [] (.sl 0 1 (a.map QH)) [] := by
  refine Qt (Env.nil P) hm Qdc (Nat.le_of_ble_eq_true rfl) rfl ?_; unfold VQ; simp (config := { maxSteps := 2000000 }) only [bitvec_to_nat, reduceIte, Nat.reduceEqDiff, Nat.reduceAdd, Nat.reduceLeDiff, reduceCtorEq, Nat.reduceBEq, Nat.reduceLT, Nat.reduceMod, List.forall_mem_cons, Qk, Qm, Qa, Q3, Qh, List.take_length, List.length_cons, List.length_nil, Nat.zero_add, QH, QX, Q4, Q6, Pt.row, Ql, Aw.row, Qo, Blk.row, Qb, Sec.row, Qc, Rw.row, Qp, Sky.row, Qd, QA, QB, Qj, Qn, QD, QO, X2, Nat.sub_zero]
  have m0 : List.replicate a.length [.str ⟨#[]⟩] = (J2 a 0).map QH := by simp [J2, QH]
  refine ⟨by omega, ?_⟩
  refine QV (fun i : Nat => [(4, .int .i64 i)]) (fun i => [(107, .arr 9 0 1 ((J2 a i).map QH))]) (fun i => i ≤ a.length) (fun i => a.length - i) 0 (by simp only [JX, JY, JZ, J0, Qw, Qx, Qy, Qz, reduceIte, Nat.reduceEqDiff]; exact ⟨by repeat' (first | exact trivial | refine ⟨.inr rfl, ?_⟩), ⟨congrArg (fun g => some (AObj.arr 9 0 1 g)) m0, trivial⟩, rfl, rfl⟩) (Nat.zero_le _) ?_
  intro i hi NX hN
  skip
  unfold Ui; simp (config := { maxSteps := 2000000 }) only [bitvec_to_nat, reduceIte, Nat.reduceEqDiff, Nat.reduceAdd, Nat.reduceLeDiff, reduceCtorEq, Nat.reduceBEq, Nat.reduceLT, Nat.reduceMod, List.forall_mem_cons, Qk, Qm, Qa, Q3, Qh, List.take_length, List.length_cons, List.length_nil, Nat.zero_add, QH, QX, Q4, Q6, Pt.row, Ql, Aw.row, Qo, Blk.row, Qb, Sec.row, Qc, Rw.row, Qp, Sky.row, Qd, QA, QB, Qj, Qn, QD, QO, X2, Nat.sub_zero]
  refine ⟨fun h => ?_, fun h => ?_⟩
  · repeat' (first | with_reducible apply And.intro | with_reducible intro _)
    all_goals first
      | omega
      | rfl
      | exact hs2 (by omega)
      | (have e := WN (a := a) (i := i) (by omega)
         try simp only [QH] at *
         refine hN (i + 1) _ ⟨by repeat' (first | exact trivial | refine ⟨.inr rfl, ?_⟩), ⟨congrArg (fun g => some (AObj.arr 9 0 1 (List.map QH g))) e, trivial⟩, rfl, rfl⟩ ?_ ?_ <;> omega)
  · have e : i = a.length := by omega
    subst e
    simp only [J2, List.take_length, Nat.sub_self, List.replicate_zero, List.append_nil]
    try rw [List.take_of_length_le (by simp)]
def Vz : List AV → Option (Prop × AV)
  | [.sl st 1 sx] => some ((((sx.map unS).map QH = sx)) ∧ ((sx.map unS).length ≤ 1048576), .sl 0 1 ((sx.map unS).map QH))
  | _ => none
theorem Qj8 : ∀ args p v, Vz args = some (p, v) → p → Contract P 98 args [] v [] ∧ noref v = true ∧ No99 v := by
  intro args p v h1 h2
  unfold Vz at h1
  split at h1
  · rename_i st sx
    cases h1
    obtain ⟨e0, HP⟩ := h2
    have := Qfw st (sx.map unS) HP
    exact ⟨by simpa only [e0] using this, rfl, by simp [No99, Ko, Gy, WD, Kp, Gc, G4, KI, Yq, Gd, Gz, -List.map_map]⟩
  · cases h1
theorem Qfx (t t' : Nat) (p q : List ByteArray) (hp : p.length ≤ 4611686018427387904) : Contract P 104 [.sl t 1 (p.map QH), .sl t' 1 (q.map QH)] [] (.bool (decide (p = q))) [] := by
  refine Qt (Env.nil P) hm Qde (Nat.le_of_ble_eq_true rfl) rfl ?_; unfold VS; simp (config := { maxSteps := 2000000 }) only [bitvec_to_nat, reduceIte, Nat.reduceEqDiff, Nat.reduceAdd, Nat.reduceLeDiff, reduceCtorEq, Nat.reduceBEq, Nat.reduceLT, Nat.reduceMod, List.forall_mem_cons, Qk, Qm, Qa, Q3, Qh, List.take_length, List.length_cons, List.length_nil, Nat.zero_add, QH, QX, Q4, Q6, Pt.row, Ql, Aw.row, Qo, Blk.row, Qb, Sec.row, Qc, Rw.row, Qp, Sky.row, Qd, QA, QB, Qj, Qn, QD, QO]
  refine ⟨fun h1 h => h1 (by rw [h]), fun h1 => ?_⟩
  refine QV (fun i : Nat => [(5, .int .i64 i)]) (fun _ => []) (fun i => i ≤ p.length ∧ ∀ j, j < i → p.getD j default = q.getD j default) (fun i => p.length - i) (0) (by simp only [JX, JY, JZ, J0, Qw, Qx, Qy, Qz, reduceIte, Nat.reduceEqDiff]; exact ⟨by repeat' (first | exact trivial | refine ⟨.inr rfl, ?_⟩), by repeat' (first | exact trivial | refine ⟨rfl, ?_⟩), by first | rfl | simp [closedB, Qr, Qg, Qi, dom, Qe, *], by first | rfl | simp [keepB, dom]⟩) ?_ ?_
  · exact ⟨Nat.zero_le _, by intro j hj; omega⟩
  intro i hi NX hN
  unfold Um; simp (config := { maxSteps := 2000000 }) only [bitvec_to_nat, reduceIte, Nat.reduceEqDiff, Nat.reduceAdd, Nat.reduceLeDiff, reduceCtorEq, Nat.reduceBEq, Nat.reduceLT, Nat.reduceMod, List.forall_mem_cons, Qk, Qm, Qa, Q3, Qh, List.take_length, List.length_cons, List.length_nil, Nat.zero_add, QH, QX, Q4, Q6, Pt.row, Ql, Aw.row, Qo, Blk.row, Qb, Sec.row, Qc, Rw.row, Qp, Sky.row, Qd, QA, QB, Qj, Qn, QD, QO]
  skip
  repeat' (first | with_reducible apply And.intro | with_reducible intro _)
  all_goals first
    | omega
    | (refine hN (i + 1) _ (by simp only [JX, JY, JZ, J0, Qw, Qx, Qy, Qz, reduceIte, Nat.reduceEqDiff]; exact ⟨by repeat' (first | exact trivial | refine ⟨.inr rfl, ?_⟩), by repeat' (first | exact trivial | refine ⟨rfl, ?_⟩), by first | rfl | simp [closedB, Qr, Qg, Qi, dom, Qe, *], by first | rfl | simp [keepB, dom]⟩) ?_ ?_
       · exact ⟨by omega, JB hi.2 (by with_reducible assumption)⟩
       · omega)
    | (intro h; subst h; exact absurd rfl (by with_reducible assumption))
    | (exact XR (by omega) fun j hj => hi.2 j (by omega))
    | grind
def VA : List AV → Option (Prop × AV)
  | [.sl ct 1 cx, .sl dt 1 dx] => some ((((cx.map unS).map QH = cx) ∧ ((dx.map unS).map QH = dx)) ∧ ((cx.map unS).length ≤ 4611686018427387904), .bool (decide ((cx.map unS) = (dx.map unS))))
  | _ => none
theorem Qj9 : ∀ args p v, VA args = some (p, v) → p → Contract P 104 args [] v [] ∧ noref v = true ∧ No99 v := by
  intro args p v h1 h2
  unfold VA at h1
  split at h1
  · rename_i ct cx dt dx
    cases h1
    obtain ⟨⟨e0, e1⟩, HP⟩ := h2
    have := Qfx ct dt (cx.map unS) (dx.map unS) HP
    exact ⟨by simpa only [e0, e1] using this, rfl, trivial⟩
  · cases h1
theorem QuP (s : Pt) : Contract P 56 [.agg (s.row)] [] (.agg (s.row)) [] := by
  simp only [Pt.row]
  refine Qt (Env.nil P) hm Qcy (Nat.le_of_ble_eq_true rfl) rfl ?_; unfold U4; simp (config := { maxSteps := 2000000 }) only [bitvec_to_nat, reduceIte, Nat.reduceEqDiff, Nat.reduceAdd, Nat.reduceLeDiff, reduceCtorEq, Nat.reduceBEq, Nat.reduceLT, Nat.reduceMod, List.forall_mem_cons, Qk, Qm, Qa, Q3, Qh, List.take_length, List.length_cons, List.length_nil, Nat.zero_add, QH, QX, Q4, Q6, Pt.row, Ql, Aw.row, Qo, Blk.row, Qb, Sec.row, Qc, Rw.row, Qp, Sky.row, Qd, QA, QB, Qj, Qn, QD, QO]
  all_goals trivial
def Qc1 : List AV → Option (Prop × AV)
  | [.agg [.str s_nm, .int .i64 s_x, .int .i64 s_y]] => some ((True) ∧ (True), .agg (Pt.row (Pt.mk s_nm s_x s_y)))
  | _ => none
theorem Qr4 : ∀ args p v, Qc1 args = some (p, v) → p → Contract P 56 args [] v [] ∧ noref v = true ∧ No99 v := by
  intro args p v h1 h2
  unfold Qc1 at h1
  split at h1
  · rename_i s_nm s_x s_y
    cases h1
    obtain ⟨_, HP⟩ := h2
    have := QuP (Pt.mk s_nm s_x s_y)
    exact ⟨by simpa only [Pt.row] using this, rfl, by simp [Pt.row, No99, Ko, Gy, WD, Kp, Gc, G4, KI, Yq, Gd, Gz, -List.map_map]⟩
  · cases h1
theorem Qly {lst : List Pt} {idx : Nat} {vnm : ByteArray} {vx : Int} {vy : Int} : (lst.map Pt.row).set idx (QT ((lst.map Pt.row).getD idx []) 0 [.str vnm, .int .i64 vx, .int .i64 vy]) = (lst.set idx (Pt.mk vnm vx vy)).map Pt.row :=
  JR (α := Pt) (f := Pt.row) (fun s => (Pt.mk vnm vx vy)) fun x => by simp [Pt.row, QT]
def QcD (a : List Pt) (i : Nat) : List Pt := a.take i ++ List.replicate (a.length - i) ⟨⟨#[]⟩, 0, 0⟩
theorem Qlz {a : List Pt} {i : Nat} (h : i < a.length) : (QcD a i).set i (a.getD i default) = QcD a (i + 1) := by
  refine List.ext_getElem (by simp [QcD]; omega) fun j h1 h2 => ?_
  by_cases e : j = i
  · subst e
    simp [QcD, List.getElem_append, h]
    intro h9; omega
  · simp only [List.getElem_set_ne (Ne.symm e)]
    simp only [QcD, List.getElem_append, List.length_take, List.getElem_take, List.getElem_replicate]
    split <;> split <;> first | rfl | omega
theorem Qs6 (t : Nat) (a : List Pt) (ha : a.length ≤ 1048576) : Contract P 21 [.sl t 3 (a.map Pt.row)] [] (.sl 0 3 (a.map Pt.row)) [] := by
  refine Qt ((Env.nil P).add 56 Qc1 Qr4) hm Qbv (Nat.le_of_ble_eq_true rfl) rfl ?_; unfold ZR; simp (config := { maxSteps := 2000000 }) only [bitvec_to_nat, reduceIte, Nat.reduceEqDiff, Nat.reduceAdd, Nat.reduceLeDiff, reduceCtorEq, Nat.reduceBEq, Nat.reduceLT, Nat.reduceMod, List.forall_mem_cons, Qc1, Qk, Qm, Qa, Q3, Qh, List.take_length, List.length_cons, List.length_nil, Nat.zero_add, QH, QX, Q4, Q6, Pt.row, Ql, Aw.row, Qo, Blk.row, Qb, Sec.row, Qc, Rw.row, Qp, Sky.row, Qd, QA, QB, Qj, Qn, QD, QO, Qly, Nat.sub_zero]
  have m0 : List.replicate a.length [.str ⟨#[]⟩, .int .i64 0, .int .i64 0] = (QcD a 0).map Pt.row := by simp [QcD, Pt.row]
  refine ⟨by omega, ?_⟩
  refine QV (fun i : Nat => [(4, .int .i64 i)]) (fun i => [(107, .arr 58 0 3 ((QcD a i).map Pt.row))]) (fun i => i ≤ a.length) (fun i => a.length - i) 0 (by simp only [JX, JY, JZ, J0, Qw, Qx, Qy, Qz, reduceIte, Nat.reduceEqDiff]; exact ⟨by repeat' (first | exact trivial | refine ⟨.inr rfl, ?_⟩), ⟨congrArg (fun g => some (AObj.arr 58 0 3 g)) m0, trivial⟩, rfl, rfl⟩) (Nat.zero_le _) ?_
  intro i hi NX hN
  skip
  unfold XA; simp (config := { maxSteps := 2000000 }) only [bitvec_to_nat, reduceIte, Nat.reduceEqDiff, Nat.reduceAdd, Nat.reduceLeDiff, reduceCtorEq, Nat.reduceBEq, Nat.reduceLT, Nat.reduceMod, List.forall_mem_cons, Qc1, Qk, Qm, Qa, Q3, Qh, List.take_length, List.length_cons, List.length_nil, Nat.zero_add, QH, QX, Q4, Q6, Pt.row, Ql, Aw.row, Qo, Blk.row, Qb, Sec.row, Qc, Rw.row, Qp, Sky.row, Qd, QA, QB, Qj, Qn, QD, QO, Qly, Nat.sub_zero]
  refine ⟨fun h => ?_, fun h => ?_⟩
  · repeat' (first | with_reducible apply And.intro | with_reducible intro _)
    all_goals first
      | omega
      | rfl
      | exact hs2 (by omega)
      | (have e := Qlz (a := a) (i := i) (by omega)
         try simp only [Pt.row] at *
         refine hN (i + 1) _ ⟨by repeat' (first | exact trivial | refine ⟨.inr rfl, ?_⟩), ⟨congrArg (fun g => some (AObj.arr 58 0 3 (List.map Pt.row g))) e, trivial⟩, rfl, rfl⟩ ?_ ?_ <;> omega)
  · have e : i = a.length := by omega
    subst e
    simp only [QcD, List.take_length, Nat.sub_self, List.replicate_zero, List.append_nil]
    try rw [List.take_of_length_le (by simp)]
def Qhj : List AV → Option (Prop × AV)
  | [.sl st 3 sx] => some ((((sx.map JA).map Pt.row = sx)) ∧ ((sx.map JA).length ≤ 1048576), .sl 0 3 ((sx.map JA).map Pt.row))
  | _ => none
theorem Qs7 : ∀ args p v, Qhj args = some (p, v) → p → Contract P 21 args [] v [] ∧ noref v = true ∧ No99 v := by
  intro args p v h1 h2
  unfold Qhj at h1
  split at h1
  · rename_i st sx
    cases h1
    obtain ⟨e0, HP⟩ := h2
    have := Qs6 st (sx.map JA) HP
    exact ⟨by simpa only [e0] using this, rfl, by simp [No99, Ko, Gy, WD, Kp, Gc, G4, KI, Yq, Gd, Gz, -List.map_map]⟩
  · cases h1
theorem QuQ (c d : Pt)  : Contract P 74 [.agg (c.row), .agg (d.row)] [] (.bool (decide (c = d))) [] := by
  obtain ⟨c_nm, c_x, c_y⟩ := c
  obtain ⟨d_nm, d_x, d_y⟩ := d
  simp only [Pt.row]
  refine Qt (Env.nil P) hm Qcz (Nat.le_of_ble_eq_true rfl) rfl ?_; unfold U6; simp (config := { maxSteps := 2000000 }) only [bitvec_to_nat, reduceIte, Nat.reduceEqDiff, Nat.reduceAdd, Nat.reduceLeDiff, reduceCtorEq, Nat.reduceBEq, Nat.reduceLT, Nat.reduceMod, List.forall_mem_cons, Qk, Qm, Qa, Q3, Qh, List.take_length, List.length_cons, List.length_nil, Nat.zero_add, QH, QX, Q4, Q6, Pt.row, Ql, Aw.row, Qo, Blk.row, Qb, Sec.row, Qc, Rw.row, Qp, Sky.row, Qd, QA, QB, Qj, Qn, QD, QO]
  simp only [Pt.mk.injEq]
  repeat' (first | with_reducible apply And.intro | with_reducible intro _)
  all_goals first | omega | (simp_all; done) | grind
def QiY : List AV → Option (Prop × AV)
  | [.agg [.str c_nm, .int .i64 c_x, .int .i64 c_y], .agg [.str d_nm, .int .i64 d_x, .int .i64 d_y]] => some ((True) ∧ (True), .bool (decide ((Pt.mk c_nm c_x c_y) = (Pt.mk d_nm d_x d_y))))
  | _ => none
theorem QuR : ∀ args p v, QiY args = some (p, v) → p → Contract P 74 args [] v [] ∧ noref v = true ∧ No99 v := by
  intro args p v h1 h2
  unfold QiY at h1
  split at h1
  · rename_i c_nm c_x c_y d_nm d_x d_y
    cases h1
    obtain ⟨_, HP⟩ := h2
    have := QuQ (Pt.mk c_nm c_x c_y) (Pt.mk d_nm d_x d_y)
    exact ⟨by simpa only [Pt.row, Pt.row] using this, rfl, trivial⟩
  · cases h1
theorem Qs8 (t t' : Nat) (p q : List Pt) (hp : p.length ≤ 4611686018427387904) : Contract P 30 [.sl t 3 (p.map Pt.row), .sl t' 3 (q.map Pt.row)] [] (.bool (decide (p = q))) [] := by
  refine Qt ((Env.nil P).add 74 QiY QuR) hm Qbw (Nat.le_of_ble_eq_true rfl) rfl ?_; unfold ZW; simp (config := { maxSteps := 2000000 }) only [bitvec_to_nat, reduceIte, Nat.reduceEqDiff, Nat.reduceAdd, Nat.reduceLeDiff, reduceCtorEq, Nat.reduceBEq, Nat.reduceLT, Nat.reduceMod, List.forall_mem_cons, QiY, Qk, Qm, Qa, Q3, Qh, List.take_length, List.length_cons, List.length_nil, Nat.zero_add, QH, QX, Q4, Q6, Pt.row, Ql, Aw.row, Qo, Blk.row, Qb, Sec.row, Qc, Rw.row, Qp, Sky.row, Qd, QA, QB, Qj, Qn, QD, QO]
  refine ⟨fun h1 h => h1 (by rw [h]), fun h1 => ?_⟩
  refine QV (fun i : Nat => [(5, .int .i64 i)]) (fun _ => []) (fun i => i ≤ p.length ∧ ∀ j, j < i → p.getD j default = q.getD j default) (fun i => p.length - i) (0) (by simp only [JX, JY, JZ, J0, Qw, Qx, Qy, Qz, reduceIte, Nat.reduceEqDiff]; exact ⟨by repeat' (first | exact trivial | refine ⟨.inr rfl, ?_⟩), by repeat' (first | exact trivial | refine ⟨rfl, ?_⟩), by first | rfl | simp [closedB, Qr, Qg, Qi, dom, Qe, *], by first | rfl | simp [keepB, dom]⟩) ?_ ?_
  · exact ⟨Nat.zero_le _, by intro j hj; omega⟩
  intro i hi NX hN
  unfold XB; simp (config := { maxSteps := 2000000 }) only [bitvec_to_nat, reduceIte, Nat.reduceEqDiff, Nat.reduceAdd, Nat.reduceLeDiff, reduceCtorEq, Nat.reduceBEq, Nat.reduceLT, Nat.reduceMod, List.forall_mem_cons, QiY, Qk, Qm, Qa, Q3, Qh, List.take_length, List.length_cons, List.length_nil, Nat.zero_add, QH, QX, Q4, Q6, Pt.row, Ql, Aw.row, Qo, Blk.row, Qb, Sec.row, Qc, Rw.row, Qp, Sky.row, Qd, QA, QB, Qj, Qn, QD, QO]
  skip
  repeat' (first | with_reducible apply And.intro | with_reducible intro _)
  all_goals first
    | omega
    | (refine hN (i + 1) _ (by simp only [JX, JY, JZ, J0, Qw, Qx, Qy, Qz, reduceIte, Nat.reduceEqDiff]; exact ⟨by repeat' (first | exact trivial | refine ⟨.inr rfl, ?_⟩), by repeat' (first | exact trivial | refine ⟨rfl, ?_⟩), by first | rfl | simp [closedB, Qr, Qg, Qi, dom, Qe, *], by first | rfl | simp [keepB, dom]⟩) ?_ ?_
       · exact ⟨by omega, JB hi.2 (by with_reducible assumption)⟩
       · omega)
    | (intro h; subst h; exact absurd rfl (by with_reducible assumption))
    | (exact XR (by omega) fun j hj => hi.2 j (by omega))
    | grind
def Qhk : List AV → Option (Prop × AV)
  | [.sl ct 3 cx, .sl dt 3 dx] => some ((((cx.map JA).map Pt.row = cx) ∧ ((dx.map JA).map Pt.row = dx)) ∧ ((cx.map JA).length ≤ 4611686018427387904), .bool (decide ((cx.map JA) = (dx.map JA))))
  | _ => none
theorem Qs9 : ∀ args p v, Qhk args = some (p, v) → p → Contract P 30 args [] v [] ∧ noref v = true ∧ No99 v := by
  intro args p v h1 h2
  unfold Qhk at h1
  split at h1
  · rename_i ct cx dt dx
    cases h1
    obtain ⟨⟨e0, e1⟩, HP⟩ := h2
    have := Qs8 ct dt (cx.map JA) (dx.map JA) HP
    exact ⟨by simpa only [e0, e1] using this, rfl, trivial⟩
  · cases h1
theorem Qta (s : Blk) : Contract P 107 [.agg (s.row)] [] (.agg (s.row)) [] := by
  simp only [Blk.row]
  refine Qt (Env.nil P) hm QcA (Nat.le_of_ble_eq_true rfl) rfl ?_; unfold Vb; simp (config := { maxSteps := 2000000 }) only [bitvec_to_nat, reduceIte, Nat.reduceEqDiff, Nat.reduceAdd, Nat.reduceLeDiff, reduceCtorEq, Nat.reduceBEq, Nat.reduceLT, Nat.reduceMod, List.forall_mem_cons, Qk, Qm, Qa, Q3, Qh, List.take_length, List.length_cons, List.length_nil, Nat.zero_add, QH, QX, Q4, Q6, Pt.row, Ql, Aw.row, Qo, Blk.row, Qb, Sec.row, Qc, Rw.row, Qp, Sky.row, Qd, QA, QB, Qj, Qn, QD, QO]
  all_goals trivial
def WO : List AV → Option (Prop × AV)
  | [.agg [.int .i64 s_x0, .int .i64 s_y0, .int .i64 s_x1, .int .i64 s_y1, .int .i64 s_lo, .int .i64 s_hi]] => some ((True) ∧ (True), .agg (Blk.row (Blk.mk s_x0 s_y0 s_x1 s_y1 s_lo s_hi)))
  | _ => none
theorem Qoa : ∀ args p v, WO args = some (p, v) → p → Contract P 107 args [] v [] ∧ noref v = true ∧ No99 v := by
  intro args p v h1 h2
  unfold WO at h1
  split at h1
  · rename_i s_x0 s_y0 s_x1 s_y1 s_lo s_hi
    cases h1
    obtain ⟨_, HP⟩ := h2
    have := Qta (Blk.mk s_x0 s_y0 s_x1 s_y1 s_lo s_hi)
    exact ⟨by simpa only [Blk.row] using this, rfl, by simp [Blk.row, No99, Ko, Gy, WD, Kp, Gc, G4, KI, Yq, Gd, Gz, -List.map_map]⟩
  · cases h1
theorem Qhl {lst : List Blk} {idx : Nat} {vx0 : Int} {vy0 : Int} {vx1 : Int} {vy1 : Int} {vlo : Int} {vhi : Int} : (lst.map Blk.row).set idx (QT ((lst.map Blk.row).getD idx []) 0 [.int .i64 vx0, .int .i64 vy0, .int .i64 vx1, .int .i64 vy1, .int .i64 vlo, .int .i64 vhi]) = (lst.set idx (Blk.mk vx0 vy0 vx1 vy1 vlo vhi)).map Blk.row :=
  JR (α := Blk) (f := Blk.row) (fun s => (Blk.mk vx0 vy0 vx1 vy1 vlo vhi)) fun x => by simp [Blk.row, QT]
def Vi (a : List Blk) (i : Nat) : List Blk := a.take i ++ List.replicate (a.length - i) ⟨0, 0, 0, 0, 0, 0⟩
theorem QiZ {a : List Blk} {i : Nat} (h : i < a.length) : (Vi a i).set i (a.getD i default) = Vi a (i + 1) := by
  refine List.ext_getElem (by simp [Vi]; omega) fun j h1 h2 => ?_
  by_cases e : j = i
  · subst e
    simp [Vi, List.getElem_append, h]
    intro h9; omega
  · simp only [List.getElem_set_ne (Ne.symm e)]
    simp only [Vi, List.getElem_append, List.length_take, List.getElem_take, List.getElem_replicate]
    split <;> split <;> first | rfl | omega
theorem QqU (t : Nat) (a : List Blk) (ha : a.length ≤ 1048576) : Contract P 99 [.sl t 6 (a.map Blk.row)] [] (.sl 0 6 (a.map Blk.row)) [] := by
  refine Qt ((Env.nil P).add 107 WO Qoa) hm QbU (Nat.le_of_ble_eq_true rfl) rfl ?_; unfold Uj; simp (config := { maxSteps := 2000000 }) only [bitvec_to_nat, reduceIte, Nat.reduceEqDiff, Nat.reduceAdd, Nat.reduceLeDiff, reduceCtorEq, Nat.reduceBEq, Nat.reduceLT, Nat.reduceMod, List.forall_mem_cons, WO, Qk, Qm, Qa, Q3, Qh, List.take_length, List.length_cons, List.length_nil, Nat.zero_add, QH, QX, Q4, Q6, Pt.row, Ql, Aw.row, Qo, Blk.row, Qb, Sec.row, Qc, Rw.row, Qp, Sky.row, Qd, QA, QB, Qj, Qn, QD, QO, Qhl, Nat.sub_zero]
  have m0 : List.replicate a.length [.int .i64 0, .int .i64 0, .int .i64 0, .int .i64 0, .int .i64 0, .int .i64 0] = (Vi a 0).map Blk.row := by simp [Vi, Blk.row]
  refine ⟨by omega, ?_⟩
  refine QV (fun i : Nat => [(4, .int .i64 i)]) (fun i => [(107, .arr 122 0 6 ((Vi a i).map Blk.row))]) (fun i => i ≤ a.length) (fun i => a.length - i) 0 (by simp only [JX, JY, JZ, J0, Qw, Qx, Qy, Qz, reduceIte, Nat.reduceEqDiff]; exact ⟨by repeat' (first | exact trivial | refine ⟨.inr rfl, ?_⟩), ⟨congrArg (fun g => some (AObj.arr 122 0 6 g)) m0, trivial⟩, rfl, rfl⟩) (Nat.zero_le _) ?_
  intro i hi NX hN
  skip
  unfold XM; simp (config := { maxSteps := 2000000 }) only [bitvec_to_nat, reduceIte, Nat.reduceEqDiff, Nat.reduceAdd, Nat.reduceLeDiff, reduceCtorEq, Nat.reduceBEq, Nat.reduceLT, Nat.reduceMod, List.forall_mem_cons, WO, Qk, Qm, Qa, Q3, Qh, List.take_length, List.length_cons, List.length_nil, Nat.zero_add, QH, QX, Q4, Q6, Pt.row, Ql, Aw.row, Qo, Blk.row, Qb, Sec.row, Qc, Rw.row, Qp, Sky.row, Qd, QA, QB, Qj, Qn, QD, QO, Qhl, Nat.sub_zero]
  refine ⟨fun h => ?_, fun h => ?_⟩
  · repeat' (first | with_reducible apply And.intro | with_reducible intro _)
    all_goals first
      | omega
      | rfl
      | exact hs2 (by omega)
      | (have e := QiZ (a := a) (i := i) (by omega)
         try simp only [Blk.row] at *
         refine hN (i + 1) _ ⟨by repeat' (first | exact trivial | refine ⟨.inr rfl, ?_⟩), ⟨congrArg (fun g => some (AObj.arr 122 0 6 (List.map Blk.row g))) e, trivial⟩, rfl, rfl⟩ ?_ ?_ <;> omega)
  · have e : i = a.length := by omega
    subst e
    simp only [Vi, List.take_length, Nat.sub_self, List.replicate_zero, List.append_nil]
    try rw [List.take_of_length_le (by simp)]
def QdJ : List AV → Option (Prop × AV)
  | [.sl st 6 sx] => some ((((sx.map Yp).map Blk.row = sx)) ∧ ((sx.map Yp).length ≤ 1048576), .sl 0 6 ((sx.map Yp).map Blk.row))
  | _ => none
theorem QqV : ∀ args p v, QdJ args = some (p, v) → p → Contract P 99 args [] v [] ∧ noref v = true ∧ No99 v := by
  intro args p v h1 h2
  unfold QdJ at h1
  split at h1
  · rename_i st sx
    cases h1
    obtain ⟨e0, HP⟩ := h2
    have := QqU st (sx.map Yp) HP
    exact ⟨by simpa only [e0] using this, rfl, by simp [No99, Ko, Gy, WD, Kp, Gc, G4, KI, Yq, Gd, Gz, -List.map_map]⟩
  · cases h1
theorem Qtb (c d : Blk)  : Contract P 110 [.agg (c.row), .agg (d.row)] [] (.bool (decide (c = d))) [] := by
  obtain ⟨c_x0, c_y0, c_x1, c_y1, c_lo, c_hi⟩ := c
  obtain ⟨d_x0, d_y0, d_x1, d_y1, d_lo, d_hi⟩ := d
  simp only [Blk.row]
  refine Qt (Env.nil P) hm QcB (Nat.le_of_ble_eq_true rfl) rfl ?_; unfold Vc; simp (config := { maxSteps := 2000000 }) only [bitvec_to_nat, reduceIte, Nat.reduceEqDiff, Nat.reduceAdd, Nat.reduceLeDiff, reduceCtorEq, Nat.reduceBEq, Nat.reduceLT, Nat.reduceMod, List.forall_mem_cons, Qk, Qm, Qa, Q3, Qh, List.take_length, List.length_cons, List.length_nil, Nat.zero_add, QH, QX, Q4, Q6, Pt.row, Ql, Aw.row, Qo, Blk.row, Qb, Sec.row, Qc, Rw.row, Qp, Sky.row, Qd, QA, QB, Qj, Qn, QD, QO]
  simp only [Blk.mk.injEq]
  repeat' (first | with_reducible apply And.intro | with_reducible intro _)
  all_goals first | omega | (simp_all; done) | grind
def QeV : List AV → Option (Prop × AV)
  | [.agg [.int .i64 c_x0, .int .i64 c_y0, .int .i64 c_x1, .int .i64 c_y1, .int .i64 c_lo, .int .i64 c_hi], .agg [.int .i64 d_x0, .int .i64 d_y0, .int .i64 d_x1, .int .i64 d_y1, .int .i64 d_lo, .int .i64 d_hi]] => some ((True) ∧ (True), .bool (decide ((Blk.mk c_x0 c_y0 c_x1 c_y1 c_lo c_hi) = (Blk.mk d_x0 d_y0 d_x1 d_y1 d_lo d_hi))))
  | _ => none
theorem Qtc : ∀ args p v, QeV args = some (p, v) → p → Contract P 110 args [] v [] ∧ noref v = true ∧ No99 v := by
  intro args p v h1 h2
  unfold QeV at h1
  split at h1
  · rename_i c_x0 c_y0 c_x1 c_y1 c_lo c_hi d_x0 d_y0 d_x1 d_y1 d_lo d_hi
    cases h1
    obtain ⟨_, HP⟩ := h2
    have := Qtb (Blk.mk c_x0 c_y0 c_x1 c_y1 c_lo c_hi) (Blk.mk d_x0 d_y0 d_x1 d_y1 d_lo d_hi)
    exact ⟨by simpa only [Blk.row, Blk.row] using this, rfl, trivial⟩
  · cases h1
theorem QqW (t t' : Nat) (p q : List Blk) (hp : p.length ≤ 4611686018427387904) : Contract P 105 [.sl t 6 (p.map Blk.row), .sl t' 6 (q.map Blk.row)] [] (.bool (decide (p = q))) [] := by
  refine Qt ((Env.nil P).add 110 QeV Qtc) hm QbW (Nat.le_of_ble_eq_true rfl) rfl ?_; unfold Un; simp (config := { maxSteps := 2000000 }) only [bitvec_to_nat, reduceIte, Nat.reduceEqDiff, Nat.reduceAdd, Nat.reduceLeDiff, reduceCtorEq, Nat.reduceBEq, Nat.reduceLT, Nat.reduceMod, List.forall_mem_cons, QeV, Qk, Qm, Qa, Q3, Qh, List.take_length, List.length_cons, List.length_nil, Nat.zero_add, QH, QX, Q4, Q6, Pt.row, Ql, Aw.row, Qo, Blk.row, Qb, Sec.row, Qc, Rw.row, Qp, Sky.row, Qd, QA, QB, Qj, Qn, QD, QO]
  refine ⟨fun h1 h => h1 (by rw [h]), fun h1 => ?_⟩
  refine QV (fun i : Nat => [(5, .int .i64 i)]) (fun _ => []) (fun i => i ≤ p.length ∧ ∀ j, j < i → p.getD j default = q.getD j default) (fun i => p.length - i) (0) (by simp only [JX, JY, JZ, J0, Qw, Qx, Qy, Qz, reduceIte, Nat.reduceEqDiff]; exact ⟨by repeat' (first | exact trivial | refine ⟨.inr rfl, ?_⟩), by repeat' (first | exact trivial | refine ⟨rfl, ?_⟩), by first | rfl | simp [closedB, Qr, Qg, Qi, dom, Qe, *], by first | rfl | simp [keepB, dom]⟩) ?_ ?_
  · exact ⟨Nat.zero_le _, by intro j hj; omega⟩
  intro i hi NX hN
  unfold XN; simp (config := { maxSteps := 2000000 }) only [bitvec_to_nat, reduceIte, Nat.reduceEqDiff, Nat.reduceAdd, Nat.reduceLeDiff, reduceCtorEq, Nat.reduceBEq, Nat.reduceLT, Nat.reduceMod, List.forall_mem_cons, QeV, Qk, Qm, Qa, Q3, Qh, List.take_length, List.length_cons, List.length_nil, Nat.zero_add, QH, QX, Q4, Q6, Pt.row, Ql, Aw.row, Qo, Blk.row, Qb, Sec.row, Qc, Rw.row, Qp, Sky.row, Qd, QA, QB, Qj, Qn, QD, QO]
  skip
  repeat' (first | with_reducible apply And.intro | with_reducible intro _)
  all_goals first
    | omega
    | (refine hN (i + 1) _ (by simp only [JX, JY, JZ, J0, Qw, Qx, Qy, Qz, reduceIte, Nat.reduceEqDiff]; exact ⟨by repeat' (first | exact trivial | refine ⟨.inr rfl, ?_⟩), by repeat' (first | exact trivial | refine ⟨rfl, ?_⟩), by first | rfl | simp [closedB, Qr, Qg, Qi, dom, Qe, *], by first | rfl | simp [keepB, dom]⟩) ?_ ?_
       · exact ⟨by omega, JB hi.2 (by with_reducible assumption)⟩
       · omega)
    | (intro h; subst h; exact absurd rfl (by with_reducible assumption))
    | (exact XR (by omega) fun j hj => hi.2 j (by omega))
    | grind
def QdK : List AV → Option (Prop × AV)
  | [.sl ct 6 cx, .sl dt 6 dx] => some ((((cx.map Yp).map Blk.row = cx) ∧ ((dx.map Yp).map Blk.row = dx)) ∧ ((cx.map Yp).length ≤ 4611686018427387904), .bool (decide ((cx.map Yp) = (dx.map Yp))))
  | _ => none
theorem QqX : ∀ args p v, QdK args = some (p, v) → p → Contract P 105 args [] v [] ∧ noref v = true ∧ No99 v := by
  intro args p v h1 h2
  unfold QdK at h1
  split at h1
  · rename_i ct cx dt dx
    cases h1
    obtain ⟨⟨e0, e1⟩, HP⟩ := h2
    have := QqW ct dt (cx.map Yp) (dx.map Yp) HP
    exact ⟨by simpa only [e0, e1] using this, rfl, trivial⟩
  · cases h1
theorem QuS (s : Rw) : Contract P 59 [.agg (s.row)] [] (.agg (s.row)) [] := by
  simp only [Rw.row]
  refine Qt (Env.nil P) hm QbI (Nat.le_of_ble_eq_true rfl) rfl ?_; unfold Z9; simp (config := { maxSteps := 2000000 }) only [bitvec_to_nat, reduceIte, Nat.reduceEqDiff, Nat.reduceAdd, Nat.reduceLeDiff, reduceCtorEq, Nat.reduceBEq, Nat.reduceLT, Nat.reduceMod, List.forall_mem_cons, Qk, Qm, Qa, Q3, Qh, List.take_length, List.length_cons, List.length_nil, Nat.zero_add, QH, QX, Q4, Q6, Pt.row, Ql, Aw.row, Qo, Blk.row, Qb, Sec.row, Qc, Rw.row, Qp, Sky.row, Qd, QA, QB, Qj, Qn, QD, QO]
  all_goals trivial
def Qc2 : List AV → Option (Prop × AV)
  | [.agg [.str s_nm, .int .i64 s_x, .int .i64 s_y, .int .i64 s_tn]] => some ((True) ∧ (True), .agg (Rw.row (Rw.mk s_nm s_x s_y s_tn)))
  | _ => none
theorem Qr5 : ∀ args p v, Qc2 args = some (p, v) → p → Contract P 59 args [] v [] ∧ noref v = true ∧ No99 v := by
  intro args p v h1 h2
  unfold Qc2 at h1
  split at h1
  · rename_i s_nm s_x s_y s_tn
    cases h1
    obtain ⟨_, HP⟩ := h2
    have := QuS (Rw.mk s_nm s_x s_y s_tn)
    exact ⟨by simpa only [Rw.row] using this, rfl, by simp [Rw.row, No99, Ko, Gy, WD, Kp, Gc, G4, KI, Yq, Gd, Gz, -List.map_map]⟩
  · cases h1
theorem QlA {lst : List Rw} {idx : Nat} {vnm : ByteArray} {vx : Int} {vy : Int} {vtn : Int} : (lst.map Rw.row).set idx (QT ((lst.map Rw.row).getD idx []) 0 [.str vnm, .int .i64 vx, .int .i64 vy, .int .i64 vtn]) = (lst.set idx (Rw.mk vnm vx vy vtn)).map Rw.row :=
  JR (α := Rw) (f := Rw.row) (fun s => (Rw.mk vnm vx vy vtn)) fun x => by simp [Rw.row, QT]
def QcE (a : List Rw) (i : Nat) : List Rw := a.take i ++ List.replicate (a.length - i) ⟨⟨#[]⟩, 0, 0, 0⟩
theorem QlB {a : List Rw} {i : Nat} (h : i < a.length) : (QcE a i).set i (a.getD i default) = QcE a (i + 1) := by
  refine List.ext_getElem (by simp [QcE]; omega) fun j h1 h2 => ?_
  by_cases e : j = i
  · subst e
    simp [QcE, List.getElem_append, h]
    intro h9; omega
  · simp only [List.getElem_set_ne (Ne.symm e)]
    simp only [QcE, List.getElem_append, List.length_take, List.getElem_take, List.getElem_replicate]
    split <;> split <;> first | rfl | omega
theorem Qtd (t : Nat) (a : List Rw) (ha : a.length ≤ 1048576) : Contract P 24 [.sl t 4 (a.map Rw.row)] [] (.sl 0 4 (a.map Rw.row)) [] := by
  refine Qt ((Env.nil P).add 59 Qc2 Qr5) hm QaM (Nat.le_of_ble_eq_true rfl) rfl ?_; unfold Zr; simp (config := { maxSteps := 2000000 }) only [bitvec_to_nat, reduceIte, Nat.reduceEqDiff, Nat.reduceAdd, Nat.reduceLeDiff, reduceCtorEq, Nat.reduceBEq, Nat.reduceLT, Nat.reduceMod, List.forall_mem_cons, Qc2, Qk, Qm, Qa, Q3, Qh, List.take_length, List.length_cons, List.length_nil, Nat.zero_add, QH, QX, Q4, Q6, Pt.row, Ql, Aw.row, Qo, Blk.row, Qb, Sec.row, Qc, Rw.row, Qp, Sky.row, Qd, QA, QB, Qj, Qn, QD, QO, QlA, Nat.sub_zero]
  have m0 : List.replicate a.length [.str ⟨#[]⟩, .int .i64 0, .int .i64 0, .int .i64 0] = (QcE a 0).map Rw.row := by simp [QcE, Rw.row]
  refine ⟨by omega, ?_⟩
  refine QV (fun i : Nat => [(4, .int .i64 i)]) (fun i => [(107, .arr 114 0 4 ((QcE a i).map Rw.row))]) (fun i => i ≤ a.length) (fun i => a.length - i) 0 (by simp only [JX, JY, JZ, J0, Qw, Qx, Qy, Qz, reduceIte, Nat.reduceEqDiff]; exact ⟨by repeat' (first | exact trivial | refine ⟨.inr rfl, ?_⟩), ⟨congrArg (fun g => some (AObj.arr 114 0 4 g)) m0, trivial⟩, rfl, rfl⟩) (Nat.zero_le _) ?_
  intro i hi NX hN
  skip
  unfold Xh; simp (config := { maxSteps := 2000000 }) only [bitvec_to_nat, reduceIte, Nat.reduceEqDiff, Nat.reduceAdd, Nat.reduceLeDiff, reduceCtorEq, Nat.reduceBEq, Nat.reduceLT, Nat.reduceMod, List.forall_mem_cons, Qc2, Qk, Qm, Qa, Q3, Qh, List.take_length, List.length_cons, List.length_nil, Nat.zero_add, QH, QX, Q4, Q6, Pt.row, Ql, Aw.row, Qo, Blk.row, Qb, Sec.row, Qc, Rw.row, Qp, Sky.row, Qd, QA, QB, Qj, Qn, QD, QO, QlA, Nat.sub_zero]
  refine ⟨fun h => ?_, fun h => ?_⟩
  · repeat' (first | with_reducible apply And.intro | with_reducible intro _)
    all_goals first
      | omega
      | rfl
      | exact hs2 (by omega)
      | (have e := QlB (a := a) (i := i) (by omega)
         try simp only [Rw.row] at *
         refine hN (i + 1) _ ⟨by repeat' (first | exact trivial | refine ⟨.inr rfl, ?_⟩), ⟨congrArg (fun g => some (AObj.arr 114 0 4 (List.map Rw.row g))) e, trivial⟩, rfl, rfl⟩ ?_ ?_ <;> omega)
  · have e : i = a.length := by omega
    subst e
    simp only [QcE, List.take_length, Nat.sub_self, List.replicate_zero, List.append_nil]
    try rw [List.take_of_length_le (by simp)]
def Qhm : List AV → Option (Prop × AV)
  | [.sl st 4 sx] => some ((((sx.map JG).map Rw.row = sx)) ∧ ((sx.map JG).length ≤ 1048576), .sl 0 4 ((sx.map JG).map Rw.row))
  | _ => none
theorem Qte : ∀ args p v, Qhm args = some (p, v) → p → Contract P 24 args [] v [] ∧ noref v = true ∧ No99 v := by
  intro args p v h1 h2
  unfold Qhm at h1
  split at h1
  · rename_i st sx
    cases h1
    obtain ⟨e0, HP⟩ := h2
    have := Qtd st (sx.map JG) HP
    exact ⟨by simpa only [e0] using this, rfl, by simp [No99, Ko, Gy, WD, Kp, Gc, G4, KI, Yq, Gd, Gz, -List.map_map]⟩
  · cases h1
theorem QuT (c d : Rw)  : Contract P 77 [.agg (c.row), .agg (d.row)] [] (.bool (decide (c = d))) [] := by
  obtain ⟨c_nm, c_x, c_y, c_tn⟩ := c
  obtain ⟨d_nm, d_x, d_y, d_tn⟩ := d
  simp only [Rw.row]
  refine Qt (Env.nil P) hm QbN (Nat.le_of_ble_eq_true rfl) rfl ?_; unfold Uc; simp (config := { maxSteps := 2000000 }) only [bitvec_to_nat, reduceIte, Nat.reduceEqDiff, Nat.reduceAdd, Nat.reduceLeDiff, reduceCtorEq, Nat.reduceBEq, Nat.reduceLT, Nat.reduceMod, List.forall_mem_cons, Qk, Qm, Qa, Q3, Qh, List.take_length, List.length_cons, List.length_nil, Nat.zero_add, QH, QX, Q4, Q6, Pt.row, Ql, Aw.row, Qo, Blk.row, Qb, Sec.row, Qc, Rw.row, Qp, Sky.row, Qd, QA, QB, Qj, Qn, QD, QO]
  simp only [Rw.mk.injEq]
  repeat' (first | with_reducible apply And.intro | with_reducible intro _)
  all_goals first | omega | (simp_all; done) | grind
def Qi0 : List AV → Option (Prop × AV)
  | [.agg [.str c_nm, .int .i64 c_x, .int .i64 c_y, .int .i64 c_tn], .agg [.str d_nm, .int .i64 d_x, .int .i64 d_y, .int .i64 d_tn]] => some ((True) ∧ (True), .bool (decide ((Rw.mk c_nm c_x c_y c_tn) = (Rw.mk d_nm d_x d_y d_tn))))
  | _ => none
theorem QuU : ∀ args p v, Qi0 args = some (p, v) → p → Contract P 77 args [] v [] ∧ noref v = true ∧ No99 v := by
  intro args p v h1 h2
  unfold Qi0 at h1
  split at h1
  · rename_i c_nm c_x c_y c_tn d_nm d_x d_y d_tn
    cases h1
    obtain ⟨_, HP⟩ := h2
    have := QuT (Rw.mk c_nm c_x c_y c_tn) (Rw.mk d_nm d_x d_y d_tn)
    exact ⟨by simpa only [Rw.row, Rw.row] using this, rfl, trivial⟩
  · cases h1
theorem Qtf (t t' : Nat) (p q : List Rw) (hp : p.length ≤ 4611686018427387904) : Contract P 33 [.sl t 4 (p.map Rw.row), .sl t' 4 (q.map Rw.row)] [] (.bool (decide (p = q))) [] := by
  refine Qt ((Env.nil P).add 77 Qi0 QuU) hm QaP (Nat.le_of_ble_eq_true rfl) rfl ?_; unfold Zu; simp (config := { maxSteps := 2000000 }) only [bitvec_to_nat, reduceIte, Nat.reduceEqDiff, Nat.reduceAdd, Nat.reduceLeDiff, reduceCtorEq, Nat.reduceBEq, Nat.reduceLT, Nat.reduceMod, List.forall_mem_cons, Qi0, Qk, Qm, Qa, Q3, Qh, List.take_length, List.length_cons, List.length_nil, Nat.zero_add, QH, QX, Q4, Q6, Pt.row, Ql, Aw.row, Qo, Blk.row, Qb, Sec.row, Qc, Rw.row, Qp, Sky.row, Qd, QA, QB, Qj, Qn, QD, QO]
  refine ⟨fun h1 h => h1 (by rw [h]), fun h1 => ?_⟩
  refine QV (fun i : Nat => [(5, .int .i64 i)]) (fun _ => []) (fun i => i ≤ p.length ∧ ∀ j, j < i → p.getD j default = q.getD j default) (fun i => p.length - i) (0) (by simp only [JX, JY, JZ, J0, Qw, Qx, Qy, Qz, reduceIte, Nat.reduceEqDiff]; exact ⟨by repeat' (first | exact trivial | refine ⟨.inr rfl, ?_⟩), by repeat' (first | exact trivial | refine ⟨rfl, ?_⟩), by first | rfl | simp [closedB, Qr, Qg, Qi, dom, Qe, *], by first | rfl | simp [keepB, dom]⟩) ?_ ?_
  · exact ⟨Nat.zero_le _, by intro j hj; omega⟩
  intro i hi NX hN
  unfold Xk; simp (config := { maxSteps := 2000000 }) only [bitvec_to_nat, reduceIte, Nat.reduceEqDiff, Nat.reduceAdd, Nat.reduceLeDiff, reduceCtorEq, Nat.reduceBEq, Nat.reduceLT, Nat.reduceMod, List.forall_mem_cons, Qi0, Qk, Qm, Qa, Q3, Qh, List.take_length, List.length_cons, List.length_nil, Nat.zero_add, QH, QX, Q4, Q6, Pt.row, Ql, Aw.row, Qo, Blk.row, Qb, Sec.row, Qc, Rw.row, Qp, Sky.row, Qd, QA, QB, Qj, Qn, QD, QO]
  skip
  repeat' (first | with_reducible apply And.intro | with_reducible intro _)
  all_goals first
    | omega
    | (refine hN (i + 1) _ (by simp only [JX, JY, JZ, J0, Qw, Qx, Qy, Qz, reduceIte, Nat.reduceEqDiff]; exact ⟨by repeat' (first | exact trivial | refine ⟨.inr rfl, ?_⟩), by repeat' (first | exact trivial | refine ⟨rfl, ?_⟩), by first | rfl | simp [closedB, Qr, Qg, Qi, dom, Qe, *], by first | rfl | simp [keepB, dom]⟩) ?_ ?_
       · exact ⟨by omega, JB hi.2 (by with_reducible assumption)⟩
       · omega)
    | (intro h; subst h; exact absurd rfl (by with_reducible assumption))
    | (exact XR (by omega) fun j hj => hi.2 j (by omega))
    | grind
def Qhn : List AV → Option (Prop × AV)
  | [.sl ct 4 cx, .sl dt 4 dx] => some ((((cx.map JG).map Rw.row = cx) ∧ ((dx.map JG).map Rw.row = dx)) ∧ ((cx.map JG).length ≤ 4611686018427387904), .bool (decide ((cx.map JG) = (dx.map JG))))
  | _ => none
theorem Qtg : ∀ args p v, Qhn args = some (p, v) → p → Contract P 33 args [] v [] ∧ noref v = true ∧ No99 v := by
  intro args p v h1 h2
  unfold Qhn at h1
  split at h1
  · rename_i ct cx dt dx
    cases h1
    obtain ⟨⟨e0, e1⟩, HP⟩ := h2
    have := Qtf ct dt (cx.map JG) (dx.map JG) HP
    exact ⟨by simpa only [e0, e1] using this, rfl, trivial⟩
  · cases h1
theorem QuV (s : Aw) (hs : s.small) : Contract P 57 [.agg (s.row 1)] [] (.agg (s.row 0)) [] := by
  unfold Aw.small at hs
  simp only [Aw.row]
  refine Qt ((Env.nil P).add 98 Vz Qj8) hm Z7 (Nat.le_of_ble_eq_true rfl) rfl ?_; unfold Gv; simp (config := { maxSteps := 2000000 }) only [bitvec_to_nat, reduceIte, Nat.reduceEqDiff, Nat.reduceAdd, Nat.reduceLeDiff, reduceCtorEq, Nat.reduceBEq, Nat.reduceLT, Nat.reduceMod, List.forall_mem_cons, Vz, Qk, Qm, Qa, Q3, Qh, List.take_length, List.length_cons, List.length_nil, Nat.zero_add, QH, QX, Q4, Q6, Pt.row, Ql, Aw.row, Qo, Blk.row, Qb, Sec.row, Qc, Rw.row, Qp, Sky.row, Qd, QA, QB, Qj, Qn, QD, QO]
  repeat' (first | with_reducible apply And.intro | with_reducible intro _)
  all_goals first | omega | grind | grind [Aw.small, Sec.small, Sky.small]
def Qi1 : List AV → Option (Prop × AV)
  | [.agg [.str s_nm, .sl 1 1 s_pts]] => some ((((s_pts.map unS).map QH = s_pts)) ∧ (Aw.small (Aw.mk s_nm (s_pts.map unS))), .agg (Aw.row 0 (Aw.mk s_nm (s_pts.map unS))))
  | _ => none
theorem QuW : ∀ args p v, Qi1 args = some (p, v) → p → Contract P 57 args [] v [] ∧ noref v = true ∧ No99 v := by
  intro args p v h1 h2
  unfold Qi1 at h1
  split at h1
  · rename_i s_nm s_pts
    cases h1
    obtain ⟨e0, HP⟩ := h2
    have := QuV (Aw.mk s_nm (s_pts.map unS)) HP
    exact ⟨by simpa only [e0, Aw.row] using this, rfl, by simp [Aw.row, No99, Ko, Gy, WD, Kp, Gc, G4, KI, Yq, Gd, Gz, -List.map_map]⟩
  · cases h1
theorem Qr6 {lst : List Aw} {idx : Nat} {vnm : ByteArray} {vpts : List ByteArray} : (lst.map (Aw.row 0)).set idx (QT ((lst.map (Aw.row 0)).getD idx []) 0 [.str vnm, .sl 0 1 (vpts.map QH)]) = (lst.set idx (Aw.mk vnm vpts)).map (Aw.row 0) :=
  JR (α := Aw) (f := (Aw.row 0)) (fun s => (Aw.mk vnm vpts)) fun x => by simp [Aw.row, QT]
def Qho (a : List Aw) (i : Nat) : List Aw := a.take i ++ List.replicate (a.length - i) ⟨⟨#[]⟩, []⟩
theorem QqY {a : List Aw} {i : Nat} (h : i < a.length) : (Qho a i).set i (a.getD i default) = Qho a (i + 1) := by
  refine List.ext_getElem (by simp [Qho]; omega) fun j h1 h2 => ?_
  by_cases e : j = i
  · subst e
    simp [Qho, List.getElem_append, h]
    intro h9; omega
  · simp only [List.getElem_set_ne (Ne.symm e)]
    simp only [Qho, List.getElem_append, List.length_take, List.getElem_take, List.getElem_replicate]
    split <;> split <;> first | rfl | omega
theorem Qth (t : Nat) (a : List Aw) (ha : a.length ≤ 1048576) (hs : ∀ x ∈ a, x.small) : Contract P 22 [.sl t 2 (a.map (Aw.row 1))] [] (.sl 0 2 (a.map (Aw.row 0))) [] := by
  refine Qt ((Env.nil P).add 57 Qi1 QuW) hm QaK (Nat.le_of_ble_eq_true rfl) rfl ?_; unfold Zp; simp (config := { maxSteps := 2000000 }) only [bitvec_to_nat, reduceIte, Nat.reduceEqDiff, Nat.reduceAdd, Nat.reduceLeDiff, reduceCtorEq, Nat.reduceBEq, Nat.reduceLT, Nat.reduceMod, List.forall_mem_cons, Qi1, Qk, Qm, Qa, Q3, Qh, List.take_length, List.length_cons, List.length_nil, Nat.zero_add, QH, QX, Q4, Q6, Pt.row, Ql, Aw.row, Qo, Blk.row, Qb, Sec.row, Qc, Rw.row, Qp, Sky.row, Qd, QA, QB, Qj, Qn, QD, QO, Qr6, Nat.sub_zero]
  have m0 : List.replicate a.length [.str ⟨#[]⟩, .sl 0 1 []] = (Qho a 0).map (Aw.row 0) := by simp [Qho, Aw.row]
  refine ⟨by omega, ?_⟩
  refine QV (fun i : Nat => [(4, .int .i64 i)]) (fun i => [(107, .arr 108 0 2 ((Qho a i).map (Aw.row 0)))]) (fun i => i ≤ a.length) (fun i => a.length - i) 0 (by simp only [JX, JY, JZ, J0, Qw, Qx, Qy, Qz, reduceIte, Nat.reduceEqDiff]; exact ⟨by repeat' (first | exact trivial | refine ⟨.inr rfl, ?_⟩), ⟨congrArg (fun g => some (AObj.arr 108 0 2 g)) m0, trivial⟩, rfl, rfl⟩) (Nat.zero_le _) ?_
  intro i hi NX hN
  have hs2 : i < a.length → (a.getD i default).small := fun h => hs _ (JD h)
  unfold Xf; simp (config := { maxSteps := 2000000 }) only [bitvec_to_nat, reduceIte, Nat.reduceEqDiff, Nat.reduceAdd, Nat.reduceLeDiff, reduceCtorEq, Nat.reduceBEq, Nat.reduceLT, Nat.reduceMod, List.forall_mem_cons, Qi1, Qk, Qm, Qa, Q3, Qh, List.take_length, List.length_cons, List.length_nil, Nat.zero_add, QH, QX, Q4, Q6, Pt.row, Ql, Aw.row, Qo, Blk.row, Qb, Sec.row, Qc, Rw.row, Qp, Sky.row, Qd, QA, QB, Qj, Qn, QD, QO, Qr6, Nat.sub_zero]
  refine ⟨fun h => ?_, fun h => ?_⟩
  · repeat' (first | with_reducible apply And.intro | with_reducible intro _)
    all_goals first
      | omega
      | rfl
      | exact hs2 (by omega)
      | (have e := QqY (a := a) (i := i) (by omega)
         try simp only [Aw.row] at *
         refine hN (i + 1) _ ⟨by repeat' (first | exact trivial | refine ⟨.inr rfl, ?_⟩), ⟨congrArg (fun g => some (AObj.arr 108 0 2 (List.map (Aw.row 0) g))) e, trivial⟩, rfl, rfl⟩ ?_ ?_ <;> omega)
  · have e : i = a.length := by omega
    subst e
    simp only [Qho, List.take_length, Nat.sub_self, List.replicate_zero, List.append_nil]
    try rw [List.take_of_length_le (by simp)]
def Qhp : List AV → Option (Prop × AV)
  | [.sl st 2 sx] => some ((((sx.map JI).map (Aw.row 1) = sx)) ∧ ((sx.map JI).length ≤ 1048576 ∧ ∀ x ∈ (sx.map JI), x.small), .sl 0 2 ((sx.map JI).map (Aw.row 0)))
  | _ => none
theorem Qti : ∀ args p v, Qhp args = some (p, v) → p → Contract P 22 args [] v [] ∧ noref v = true ∧ No99 v := by
  intro args p v h1 h2
  unfold Qhp at h1
  split at h1
  · rename_i st sx
    cases h1
    obtain ⟨e0, HP⟩ := h2
    have := Qth st (sx.map JI) HP.1 HP.2
    exact ⟨by simpa only [e0] using this, rfl, by simp [No99, Ko, Gy, WD, Kp, Gc, G4, KI, Yq, Gd, Gz, -List.map_map]⟩
  · cases h1
theorem QuX (c d : Aw) (hl : c.pts.length ≤ 4611686018427387904) : Contract P 75 [.agg (c.row 0), .agg (d.row 0)] [] (.bool (decide (c = d))) [] := by
  obtain ⟨c_nm, c_pts⟩ := c
  obtain ⟨d_nm, d_pts⟩ := d
  simp only [Aw.row]
  refine Qt ((Env.nil P).add 104 VA Qj9) hm QbL (Nat.le_of_ble_eq_true rfl) rfl ?_; unfold Ua; simp (config := { maxSteps := 2000000 }) only [bitvec_to_nat, reduceIte, Nat.reduceEqDiff, Nat.reduceAdd, Nat.reduceLeDiff, reduceCtorEq, Nat.reduceBEq, Nat.reduceLT, Nat.reduceMod, List.forall_mem_cons, VA, Qk, Qm, Qa, Q3, Qh, List.take_length, List.length_cons, List.length_nil, Nat.zero_add, QH, QX, Q4, Q6, Pt.row, Ql, Aw.row, Qo, Blk.row, Qb, Sec.row, Qc, Rw.row, Qp, Sky.row, Qd, QA, QB, Qj, Qn, QD, QO]
  simp only [Aw.mk.injEq]
  repeat' (first | with_reducible apply And.intro | with_reducible intro _)
  all_goals first | omega | (simp_all; done) | grind | grind [Aw.small, Sec.small, Sky.small]
def Qi2 : List AV → Option (Prop × AV)
  | [.agg [.str c_nm, .sl 0 1 c_pts], .agg [.str d_nm, .sl 0 1 d_pts]] => some ((((c_pts.map unS).map QH = c_pts) ∧ ((d_pts.map unS).map QH = d_pts)) ∧ ((Aw.mk c_nm (c_pts.map unS)).pts.length ≤ 4611686018427387904), .bool (decide ((Aw.mk c_nm (c_pts.map unS)) = (Aw.mk d_nm (d_pts.map unS)))))
  | _ => none
theorem QuY : ∀ args p v, Qi2 args = some (p, v) → p → Contract P 75 args [] v [] ∧ noref v = true ∧ No99 v := by
  intro args p v h1 h2
  unfold Qi2 at h1
  split at h1
  · rename_i c_nm c_pts d_nm d_pts
    cases h1
    obtain ⟨⟨e0, e1⟩, HP⟩ := h2
    have := QuX (Aw.mk c_nm (c_pts.map unS)) (Aw.mk d_nm (d_pts.map unS)) HP
    exact ⟨by simpa only [e0, e1, Aw.row, Aw.row] using this, rfl, trivial⟩
  · cases h1
theorem Qtj (t t' : Nat) (p q : List Aw) (hp : p.length ≤ 4611686018427387904) (hx : ∀ x ∈ p, x.pts.length ≤ 4611686018427387904) : Contract P 31 [.sl t 2 (p.map (Aw.row 0)), .sl t' 2 (q.map (Aw.row 0))] [] (.bool (decide (p = q))) [] := by
  refine Qt ((Env.nil P).add 75 Qi2 QuY) hm QaN (Nat.le_of_ble_eq_true rfl) rfl ?_; unfold Zs; simp (config := { maxSteps := 2000000 }) only [bitvec_to_nat, reduceIte, Nat.reduceEqDiff, Nat.reduceAdd, Nat.reduceLeDiff, reduceCtorEq, Nat.reduceBEq, Nat.reduceLT, Nat.reduceMod, List.forall_mem_cons, Qi2, Qk, Qm, Qa, Q3, Qh, List.take_length, List.length_cons, List.length_nil, Nat.zero_add, QH, QX, Q4, Q6, Pt.row, Ql, Aw.row, Qo, Blk.row, Qb, Sec.row, Qc, Rw.row, Qp, Sky.row, Qd, QA, QB, Qj, Qn, QD, QO]
  refine ⟨fun h1 h => h1 (by rw [h]), fun h1 => ?_⟩
  refine QV (fun i : Nat => [(5, .int .i64 i)]) (fun _ => []) (fun i => i ≤ p.length ∧ ∀ j, j < i → p.getD j default = q.getD j default) (fun i => p.length - i) (0) (by simp only [JX, JY, JZ, J0, Qw, Qx, Qy, Qz, reduceIte, Nat.reduceEqDiff]; exact ⟨by repeat' (first | exact trivial | refine ⟨.inr rfl, ?_⟩), by repeat' (first | exact trivial | refine ⟨rfl, ?_⟩), by first | rfl | simp [closedB, Qr, Qg, Qi, dom, Qe, *], by first | rfl | simp [keepB, dom]⟩) ?_ ?_
  · exact ⟨Nat.zero_le _, by intro j hj; omega⟩
  intro i hi NX hN
  unfold Xi; simp (config := { maxSteps := 2000000 }) only [bitvec_to_nat, reduceIte, Nat.reduceEqDiff, Nat.reduceAdd, Nat.reduceLeDiff, reduceCtorEq, Nat.reduceBEq, Nat.reduceLT, Nat.reduceMod, List.forall_mem_cons, Qi2, Qk, Qm, Qa, Q3, Qh, List.take_length, List.length_cons, List.length_nil, Nat.zero_add, QH, QX, Q4, Q6, Pt.row, Ql, Aw.row, Qo, Blk.row, Qb, Sec.row, Qc, Rw.row, Qp, Sky.row, Qd, QA, QB, Qj, Qn, QD, QO]
  have hx2 : i < p.length → _ := fun h => hx _ (JD h)
  repeat' (first | with_reducible apply And.intro | with_reducible intro _)
  all_goals first
    | omega
    | (refine hN (i + 1) _ (by simp only [JX, JY, JZ, J0, Qw, Qx, Qy, Qz, reduceIte, Nat.reduceEqDiff]; exact ⟨by repeat' (first | exact trivial | refine ⟨.inr rfl, ?_⟩), by repeat' (first | exact trivial | refine ⟨rfl, ?_⟩), by first | rfl | simp [closedB, Qr, Qg, Qi, dom, Qe, *], by first | rfl | simp [keepB, dom]⟩) ?_ ?_
       · exact ⟨by omega, JB hi.2 (by with_reducible assumption)⟩
       · omega)
    | (intro h; subst h; exact absurd rfl (by with_reducible assumption))
    | (exact XR (by omega) fun j hj => hi.2 j (by omega))
    | grind
def Qhq : List AV → Option (Prop × AV)
  | [.sl ct 2 cx, .sl dt 2 dx] => some ((((cx.map JI).map (Aw.row 0) = cx) ∧ ((dx.map JI).map (Aw.row 0) = dx)) ∧ ((cx.map JI).length ≤ 4611686018427387904 ∧ ∀ x ∈ (cx.map JI), x.pts.length ≤ 4611686018427387904), .bool (decide ((cx.map JI) = (dx.map JI))))
  | _ => none
theorem Qtk : ∀ args p v, Qhq args = some (p, v) → p → Contract P 31 args [] v [] ∧ noref v = true ∧ No99 v := by
  intro args p v h1 h2
  unfold Qhq at h1
  split at h1
  · rename_i ct cx dt dx
    cases h1
    obtain ⟨⟨e0, e1⟩, HP⟩ := h2
    have := Qtj ct dt (cx.map JI) (dx.map JI) HP.1 HP.2
    exact ⟨by simpa only [e0, e1] using this, rfl, trivial⟩
  · cases h1
theorem Qtl (s : Sec) (hs : s.small) : Contract P 58 [.agg (s.row 1)] [] (.agg (s.row 0)) [] := by
  unfold Sec.small at hs
  simp only [Sec.row]
  refine Qt ((Env.nil P).add 99 QdJ QqV) hm Z8 (Nat.le_of_ble_eq_true rfl) rfl ?_; unfold Gw; simp (config := { maxSteps := 2000000 }) only [bitvec_to_nat, reduceIte, Nat.reduceEqDiff, Nat.reduceAdd, Nat.reduceLeDiff, reduceCtorEq, Nat.reduceBEq, Nat.reduceLT, Nat.reduceMod, List.forall_mem_cons, QdJ, Qk, Qm, Qa, Q3, Qh, List.take_length, List.length_cons, List.length_nil, Nat.zero_add, QH, QX, Q4, Q6, Pt.row, Ql, Aw.row, Qo, Blk.row, Qb, Sec.row, Qc, Rw.row, Qp, Sky.row, Qd, QA, QB, Qj, Qn, QD, QO]
  repeat' (first | with_reducible apply And.intro | with_reducible intro _)
  all_goals first | omega | grind | grind [Aw.small, Sec.small, Sky.small]
def QeW : List AV → Option (Prop × AV)
  | [.agg [.str s_nm, .sl 1 6 s_bl]] => some ((((s_bl.map Yp).map Blk.row = s_bl)) ∧ (Sec.small (Sec.mk s_nm (s_bl.map Yp))), .agg (Sec.row 0 (Sec.mk s_nm (s_bl.map Yp))))
  | _ => none
theorem Qtm : ∀ args p v, QeW args = some (p, v) → p → Contract P 58 args [] v [] ∧ noref v = true ∧ No99 v := by
  intro args p v h1 h2
  unfold QeW at h1
  split at h1
  · rename_i s_nm s_bl
    cases h1
    obtain ⟨e0, HP⟩ := h2
    have := Qtl (Sec.mk s_nm (s_bl.map Yp)) HP
    exact ⟨by simpa only [e0, Sec.row] using this, rfl, by simp [Sec.row, No99, Ko, Gy, WD, Kp, Gc, G4, KI, Yq, Gd, Gz, -List.map_map]⟩
  · cases h1
theorem Qob {lst : List Sec} {idx : Nat} {vnm : ByteArray} {vbl : List Blk} : (lst.map (Sec.row 0)).set idx (QT ((lst.map (Sec.row 0)).getD idx []) 0 [.str vnm, .sl 0 6 (vbl.map Blk.row)]) = (lst.set idx (Sec.mk vnm vbl)).map (Sec.row 0) :=
  JR (α := Sec) (f := (Sec.row 0)) (fun s => (Sec.mk vnm vbl)) fun x => by simp [Sec.row, QT]
def Qb6 (a : List Sec) (i : Nat) : List Sec := a.take i ++ List.replicate (a.length - i) ⟨⟨#[]⟩, []⟩
theorem Qoc {a : List Sec} {i : Nat} (h : i < a.length) : (Qb6 a i).set i (a.getD i default) = Qb6 a (i + 1) := by
  refine List.ext_getElem (by simp [Qb6]; omega) fun j h1 h2 => ?_
  by_cases e : j = i
  · subst e
    simp [Qb6, List.getElem_append, h]
    intro h9; omega
  · simp only [List.getElem_set_ne (Ne.symm e)]
    simp only [Qb6, List.getElem_append, List.length_take, List.getElem_take, List.getElem_replicate]
    split <;> split <;> first | rfl | omega
theorem QqZ (t : Nat) (a : List Sec) (ha : a.length ≤ 1048576) (hs : ∀ x ∈ a, x.small) : Contract P 23 [.sl t 2 (a.map (Sec.row 1))] [] (.sl 0 2 (a.map (Sec.row 0))) [] := by
  refine Qt ((Env.nil P).add 58 QeW Qtm) hm QaL (Nat.le_of_ble_eq_true rfl) rfl ?_; unfold Zq; simp (config := { maxSteps := 2000000 }) only [bitvec_to_nat, reduceIte, Nat.reduceEqDiff, Nat.reduceAdd, Nat.reduceLeDiff, reduceCtorEq, Nat.reduceBEq, Nat.reduceLT, Nat.reduceMod, List.forall_mem_cons, QeW, Qk, Qm, Qa, Q3, Qh, List.take_length, List.length_cons, List.length_nil, Nat.zero_add, QH, QX, Q4, Q6, Pt.row, Ql, Aw.row, Qo, Blk.row, Qb, Sec.row, Qc, Rw.row, Qp, Sky.row, Qd, QA, QB, Qj, Qn, QD, QO, Qob, Nat.sub_zero]
  have m0 : List.replicate a.length [.str ⟨#[]⟩, .sl 0 6 []] = (Qb6 a 0).map (Sec.row 0) := by simp [Qb6, Sec.row]
  refine ⟨by omega, ?_⟩
  refine QV (fun i : Nat => [(4, .int .i64 i)]) (fun i => [(107, .arr 112 0 2 ((Qb6 a i).map (Sec.row 0)))]) (fun i => i ≤ a.length) (fun i => a.length - i) 0 (by simp only [JX, JY, JZ, J0, Qw, Qx, Qy, Qz, reduceIte, Nat.reduceEqDiff]; exact ⟨by repeat' (first | exact trivial | refine ⟨.inr rfl, ?_⟩), ⟨congrArg (fun g => some (AObj.arr 112 0 2 g)) m0, trivial⟩, rfl, rfl⟩) (Nat.zero_le _) ?_
  intro i hi NX hN
  have hs2 : i < a.length → (a.getD i default).small := fun h => hs _ (JD h)
  unfold Xg; simp (config := { maxSteps := 2000000 }) only [bitvec_to_nat, reduceIte, Nat.reduceEqDiff, Nat.reduceAdd, Nat.reduceLeDiff, reduceCtorEq, Nat.reduceBEq, Nat.reduceLT, Nat.reduceMod, List.forall_mem_cons, QeW, Qk, Qm, Qa, Q3, Qh, List.take_length, List.length_cons, List.length_nil, Nat.zero_add, QH, QX, Q4, Q6, Pt.row, Ql, Aw.row, Qo, Blk.row, Qb, Sec.row, Qc, Rw.row, Qp, Sky.row, Qd, QA, QB, Qj, Qn, QD, QO, Qob, Nat.sub_zero]
  refine ⟨fun h => ?_, fun h => ?_⟩
  · repeat' (first | with_reducible apply And.intro | with_reducible intro _)
    all_goals first
      | omega
      | rfl
      | exact hs2 (by omega)
      | (have e := Qoc (a := a) (i := i) (by omega)
         try simp only [Sec.row] at *
         refine hN (i + 1) _ ⟨by repeat' (first | exact trivial | refine ⟨.inr rfl, ?_⟩), ⟨congrArg (fun g => some (AObj.arr 112 0 2 (List.map (Sec.row 0) g))) e, trivial⟩, rfl, rfl⟩ ?_ ?_ <;> omega)
  · have e : i = a.length := by omega
    subst e
    simp only [Qb6, List.take_length, Nat.sub_self, List.replicate_zero, List.append_nil]
    try rw [List.take_of_length_le (by simp)]
def QdL : List AV → Option (Prop × AV)
  | [.sl st 2 sx] => some ((((sx.map QP).map (Sec.row 1) = sx)) ∧ ((sx.map QP).length ≤ 1048576 ∧ ∀ x ∈ (sx.map QP), x.small), .sl 0 2 ((sx.map QP).map (Sec.row 0)))
  | _ => none
theorem Qq0 : ∀ args p v, QdL args = some (p, v) → p → Contract P 23 args [] v [] ∧ noref v = true ∧ No99 v := by
  intro args p v h1 h2
  unfold QdL at h1
  split at h1
  · rename_i st sx
    cases h1
    obtain ⟨e0, HP⟩ := h2
    have := QqZ st (sx.map QP) HP.1 HP.2
    exact ⟨by simpa only [e0] using this, rfl, by simp [No99, Ko, Gy, WD, Kp, Gc, G4, KI, Yq, Gd, Gz, -List.map_map]⟩
  · cases h1
theorem Qtn (c d : Sec) (hl : c.bl.length ≤ 4611686018427387904) : Contract P 76 [.agg (c.row 0), .agg (d.row 0)] [] (.bool (decide (c = d))) [] := by
  obtain ⟨c_nm, c_bl⟩ := c
  obtain ⟨d_nm, d_bl⟩ := d
  simp only [Sec.row]
  refine Qt ((Env.nil P).add 105 QdK QqX) hm QbM (Nat.le_of_ble_eq_true rfl) rfl ?_; unfold Ub; simp (config := { maxSteps := 2000000 }) only [bitvec_to_nat, reduceIte, Nat.reduceEqDiff, Nat.reduceAdd, Nat.reduceLeDiff, reduceCtorEq, Nat.reduceBEq, Nat.reduceLT, Nat.reduceMod, List.forall_mem_cons, QdK, Qk, Qm, Qa, Q3, Qh, List.take_length, List.length_cons, List.length_nil, Nat.zero_add, QH, QX, Q4, Q6, Pt.row, Ql, Aw.row, Qo, Blk.row, Qb, Sec.row, Qc, Rw.row, Qp, Sky.row, Qd, QA, QB, Qj, Qn, QD, QO]
  simp only [Sec.mk.injEq]
  repeat' (first | with_reducible apply And.intro | with_reducible intro _)
  all_goals first | omega | (simp_all; done) | grind | grind [Aw.small, Sec.small, Sky.small]
def QeX : List AV → Option (Prop × AV)
  | [.agg [.str c_nm, .sl 0 6 c_bl], .agg [.str d_nm, .sl 0 6 d_bl]] => some ((((c_bl.map Yp).map Blk.row = c_bl) ∧ ((d_bl.map Yp).map Blk.row = d_bl)) ∧ ((Sec.mk c_nm (c_bl.map Yp)).bl.length ≤ 4611686018427387904), .bool (decide ((Sec.mk c_nm (c_bl.map Yp)) = (Sec.mk d_nm (d_bl.map Yp)))))
  | _ => none
theorem Qto : ∀ args p v, QeX args = some (p, v) → p → Contract P 76 args [] v [] ∧ noref v = true ∧ No99 v := by
  intro args p v h1 h2
  unfold QeX at h1
  split at h1
  · rename_i c_nm c_bl d_nm d_bl
    cases h1
    obtain ⟨⟨e0, e1⟩, HP⟩ := h2
    have := Qtn (Sec.mk c_nm (c_bl.map Yp)) (Sec.mk d_nm (d_bl.map Yp)) HP
    exact ⟨by simpa only [e0, e1, Sec.row, Sec.row] using this, rfl, trivial⟩
  · cases h1
theorem Qq1 (t t' : Nat) (p q : List Sec) (hp : p.length ≤ 4611686018427387904) (hx : ∀ x ∈ p, x.bl.length ≤ 4611686018427387904) : Contract P 32 [.sl t 2 (p.map (Sec.row 0)), .sl t' 2 (q.map (Sec.row 0))] [] (.bool (decide (p = q))) [] := by
  refine Qt ((Env.nil P).add 76 QeX Qto) hm QaO (Nat.le_of_ble_eq_true rfl) rfl ?_; unfold Zt; simp (config := { maxSteps := 2000000 }) only [bitvec_to_nat, reduceIte, Nat.reduceEqDiff, Nat.reduceAdd, Nat.reduceLeDiff, reduceCtorEq, Nat.reduceBEq, Nat.reduceLT, Nat.reduceMod, List.forall_mem_cons, QeX, Qk, Qm, Qa, Q3, Qh, List.take_length, List.length_cons, List.length_nil, Nat.zero_add, QH, QX, Q4, Q6, Pt.row, Ql, Aw.row, Qo, Blk.row, Qb, Sec.row, Qc, Rw.row, Qp, Sky.row, Qd, QA, QB, Qj, Qn, QD, QO]
  refine ⟨fun h1 h => h1 (by rw [h]), fun h1 => ?_⟩
  refine QV (fun i : Nat => [(5, .int .i64 i)]) (fun _ => []) (fun i => i ≤ p.length ∧ ∀ j, j < i → p.getD j default = q.getD j default) (fun i => p.length - i) (0) (by simp only [JX, JY, JZ, J0, Qw, Qx, Qy, Qz, reduceIte, Nat.reduceEqDiff]; exact ⟨by repeat' (first | exact trivial | refine ⟨.inr rfl, ?_⟩), by repeat' (first | exact trivial | refine ⟨rfl, ?_⟩), by first | rfl | simp [closedB, Qr, Qg, Qi, dom, Qe, *], by first | rfl | simp [keepB, dom]⟩) ?_ ?_
  · exact ⟨Nat.zero_le _, by intro j hj; omega⟩
  intro i hi NX hN
  unfold Xj; simp (config := { maxSteps := 2000000 }) only [bitvec_to_nat, reduceIte, Nat.reduceEqDiff, Nat.reduceAdd, Nat.reduceLeDiff, reduceCtorEq, Nat.reduceBEq, Nat.reduceLT, Nat.reduceMod, List.forall_mem_cons, QeX, Qk, Qm, Qa, Q3, Qh, List.take_length, List.length_cons, List.length_nil, Nat.zero_add, QH, QX, Q4, Q6, Pt.row, Ql, Aw.row, Qo, Blk.row, Qb, Sec.row, Qc, Rw.row, Qp, Sky.row, Qd, QA, QB, Qj, Qn, QD, QO]
  have hx2 : i < p.length → _ := fun h => hx _ (JD h)
  repeat' (first | with_reducible apply And.intro | with_reducible intro _)
  all_goals first
    | omega
    | (refine hN (i + 1) _ (by simp only [JX, JY, JZ, J0, Qw, Qx, Qy, Qz, reduceIte, Nat.reduceEqDiff]; exact ⟨by repeat' (first | exact trivial | refine ⟨.inr rfl, ?_⟩), by repeat' (first | exact trivial | refine ⟨rfl, ?_⟩), by first | rfl | simp [closedB, Qr, Qg, Qi, dom, Qe, *], by first | rfl | simp [keepB, dom]⟩) ?_ ?_
       · exact ⟨by omega, JB hi.2 (by with_reducible assumption)⟩
       · omega)
    | (intro h; subst h; exact absurd rfl (by with_reducible assumption))
    | (exact XR (by omega) fun j hj => hi.2 j (by omega))
    | grind
def QdM : List AV → Option (Prop × AV)
  | [.sl ct 2 cx, .sl dt 2 dx] => some ((((cx.map QP).map (Sec.row 0) = cx) ∧ ((dx.map QP).map (Sec.row 0) = dx)) ∧ ((cx.map QP).length ≤ 4611686018427387904 ∧ ∀ x ∈ (cx.map QP), x.bl.length ≤ 4611686018427387904), .bool (decide ((cx.map QP) = (dx.map QP))))
  | _ => none
theorem Qq2 : ∀ args p v, QdM args = some (p, v) → p → Contract P 32 args [] v [] ∧ noref v = true ∧ No99 v := by
  intro args p v h1 h2
  unfold QdM at h1
  split at h1
  · rename_i ct cx dt dx
    cases h1
    obtain ⟨⟨e0, e1⟩, HP⟩ := h2
    have := Qq1 ct dt (cx.map QP) (dx.map QP) HP.1 HP.2
    exact ⟨by simpa only [e0, e1] using this, rfl, trivial⟩
  · cases h1
theorem Qtp (s : Sky) (hs : s.small) : Contract P 6 [.agg (s.row 1)] [] (.agg (s.row 0)) [] := by
  unfold Sky.small at hs
  simp only [Sky.row]
  refine Qt (((((Env.nil P).add 22 Qhp Qti).add 21 Qhj Qs7).add 24 Qhm Qte).add 23 QdL Qq0) hm QcU (Nat.le_of_ble_eq_true rfl) rfl ?_; unfold Wh; simp (config := { maxSteps := 2000000 }) only [bitvec_to_nat, reduceIte, Nat.reduceEqDiff, Nat.reduceAdd, Nat.reduceLeDiff, reduceCtorEq, Nat.reduceBEq, Nat.reduceLT, Nat.reduceMod, List.forall_mem_cons, Qhp, Qhj, Qhm, QdL, Qk, Qm, Qa, Q3, Qh, List.take_length, List.length_cons, List.length_nil, Nat.zero_add, QH, QX, Q4, Q6, Pt.row, Ql, Aw.row, Qo, Blk.row, Qb, Sec.row, Qc, Rw.row, Qp, Sky.row, Qd, QA, QB, Qj, Qn, QD, QO]
  repeat' (first | with_reducible apply And.intro | with_reducible intro _)
  all_goals first | omega | grind | grind [Aw.small, Sec.small, Sky.small]
theorem Qtq (c d : Sky) (hl : c.pts.length ≤ 4611686018427387904 ∧ c.aws.length ≤ 4611686018427387904 ∧ c.secs.length ≤ 4611686018427387904 ∧ c.rws.length ≤ 4611686018427387904 ∧ (∀ x ∈ c.aws, x.small) ∧ (∀ x ∈ c.secs, x.small)) : Contract P 9 [.agg (c.row 0), .agg (d.row 0)] [] (.bool (decide (c = d))) [] := by
  obtain ⟨c_w, c_h, c_lv, c_pts, c_aws, c_secs, c_rws⟩ := c
  obtain ⟨d_w, d_h, d_lv, d_pts, d_aws, d_secs, d_rws⟩ := d
  simp only [Sky.row]
  refine Qt (((((Env.nil P).add 31 Qhq Qtk).add 30 Qhk Qs9).add 33 Qhn Qtg).add 32 QdM Qq2) hm QiF (Nat.le_of_ble_eq_true rfl) rfl ?_; unfold QcV; simp (config := { maxSteps := 2000000 }) only [bitvec_to_nat, reduceIte, Nat.reduceEqDiff, Nat.reduceAdd, Nat.reduceLeDiff, reduceCtorEq, Nat.reduceBEq, Nat.reduceLT, Nat.reduceMod, List.forall_mem_cons, Qhq, Qhk, Qhn, QdM, Qk, Qm, Qa, Q3, Qh, List.take_length, List.length_cons, List.length_nil, Nat.zero_add, QH, QX, Q4, Q6, Pt.row, Ql, Aw.row, Qo, Blk.row, Qb, Sec.row, Qc, Rw.row, Qp, Sky.row, Qd, QA, QB, Qj, Qn, QD, QO]
  simp only [Sky.mk.injEq]
  repeat' (first | with_reducible apply And.intro | with_reducible intro _)
  all_goals first | omega | (simp_all; done) | grind | grind [Aw.small, Sec.small, Sky.small]
end
end Go.Ve

namespace Go.Ve
noncomputable section
open Go.Proofs
set_option linter.unusedSimpArgs false
set_option linter.unusedVariables false
set_option maxRecDepth 100000
open Go.ChangeShapes Go.WideShapes
theorem QlC {α : Type} {f : α → List AV} {rs : List LSh} (h : ∀ r, KF rs r → ∃ x : α, r = f x) : ∀ {rows : List (List AV)}, (∀ r ∈ rows, KF rs r) → ∃ l : List α, rows = l.map f
  | [], _ => ⟨[], rfl⟩
  | r :: rows, k => by
    obtain ⟨x, rfl⟩ := h r (k r (by simp))
    obtain ⟨l, rfl⟩ := QlC h (rows := rows) fun r' h' => k r' (by simp [h'])
    exact ⟨x :: l, rfl⟩
def WP : List LSh := [.str]
theorem Qhr (r : List AV) (h : KF WP r) : ∃ x : ByteArray, r = QH x ∧ x.toList.length ≤ 9223372036854775807 := by
  simp only [WP, KF, QhP] at h
  obtain ⟨_, _, rfl, ⟨n, rfl, h⟩, rfl⟩ := h
  exact ⟨n, rfl, by rw [← J1]; unfold maxLen at h; omega⟩
def Qtr : List LSh := [.str, .int .i64, .int .i64]
theorem QuZ (r : List AV) (h : KF Qtr r) : ∃ x : Pt, r = Pt.row x ∧ x.fitp := by
  simp only [Qtr, KF, QhP] at h
  obtain ⟨_, _, rfl, ⟨nm, rfl, h_nm⟩, _, _, rfl, ⟨x, rfl, _⟩, _, _, rfl, ⟨y, rfl, _⟩, rfl⟩ := h

  exact ⟨⟨nm, x, y⟩, rfl, (by have e := J1 nm; unfold maxLen at h_nm; show nm.toList.length ≤ _; omega)⟩
def Qod : List LSh := [.int .i64, .int .i64, .int .i64, .int .i64, .int .i64, .int .i64]
theorem Qts (r : List AV) (h : KF Qod r) : ∃ x : Blk, r = Blk.row x := by
  simp only [Qod, KF, QhP] at h
  obtain ⟨_, _, rfl, ⟨x0, rfl, _⟩, _, _, rfl, ⟨y0, rfl, _⟩, _, _, rfl, ⟨x1, rfl, _⟩, _, _, rfl, ⟨y1, rfl, _⟩, _, _, rfl, ⟨lo, rfl, _⟩, _, _, rfl, ⟨hi, rfl, _⟩, rfl⟩ := h

  exact ⟨⟨x0, y0, x1, y1, lo, hi⟩, rfl⟩
def Qtt : List LSh := [.str, .int .i64, .int .i64, .int .i64]
theorem Qu0 (r : List AV) (h : KF Qtt r) : ∃ x : Rw, r = Rw.row x ∧ x.fitp := by
  simp only [Qtt, KF, QhP] at h
  obtain ⟨_, _, rfl, ⟨nm, rfl, h_nm⟩, _, _, rfl, ⟨x, rfl, _⟩, _, _, rfl, ⟨y, rfl, _⟩, _, _, rfl, ⟨tn, rfl, _⟩, rfl⟩ := h

  exact ⟨⟨nm, x, y, tn⟩, rfl, (by have e := J1 nm; unfold maxLen at h_nm; show nm.toList.length ≤ _; omega)⟩
def Qtu : List LSh := [.str, .sl WP]
theorem Qu1 (r : List AV) (h : KF Qtu r) : ∃ x : Aw, r = (Aw.row 1) x ∧ x.fitp := by
  simp only [Qtu, KF, QhP] at h
  obtain ⟨_, _, rfl, ⟨nm, rfl, h_nm⟩, _, _, rfl, ⟨pts, rfl, h_pts, r_pts⟩, rfl⟩ := h
  obtain ⟨pts, rfl, p_pts⟩ := Vg Qhr r_pts
  rw [List.length_map] at h_pts
  exact ⟨⟨nm, pts⟩, rfl, ⟨(by have e := J1 nm; unfold maxLen at h_nm; show nm.toList.length ≤ _; omega), ⟨(by unfold maxLen at h_pts; omega), p_pts⟩⟩⟩
def Qoe : List LSh := [.str, .sl Qod]
theorem Qtv (r : List AV) (h : KF Qoe r) : ∃ x : Sec, r = (Sec.row 1) x ∧ x.fitp := by
  simp only [Qoe, KF, QhP] at h
  obtain ⟨_, _, rfl, ⟨nm, rfl, h_nm⟩, _, _, rfl, ⟨bl, rfl, h_bl, r_bl⟩, rfl⟩ := h
  obtain ⟨bl, rfl⟩ := QlC Qts r_bl
  rw [List.length_map] at h_bl
  exact ⟨⟨nm, bl⟩, rfl, ⟨(by have e := J1 nm; unfold maxLen at h_nm; show nm.toList.length ≤ _; omega), (by unfold maxLen at h_bl; omega)⟩⟩
def QlD : List LSh := [.int .i64, .int .i64, .int .i64, .sl Qtr, .sl Qtu, .sl Qoe, .sl Qtt]
theorem Qtw (r : List AV) (h : KF QlD r) : ∃ x : Sky, r = (Sky.row 1) x ∧ x.fitp := by
  simp only [QlD, KF, QhP] at h
  obtain ⟨_, _, rfl, ⟨w, rfl, _⟩, _, _, rfl, ⟨h, rfl, _⟩, _, _, rfl, ⟨lv, rfl, _⟩, _, _, rfl, ⟨pts, rfl, h_pts, r_pts⟩, _, _, rfl, ⟨aws, rfl, h_aws, r_aws⟩, _, _, rfl, ⟨secs, rfl, h_secs, r_secs⟩, _, _, rfl, ⟨rws, rfl, h_rws, r_rws⟩, rfl⟩ := h
  obtain ⟨pts, rfl, p_pts⟩ := Vg QuZ r_pts
  rw [List.length_map] at h_pts
  obtain ⟨aws, rfl, p_aws⟩ := Vg Qu1 r_aws
  rw [List.length_map] at h_aws
  obtain ⟨secs, rfl, p_secs⟩ := Vg Qtv r_secs
  rw [List.length_map] at h_secs
  obtain ⟨rws, rfl, p_rws⟩ := Vg Qu0 r_rws
  rw [List.length_map] at h_rws
  exact ⟨⟨w, h, lv, pts, aws, secs, rws⟩, rfl, ⟨⟨(by unfold maxLen at h_pts; omega), p_pts⟩, ⟨(by unfold maxLen at h_aws; omega), p_aws⟩, ⟨(by unfold maxLen at h_secs; omega), p_secs⟩, ⟨(by unfold maxLen at h_rws; omega), p_rws⟩⟩⟩
end
end Go.Ve

namespace Go.Ve
noncomputable section
open Go.Proofs
set_option linter.unusedSimpArgs false
set_option linter.unusedVariables false
set_option maxRecDepth 100000
structure Cell where
  x : Int
  y : Int
  deriving Inhabited, DecidableEq
def Cell.row (s : Cell) : List AV := [.int .i64 s.x, .int .i64 s.y]
theorem Qtx {n : Int} (h : -9223372036854775808 ≤ n ∧ n ≤ 9223372036854775807) : IntKind.i64.wrap n = n := by rw [IntKind.wrap_i64]; omega
def Qr7 (a : Int) : Int := if a < 0 then -a else a
theorem Qty (a : Int) (ha : -1000000 ≤ a ∧ a ≤ 1000000) : Contract P 106 [.int .i64 a] [] (.int .i64 (Qr7 a)) [] := by
  refine Qt (Env.nil P) hm QiI (Nat.le_of_ble_eq_true rfl) rfl ?_; unfold QcZ; simp (config := { maxSteps := 2000000 }) only [bitvec_to_nat, reduceIte, Nat.reduceEqDiff, Nat.reduceAdd, Nat.reduceLeDiff, reduceCtorEq, Nat.reduceBEq, Nat.reduceLT, Nat.reduceMod, List.forall_mem_cons]
  rw [Qtx (by omega)]
  unfold Qr7
  exact ⟨fun h => by rw [if_pos h]; omega, fun h => by rw [if_neg h]⟩
def Qhs : List AV → Option (Prop × AV)
  | [.int .i64 a] => some ((-1000000 ≤ a ∧ a ≤ 1000000), .int .i64 (Qr7 a))
  | _ => none
theorem Qtz : ∀ args p v, Qhs args = some (p, v) → p → Contract P 106 args [] v [] ∧ noref v = true ∧ No99 v := by
  intro args p v h1 h2
  unfold Qhs at h1
  split at h1
  · rename_i a
    cases h1
    exact ⟨Qty a h2, rfl, trivial⟩
  · cases h1
def Qfy (a b : Cell) : Int := max (Qr7 (a.x - b.x)) (Qr7 (a.y - b.y))
def Cell.inn (a : Cell) : Prop := (0 ≤ a.x ∧ a.x ≤ 15) ∧ (0 ≤ a.y ∧ a.y ≤ 15)
instance (a : Cell) : Decidable a.inn := by unfold Cell.inn; infer_instance
theorem Qof (a b : Cell) (ha : a.inn) (hb : b.inn) : Contract P 96 [.agg a.row, .agg b.row] [] (.int .i64 (Qfy a b)) [] := by
  unfold Cell.inn at ha hb
  refine Qt ((Env.nil P).add 106 Qhs Qtz) hm Qfv (Nat.le_of_ble_eq_true rfl) rfl ?_; unfold Qao; simp (config := { maxSteps := 2000000 }) only [bitvec_to_nat, reduceIte, Nat.reduceEqDiff, Nat.reduceAdd, Nat.reduceLeDiff, reduceCtorEq, Nat.reduceBEq, Nat.reduceLT, Nat.reduceMod, List.forall_mem_cons, Qhs, Cell.row]
  unfold Qfy
  exact ⟨by omega, by omega, by omega, by omega, fun h => by omega, fun h => by omega⟩
def Qb7 : List AV → Option (Prop × AV)
  | [.agg [.int .i64 a_x, .int .i64 a_y], .agg [.int .i64 b_x, .int .i64 b_y]] => some ((True) ∧ (Cell.inn (Cell.mk a_x a_y) ∧ Cell.inn (Cell.mk b_x b_y)), .int .i64 (Qfy (Cell.mk a_x a_y) (Cell.mk b_x b_y)))
  | _ => none
theorem Qog : ∀ args p v, Qb7 args = some (p, v) → p → Contract P 96 args [] v [] ∧ noref v = true ∧ No99 v := by
  intro args p v h1 h2
  unfold Qb7 at h1
  split at h1
  · rename_i a_x a_y b_x b_y
    cases h1
    obtain ⟨_, HP⟩ := h2
    have := Qof (Cell.mk a_x a_y) (Cell.mk b_x b_y) HP.1 HP.2
    exact ⟨by simpa only [Cell.row, Cell.row] using this, rfl, trivial⟩
  · cases h1
theorem Qfz (g : FuncId) (hg : Qcr P g = true) (ls : List AV) (hls : JJ ls = true) (p : Pt → Bool) (t : Nat) (zs : List Pt) (hl : zs.length ≤ 4611686018427387904)
    (hC : ∀ z, Contract P g (.agg (Pt.row z) :: [.ptr 3 0]) [(3, .box ls)] (.bool (p z)) [(3, .box ls)]) : Contract P 100 [.sl t 3 (zs.map Pt.row), .fn g [] [.ptr 3 0]] [(3, .box ls)] (.int .i64 (Qmi p zs)) [(3, .box ls)] := by
  refine Qt (Env.nil P) hm Zx (Nat.le_of_ble_eq_true rfl) rfl ?_; unfold Yi; simp (config := { maxSteps := 2000000 }) only [bitvec_to_nat, reduceIte, Nat.reduceEqDiff, Nat.reduceAdd, Nat.reduceLeDiff, reduceCtorEq, Nat.reduceBEq, Nat.reduceLT, Nat.reduceMod, List.forall_mem_cons, Qv, QE, Qu, Q9, keepB, QF, Jc, Wd]
  refine QV (fun i : Nat => [(8, .int .i64 i)]) (fun _ => []) (fun i => i ≤ zs.length ∧ ∀ j, j < i → p (zs.getD j default) = false) (fun i => zs.length - i) (0) (by simp only [JX, JY, JZ, J0, Qw, Qx, Qy, Qz, reduceIte, Nat.reduceEqDiff]; exact ⟨by repeat' (first | exact trivial | refine ⟨.inr rfl, ?_⟩), by repeat' (first | exact trivial | refine ⟨rfl, ?_⟩), by first | rfl | simp [closedB, Qr, Qg, Qi, dom, Qe, *], by first | rfl | simp [keepB, dom]⟩) ?_ ?_
  · exact ⟨Nat.zero_le _, by intro j hj; omega⟩
  intro i hi NX hN
  unfold K1; simp (config := { maxSteps := 2000000 }) only [bitvec_to_nat, reduceIte, Nat.reduceEqDiff, Nat.reduceAdd, Nat.reduceLeDiff, reduceCtorEq, Nat.reduceBEq, Nat.reduceLT, Nat.reduceMod, List.forall_mem_cons, Qv, QE, Qu, Q9, keepB, QF, Jc, Wd, QuC, QsM]
  refine ⟨fun h1 => ⟨by omega, by omega, hg, _, _, .inl ⟨[(3, .box ls)], hC (zs.getD i default), ?_, ?_, ?_, ?_, ?_, rfl, ?_⟩, ?_⟩, fun h1 => ?_⟩
  · simp [getM]
  · intro q hq; left; revert q; simp [dom]
  · simp [dom]
  · simp [Qg, Qr, dom, Qe, Qv4]
  · simp [Qi, Qe, *]
  · simp [Qi, Qe, *]
  · simp (config := { maxSteps := 2000000 }) only [bitvec_to_nat, reduceIte, Nat.reduceEqDiff, Nat.reduceAdd, Nat.reduceLeDiff, reduceCtorEq, Nat.reduceBEq, Nat.reduceLT, Nat.reduceMod, List.forall_mem_cons, Qv, QE, Qu, Q9, keepB, QF, Jc, Wd]
    refine ⟨fun h2 => ?_, fun h2 => ?_⟩
    · simp (config := { maxSteps := 2000000 }) only [bitvec_to_nat, reduceIte, Nat.reduceEqDiff, Nat.reduceAdd, Nat.reduceLeDiff, reduceCtorEq, Nat.reduceBEq, Nat.reduceLT, Nat.reduceMod, List.forall_mem_cons, Qv, QE, Qu, Q9, keepB, QF, Jc, Wd]
      rw [QjL (by omega) h2 hi.2]
      simp [dom, Qe, *]
    · simp (config := { maxSteps := 2000000 }) only [bitvec_to_nat, reduceIte, Nat.reduceEqDiff, Nat.reduceAdd, Nat.reduceLeDiff, reduceCtorEq, Nat.reduceBEq, Nat.reduceLT, Nat.reduceMod, List.forall_mem_cons, Qv, QE, Qu, Q9, keepB, QF, Jc, Wd]
      refine ⟨by omega, ?_⟩
      refine hN (i + 1) _ (by simp only [JX, JY, JZ, J0, Qw, Qx, Qy, Qz, reduceIte, Nat.reduceEqDiff]; exact ⟨by repeat' (first | exact trivial | refine ⟨.inr rfl, ?_⟩), by repeat' (first | exact trivial | refine ⟨rfl, ?_⟩), by first | rfl | simp [closedB, Qr, Qg, Qi, dom, Qe, *], by first | rfl | simp [keepB, dom]⟩) ?_ ?_
      · exact ⟨by omega, JB hi.2 h2⟩
      · omega
  · rw [Qek fun j hj => hi.2 j (by omega)]
    simp [dom, Qe, *]
theorem Qq3 (z : Pt) (s : ByteArray) : Contract P 101 [.agg z.row, .ptr 3 0] [(3, .box [.str s])] (.bool (decide (z.nm = s))) [(3, .box [.str s])] := by
  simp only [Pt.row]
  refine Qt (Env.nil P) hm QbV (Nat.le_of_ble_eq_true rfl) rfl ?_; unfold Uk; simp (config := { maxSteps := 2000000 }) only [bitvec_to_nat, reduceIte, Nat.reduceEqDiff, Nat.reduceAdd, Nat.reduceLeDiff, reduceCtorEq, Nat.reduceBEq, Nat.reduceLT, Nat.reduceMod, List.forall_mem_cons, Qv, QE, Qu, Q9, keepB, QF, Jc, Ql]
  all_goals simp [dom]
def QdN : RTab
  | [.sl zt 3 zx, .fn 101 [] [.ptr ob off]], M => match M ob with
    | some (.box [.str s]) => some ⟨off = 0 ∧ (zx.map JA).map Pt.row = zx ∧ (zx.map JA).length ≤ 4611686018427387904, fun _ : Unit => True, fun _ => .int .i64 (Qmi (fun z => decide (z.nm = s)) (zx.map JA)), fun _ => [(ob, .box [.str s])]⟩
    | _ => none
  | _, _ => none
theorem Qq4 : okTab P 100 QdN := by
  intro args M o h hp
  unfold QdN at h
  split at h
  · rename_i zt zx ob off
    split at h
    · rename_i s hM
      cases h
      obtain ⟨rfl, e0, HP⟩ := hp
      have hC := Qfz 101 (by kernel_rfl) _ rfl (fun z => decide (z.nm = s)) zt (zx.map JA) HP fun z => Qq3 z s
      simp only [e0, decide_eq_true_eq] at hC
      exact ⟨(), trivial, Qnz _ hC (by simp [JJ, noref]) rfl (by assumption) (by simp [X7, ren, swp]) (by simp [Qg, Qr, noref])⟩
    · cases h
  · cases h
theorem Qq5 (s : Sky) (nm : ByteArray) (hs : s.small) : Contract P 68 [.agg (s.row 0), .str nm] [] (.int .i64 (KN s.pts nm)) [] := by
  unfold Sky.small at hs
  refine Qt ((Env.nil P).addR 100 QdN Qq4) hm Qc9 (Nat.le_of_ble_eq_true rfl) rfl ?_; unfold VN; simp (config := { maxSteps := 2000000 }) only [bitvec_to_nat, reduceIte, Nat.reduceEqDiff, Nat.reduceAdd, Nat.reduceLeDiff, reduceCtorEq, Nat.reduceBEq, Nat.reduceLT, Nat.reduceMod, List.forall_mem_cons, Qv, QE, Qu, Q9, keepB, QF, Jc, QdN, QA, Sky.row]
  exact ⟨by omega, fun _ => rfl⟩
theorem UG {l : List Pt} {nm : ByteArray} (h : 0 ≤ KN l nm) : (KN l nm).toNat < l.length ∧ (l.getD (KN l nm).toNat default).nm = nm ∧ KN l nm < l.length := by
  unfold KN at *
  rcases Qel (fun p : Pt => decide (p.nm = nm)) l with ⟨h1, h2⟩ | ⟨i, h1, h2, h3, _⟩
  · omega
  · rw [h1]; exact ⟨by simpa using h2, by simpa using h3, by omega⟩
def ptC (s : Sky) (nm : ByteArray) : Cell := ⟨(s.pts.getD (KN s.pts nm).toNat default).x, (s.pts.getD (KN s.pts nm).toNat default).y⟩
theorem QaU {s : Sky} (hv : s.valid) {nm : ByteArray} (h : 0 ≤ KN s.pts nm) : (ptC s nm).inn := by
  obtain ⟨h1, _, _⟩ := UG h
  have h2 := (hv.2.1.2 _ h1).2.2.1
  have h3 := hv.1
  unfold YP at h2
  unfold G7 at h3
  simp only [Cell.inn, ptC]
  omega
def KJ : List AV → Option (Prop × AV)
  | [.agg [.int .i64 s_w, .int .i64 s_h, .int .i64 s_lv, .sl 0 3 s_pts, .sl 0 2 s_aws, .sl 0 2 s_secs, .sl 0 4 s_rws], .str nm] => some ((((s_pts.map JA).map Pt.row = s_pts) ∧ ((s_aws.map JI).map (Aw.row 0) = s_aws) ∧ ((s_secs.map QP).map (Sec.row 0) = s_secs) ∧ ((s_rws.map JG).map Rw.row = s_rws)) ∧ (Sky.small (Sky.mk s_w s_h s_lv (s_pts.map JA) (s_aws.map JI) (s_secs.map QP) (s_rws.map JG))), .int .i64 (KN (Sky.pts (Sky.mk s_w s_h s_lv (s_pts.map JA) (s_aws.map JI) (s_secs.map QP) (s_rws.map JG))) nm))
  | _ => none
theorem Qq6 : ∀ args p v, KJ args = some (p, v) → p → Contract P 68 args [] v [] ∧ noref v = true ∧ No99 v := by
  intro args p v h1 h2
  unfold KJ at h1
  split at h1
  · rename_i s_w s_h s_lv s_pts s_aws s_secs s_rws nm
    cases h1
    obtain ⟨⟨e0, e1, e2, e3⟩, HP⟩ := h2
    have := Qq5 (Sky.mk s_w s_h s_lv (s_pts.map JA) (s_aws.map JI) (s_secs.map QP) (s_rws.map JG)) nm HP
    exact ⟨by simpa only [e0, e1, e2, e3, Sky.row] using this, rfl, trivial⟩
  · cases h1
theorem Qu2 (s : Sky) (nm : ByteArray) (hs : s.small) (h : 0 ≤ KN s.pts nm) : Contract P 97 [.agg (s.row 0), .str nm] [] (.agg (ptC s nm).row) [] := by
  unfold Sky.small at hs
  obtain ⟨h1, h2, h3⟩ := UG h
  refine Qt ((Env.nil P).add 53 JO Vd) hm QjX (Nat.le_of_ble_eq_true rfl) rfl ?_; unfold QeN; simp (config := { maxSteps := 2000000 }) only [bitvec_to_nat, reduceIte, Nat.reduceEqDiff, Nat.reduceAdd, Nat.reduceLeDiff, reduceCtorEq, Nat.reduceBEq, Nat.reduceLT, Nat.reduceMod, List.forall_mem_cons, JO, Pt.row, Ql, QA, Qk, Qm, Qa, Int.toNat_natCast, Nat.sub_zero, Nat.zero_add, List.length_map, Sky.row, Qk]
  exact ⟨by omega, h, h3, rfl, rfl⟩
def QlE : List AV → Option (Prop × AV)
  | [.agg [.int .i64 s_w, .int .i64 s_h, .int .i64 s_lv, .sl 0 3 s_pts, .sl 0 2 s_aws, .sl 0 2 s_secs, .sl 0 4 s_rws], .str nm] => some ((((s_pts.map JA).map Pt.row = s_pts) ∧ ((s_aws.map JI).map (Aw.row 0) = s_aws) ∧ ((s_secs.map QP).map (Sec.row 0) = s_secs) ∧ ((s_rws.map JG).map Rw.row = s_rws)) ∧ (Sky.small (Sky.mk s_w s_h s_lv (s_pts.map JA) (s_aws.map JI) (s_secs.map QP) (s_rws.map JG)) ∧ 0 ≤ KN (Sky.pts (Sky.mk s_w s_h s_lv (s_pts.map JA) (s_aws.map JI) (s_secs.map QP) (s_rws.map JG))) nm), .agg (ptC (Sky.mk s_w s_h s_lv (s_pts.map JA) (s_aws.map JI) (s_secs.map QP) (s_rws.map JG)) nm).row)
  | _ => none
theorem Qu3 : ∀ args p v, QlE args = some (p, v) → p → Contract P 97 args [] v [] ∧ noref v = true ∧ No99 v := by
  intro args p v h1 h2
  unfold QlE at h1
  split at h1
  · rename_i s_w s_h s_lv s_pts s_aws s_secs s_rws nm
    cases h1
    obtain ⟨⟨e0, e1, e2, e3⟩, HP⟩ := h2
    have := Qu2 (Sky.mk s_w s_h s_lv (s_pts.map JA) (s_aws.map JI) (s_secs.map QP) (s_rws.map JG)) nm HP.1 HP.2
    exact ⟨by simpa only [e0, e1, e2, e3, Sky.row] using this, rfl, by simp [Cell.row, No99, Ko]⟩
  · cases h1
def ZJ (s : Sky) (a b : Nm) : Prop := ∃ i, i < s.aws.length ∧ ∃ k, k < (s.aws.getD i default).pts.length ∧ 0 < k ∧ ((s.aws.getD i default).pts.getD (k - 1) default = a ∧ (s.aws.getD i default).pts.getD k default = b ∨ (s.aws.getD i default).pts.getD (k - 1) default = b ∧ (s.aws.getD i default).pts.getD k default = a)
noncomputable instance (s : Sky) (a b : Nm) : Decidable (ZJ s a b) := Classical.propDecidable _
def dS (s : Sky) (a b : Nm) : Int := Qfy (ptC s a) (ptC s b)
def Kd (s : Sky) : List Nm := s.pts.map (·.nm)
theorem Qoh (s : Sky) (a b : Nm) : 0 ≤ dS s a b := by unfold dS Qfy Qr7; omega
theorem Qb8 {s : Sky} {a : Nm} (h : 0 ≤ KN s.pts a) : a ∈ Kd s := by
  obtain ⟨h1, h2, _⟩ := UG h
  refine List.mem_map.2 ⟨s.pts.getD (KN s.pts a).toNat default, JD h1, h2⟩
theorem WQ {s : Sky} {a : Nm} (h : a ∈ Kd s) : 0 ≤ KN s.pts a := by
  obtain ⟨p, hp, rfl⟩ := List.mem_map.1 h
  obtain ⟨i, hi, rfl⟩ := List.mem_iff_getElem.1 hp
  unfold KN
  rcases Qel (fun q : Pt => decide (q.nm = s.pts[i].nm)) s.pts with ⟨h1, h2⟩ | ⟨j, h1, _⟩
  · have := h2 i hi; simp [hi] at this
  · rw [h1]; omega
theorem Qoi {s : Sky} (hv : s.valid) {a b : Nm} (h : ZJ s a b) : 0 ≤ KN s.pts a ∧ 0 ≤ KN s.pts b := by
  obtain ⟨i, hi, k, hk, h0, h⟩ := h
  have hw := (hv.2.2.1.2 i hi).2.2.2
  have h1 := (hw k hk).1
  have h2 := (hw (k - 1) (by omega)).1
  rcases h with ⟨rfl, rfl⟩ | ⟨rfl, rfl⟩
  · exact ⟨h2, h1⟩
  · exact ⟨h1, h2⟩
theorem WR {s : Sky} (hv : s.valid) {a b : Nm} (h : ZJ s a b) : b ∈ Kd s := Qb8 (Qoi hv h).2
end
end Go.Ve

namespace Go.Ve
open Go.Proofs
set_option maxRecDepth 100000
def Xt : SCode := (.seq (jq [jm 36 8 [],jf 37 3 2 [],jl 38 37 [37],jn 39 (.lenL (.v 38)) [38],jb 40 .lss 36 39 [36,39]] [2,5,6,7,8,40] (.cond (.v 40) .skip (.exit 4))) (.seq (.block 5 (.seq (.seq (.rgd [jm 43 5 [],jm 44 8 [],ja 45 1 43 44 [],jl 46 45 [],jn 47 (.lenL (.v 46)) [],jc 48 .eql 47 0 [],jm 49 48 [],jh 50 49 (.loadN 7 (.v 2)) [],jh 51 49 (.faddr 3 (.v 2)) [],jh 52 49 (.load1 (.v 51)) [],jM 53 49 7 [],jh 54 49 (.iaddr 3 (.v 52) (.v 53)) [],jh 55 49 (.faddr 0 (.v 54)) [],jh 56 49 (.load1 (.v 55)) [],jh 57 49 (.faddr 3 (.v 2)) [],jh 58 49 (.load1 (.v 57)) [],jM 59 49 8 [],jh 60 49 (.iaddr 3 (.v 58) (.v 59)) [],jh 61 49 (.faddr 0 (.v 60)) [],jh 62 49 (.load1 (.v 61)) [],jh 63 49 (.call 93 [.v 50,.v 56,.v 62]) [],jh 64 49 (.not (.v 63)) [],jp 65 49 64 [],jm 66 65 [],jM 67 66 5 [],jM 68 66 8 [],jh 69 66 (.iaddr 1 (.v 67) (.v 68)) [],jh 70 66 (.load1 (.v 69)) [],jh 71 66 (.faddr 3 (.v 2)) [],jh 72 66 (.load1 (.v 71)) [],jM 73 66 7 [],jh 74 66 (.iaddr 3 (.v 72) (.v 73)) [],jh 75 66 (.faddr 0 (.v 74)) [],jh 76 66 (.load1 (.v 75)) [],jh 77 66 (.call 94 [.v 70,.v 76]) [],jp 78 66 77 []] [2,5,6,7,8,78] [none,none,none,none,none,none,none,none,none,none,none,none,none,none,none,none,none,none,none,none,none,none,none,none,none,none,none,none,none,none,none,none,none,none,none,none]) (.cond (.v 78) (.exit 5) .skip)) (.seq (.rgd [jf 79 3 2 [],jl 80 79 [],jm 81 7 [],ja 82 3 80 81 [],jf 83 0 82 [],jl 84 83 [],jn 85 (.litOwn 185 9 1 [.v 84]) [],jm 86 5 [],jm 87 8 [],ja 88 1 86 87 [],jl 89 88 [],jn 90 (.app 185 9 1 (.v 85) (.v 89)) [],jm 9 90 []] [2,5,6,7,8,9] [none,none,none,none,none,none,some [],none,none,some [2],some [3],none,none]) (.gh (.frzE 9) (.seq (.rgd [jL 91 7 2 [],jm 92 9 [],jm 93 5 [],jm 94 7 [],ja 95 1 93 94 [],jl 96 95 [],jn 97 (.call 95 [.v 91,.v 92,.v 96]) []] [2,5,6,7,8,9,97] [none,none,none,none,none,none,none]) (.cond (.v 97) (.rg [jm 98 5 [],jm 99 7 [],jm 100 9 [9],ja 101 1 98 99 [98,99],⟨none,.store 1 (.v 101) (.v 100),none,[100,101]⟩] [2,5,6,7,8]) .skip)))))) (.rg [jm 41 8 [8],jn 42 (.binN .add (.v 41) (ci 1)) [41],jm 8 42 [42]] [2,5,6,7,8])))
def Xu : SCode := (.seq (jq [jm 29 7 [],jf 30 3 2 [],jl 31 30 [30],jn 32 (.lenL (.v 31)) [31],jb 33 .lss 29 32 [29,32]] [2,5,6,7,33] (.cond (.v 33) .skip (.exit 2))) (.seq (.block 3 (jq [jI 8 0 []] [2,5,6,7,8] (.block 4 (.loop Xt)))) (.rg [jm 34 7 [7],jn 35 (.binN .add (.v 34) (ci 1)) [34],jm 7 35 [35]] [2,5,6,7])))
def Xv : SCode := (.seq (jq [jm 22 6 [],jf 23 3 2 [],jl 24 23 [23],jn 25 (.lenL (.v 24)) [24],jb 26 .lss 22 25 [22,25]] [2,5,6,26] (.cond (.v 26) .skip (.exit 0))) (.seq (.block 1 (jq [jI 7 0 []] [2,5,6,7] (.block 2 (.loop Xu)))) (.rg [jm 27 6 [6],jn 28 (.binN .add (.v 27) (ci 1)) [27],jm 6 28 [28]] [2,5,6])))
/-- spec.l7Ways: function 54 -/
def Qaq : SFun := { n := 103,res := [.t 4],body := (jq [jn 2 (.box 102 (.v 0)) [0],jn 4 (.mv (.c (.sl 0 1 []))) [4]] [1,2] (jq [jf 10 3 2 [],jl 11 10 [10],jn 12 (.lenL (.v 11)) [11],jn 13 (.mk 113 55 1 [.sl 0 1 []] (.v 12)) [12],jm 5 13 [13]] [1,2,5] (jq [jm 14 5 [],jf 15 3 2 [],jl 16 15 [15],jm 17 1 [],jn 18 (.call 53 [.v 16,.v 17]) [16,17],jm 19 1 [1],jn 20 (.lit 9 1 [.v 19]) [19],ja 21 1 14 18 [14,18],⟨none,.store 1 (.v 21) (.v 20),none,[20,21]⟩] [2,5] (.seq (jq [jI 6 0 []] [2,5,6] (.block 0 (.loop Xv))) (jq [jm 102 5 [5],jm 4 102 [102]] [4] (.gh (.frzE 4) .ret)))))) }
theorem QfA : Jd Go.Proofs.Tryz.prog 54 Qaq = true := by kernel_rfl
def Yc : SCode := (jq [jb 67 .lss 66 65 []] [2,5,6,8,9,27,28,29,64,65,66,67] (.seq (.cond (.v 67) .skip (.exit 6)) (.seq (.block 7 (jq [ja 68 2 64 66 [],jL 69 2 68 [68],jn 11 (.alloc 111 [.str ⟨#[]⟩,.str ⟨#[]⟩]) [],⟨none,.store 2 (.v 11) (.v 69),none,[69]⟩] [2,5,6,8,9,11,27,28,29,64,65,66] (jq [jm 71 5 [],jn 72 (.iaddrA 2 1 (.v 11) (ci 0)) [],jl 73 72 [72],jn 74 (.look true 0 (.agg [.int .i64 0,.sl 0 1 []]) (.v 71) (.v 73)) [71,73],jm 70 74 [74],jn 75 (.ext 0 (.v 70)) [],jn 76 (.ext 1 (.v 70)) [70],jn 12 (.alloc 112 [.int .i64 0,.sl 0 1 []]) [],⟨none,.store 2 (.v 12) (.v 75),none,[75]⟩,jm 13 76 [76]] [2,5,6,8,9,11,12,13,27,28,29,64,65,66] (.seq (jq [jm 77 13 [13],jn 78 (.not (.v 77)) [77]] [2,5,6,8,9,11,12,27,28,29,64,65,66,78] (.cond (.v 78) (.exit 7) .skip)) (.seq (.rgd [jf 79 3 2 [],jl 80 79 [],jL 81 7 2 [],jn 82 (.iaddrA 2 1 (.v 11) (ci 0)) [],jl 83 82 [],jn 84 (.call 68 [.v 81,.v 83]) [],ja 85 3 80 84 [],jL 86 3 85 [],jf 87 3 2 [],jl 88 87 [],jL 89 7 2 [],jn 90 (.iaddrA 2 1 (.v 11) (ci 1)) [],jl 91 90 [],jn 92 (.call 68 [.v 89,.v 91]) [],ja 93 3 88 92 [],jL 94 3 93 [],jn 14 (.alloc 114 [.str ⟨#[]⟩,.int .i64 0,.int .i64 0]) [],jn 15 (.alloc 115 [.str ⟨#[]⟩,.int .i64 0,.int .i64 0]) [],⟨none,.store 3 (.v 14) (.v 86),none,[]⟩,⟨none,.store 3 (.v 15) (.v 94),none,[]⟩] [2,5,6,8,9,11,12,14,15,27,28,29,64,65,66] [some [],some [],some [],some [],some [],some [4,3],some [],some [],some [2],some [3],some [4],some [5],some [6],some [12,11,6,5,4,3],some [],some [],some [15,14,13,12,11,10,9,8,7,6,5,4,3,2,1,0],some [16,15,14,13,12,11,10,9,8,7,6,5,4,3,2,1,0],some [9,8,3,2],none]) (.seq (.rgd [jf 95 0 12 [],jl 96 95 [],jf 97 1 14 [],jl 98 97 [],jf 99 1 15 [],jl 100 99 [],jn 101 (.call 69 [.v 98,.v 100]) [],jf 102 2 14 [],jl 103 102 [],jf 104 2 15 [],jl 105 104 [],jn 106 (.call 69 [.v 103,.v 105]) [],jn 107 (.mx (.v 101) (.v 106)) [],jn 108 (.binN .add (.v 96) (.v 107)) [],jf 109 1 12 [],jl 110 109 [],jn 111 (.call 70 [.v 110]) [],jn 112 (.iaddrA 2 1 (.v 11) (ci 1)) [],jl 113 112 [],jn 114 (.lit 9 1 [.v 113]) [],jn 115 (.app 215 9 1 (.v 111) (.v 114)) [],jn 116 (.build [.int .i64 0,.sl 0 1 []] [(0,1,.v 108),(1,1,.v 115)]) [],jn 16 (.alloc 116 [.int .i64 0,.sl 0 1 []]) [],⟨none,.store 2 (.v 16) (.v 116),none,[]⟩] [2,5,6,8,9,11,16,27,28,29,64,65,66] [some [],some [],some [],some [],some [],some [],some [5,4],some [0],some [1],some [2],some [3],some [10,9],none,none,some [7,2],some [8,3],some [15,14],some [10,5,0],some [11,6,1],none,some [19,18],none,some [21,20,19,18,17,16,15,14,13,12,11,10,7,6,5,4,3,1],none]) (.gh (.frzB 116 1) (jq [jm 118 5 [],jn 119 (.iaddrA 2 1 (.v 11) (ci 1)) [],jl 120 119 [119],jn 121 (.look true 0 (.agg [.int .i64 0,.sl 0 1 []]) (.v 118) (.v 120)) [118,120],jm 117 121 [121],jn 122 (.ext 0 (.v 117)) [],jn 123 (.ext 1 (.v 117)) [117],jn 17 (.alloc 117 [.int .i64 0,.sl 0 1 []]) [],⟨none,.store 2 (.v 17) (.v 122),none,[122]⟩,jm 18 123 [123]] [2,5,6,8,9,11,16,17,18,27,28,29,64,65,66] (jq [jm 124 18 [18],jn 125 (.not (.v 124)) [124],jm 126 125 [125],jh 127 126 (.loadN 2 (.v 16)) [],jh 128 126 (.loadN 2 (.v 17)) [17],jh 129 126 (.call 71 [.v 127,.v 128]) [127,128],jp 130 126 129 [126,129]] [2,5,6,8,9,11,16,27,28,29,64,65,66,130] (.cond (.v 130) (jq [jm 131 5 [],jn 132 (.iaddrA 2 1 (.v 11) (ci 1)) [11],jl 133 132 [132],jL 134 2 16 [16],⟨none,.mset 0 (.v 131) (.v 133) (.v 134),none,[131,133,134]⟩] [2,5,8,9,27,28,29,64,65,66] (.rg [jn 6 (.mv (.c (.bool true))) []] [2,5,6,8,9,27,28,29,64,65,66])) .skip)))))))))) (.rg [jn 135 (.binN .add (.v 66) (ci 1)) [66],jm 66 135 [135]] [2,5,6,8,9,27,28,29,64,65,66]))))
def GB : SCode := (.seq (jq [jm 33 9 [],jf 34 1 8 [],jl 35 34 [34],jn 36 (.lenL (.v 35)) [35],jb 37 .lss 33 36 [33,36]] [2,5,6,8,9,27,28,29,37] (.cond (.v 37) .skip (.exit 4))) (.seq (.block 5 (.seq (.rgd [jf 40 1 8 [],jl 41 40 [],jm 42 9 [],jn 43 (.binN .sub (.v 42) (ci 1)) [],ja 44 1 41 43 [],jl 45 44 [],jf 46 1 8 [],jl 47 46 [],jm 48 9 [],ja 49 1 47 48 [],jl 50 49 [],jn 51 (.build [.str ⟨#[]⟩,.str ⟨#[]⟩] [(0,1,.v 45),(1,1,.v 50)]) [],jf 52 1 8 [],jl 53 52 [],jm 54 9 [],ja 55 1 53 54 [],jl 56 55 [],jf 57 1 8 [],jl 58 57 [],jm 59 9 [],jn 60 (.binN .sub (.v 59) (ci 1)) [],ja 61 1 58 60 [],jl 62 61 [],jn 63 (.build [.str ⟨#[]⟩,.str ⟨#[]⟩] [(0,1,.v 56),(1,1,.v 62)]) [],jn 64 (.lit 127 2 [.v 51,.v 63]) [],jn 65 (.lenL (.v 64)) [],jI 66 0 []] [2,5,6,8,9,27,28,29,64,65,66] [none,none,none,none,none,none,none,none,none,none,none,none,none,none,none,none,none,none,none,none,none,none,none,none,none,none,none]) (.block 6 (.loop Yc)))) (.rg [jm 38 9 [9],jn 39 (.binN .add (.v 38) (ci 1)) [38],jm 9 39 [39]] [2,5,6,8,9,27,28,29])))
def GC : SCode := (jq [jb 30 .lss 29 28 []] [2,5,6,27,28,29,30] (.seq (.cond (.v 30) .skip (.exit 2)) (.seq (.block 3 (jq [ja 31 2 27 29 [],jL 32 2 31 [31],jn 8 (.alloc 108 [.str ⟨#[]⟩,.sl 0 1 []]) [],⟨none,.store 2 (.v 8) (.v 32),none,[32]⟩] [2,5,6,8,27,28,29] (jq [jI 9 1 []] [2,5,6,8,9,27,28,29] (.block 4 (.loop GB))))) (.rg [jn 136 (.binN .add (.v 29) (ci 1)) [29],jm 29 136 [136]] [2,5,6,27,28,29]))))
def GD : SCode := (.seq (jq [jm 25 6 [6]] [2,5,25] (.cond (.v 25) .skip (.exit 0))) (.block 1 (jq [jn 6 (.mv (.c (.bool false))) []] [2,5,6] (jq [jf 26 4 2 [],jl 27 26 [26],jn 28 (.lenL (.v 27)) [],jI 29 0 []] [2,5,6,27,28,29] (.block 2 (.loop GC))))))
/-- impl.Sky).ways: function 27 -/
def VT : SFun := { n := 138,res := [.t 4],body := (jq [jn 2 (.box 102 (.v 0)) [0],jn 4 (.mv (.c (.junk))) [4]] [1,2] (jq [jn 19 (.mkmap 119 0) [],jm 20 1 [],jm 21 1 [1],jn 22 (.lit 9 1 [.v 21]) [21],jn 23 (.build [.int .i64 0,.sl 0 1 []] [(0,1,.c (.int .i64 0)),(1,1,.v 22)]) [22],⟨none,.mset 0 (.v 19) (.v 20) (.v 23),none,[20,23]⟩,jm 24 19 [19],jm 5 24 [24]] [2,5] (.seq (jq [jn 6 (.mv (.c (.bool true))) []] [2,5,6] (.block 0 (.loop GD))) (jq [jm 137 5 [5],jm 4 137 [137]] [4] .ret)))) }
theorem Qdg : Jd Go.Proofs.Tryz.prog 27 VT = true := by kernel_rfl
/-- slices.Clone[[]string,string]: function 70 -/
def GO : SFun := { n := 8,res := [.t 2],body := (jq [jn 2 (.mv (.c (.sl 0 1 []))) [2]] [0] (.seq (jq [jm 3 0 [],jn 4 (.isnil false (.v 3)) [3]] [0,4] (.cond (.v 4) (jq [jn 2 (.mv (.c (.sl 0 1 []))) []] [2] .ret) .skip)) (jq [jn 5 (.litOwn 105 9 1 []) [],jm 6 0 [0],jn 7 (.app 105 9 1 (.v 5) (.v 6)) [5,6],jm 2 7 [7]] [2] .ret))) }
theorem V1 : Jd Go.Proofs.Tryz.prog 70 GO = true := by kernel_rfl
end Go.Ve

namespace Go.Ve
noncomputable section
open Go.Proofs
set_option linter.unusedSimpArgs false
set_option linter.unusedVariables false
set_option maxRecDepth 100000
noncomputable instance (a : Nm) (l : List Nm) : Decidable (a ∈ l) := Classical.propDecidable _
theorem QtA (t : Nat) (l : List Nm) (a : Nm) (hl : l.length ≤ 4294967296) : Contract P 94 [.sl t 1 (l.map QH), .str a] [] (.bool (decide (a ∈ l))) [] := by
  refine Qt (Env.nil P) hm QiH (Nat.le_of_ble_eq_true rfl) rfl ?_; unfold QcY; simp (config := { maxSteps := 2000000 }) only [bitvec_to_nat, reduceIte, Nat.reduceEqDiff, Nat.reduceAdd, Nat.reduceLeDiff, reduceCtorEq, Nat.reduceBEq, Nat.reduceLT, Nat.reduceMod, List.forall_mem_cons, Qk, Qm, Qa, Q3, Qh, List.take_length, List.length_cons, List.length_nil, Nat.zero_add, QH, QX, Q4, Q6, Zone.row, Qf, Qs, Pt.row, Ql, QA, Aw.row, Qo, QB, Blk.row, Qb, Qj, Sec.row, Qc, Qn, Rw.row, Qp, QD, Qd, Int.toNat_natCast, Nat.sub_zero, List.length_map]
  refine QV (fun i : Nat => [(5, .int .i64 i)]) (fun _ => []) (fun i => i ≤ l.length ∧ ∀ j, j < i → l.getD j default ≠ a) (fun i => l.length - i) 0 (by simp only [JX, JY, JZ, J0, Qw, Qx, Qy, Qz, reduceIte, Nat.reduceEqDiff]; exact ⟨by repeat' (first | exact trivial | refine ⟨.inr rfl, ?_⟩), by repeat' (first | exact trivial | refine ⟨rfl, ?_⟩), by first | rfl | simp [closedB, Qr, Qg, Qi, dom, Qe, *], by first | rfl | simp [keepB, dom]⟩) ⟨Nat.zero_le _, by intro j hj; omega⟩ ?_
  intro i hi NX hN
  unfold Qan; simp (config := { maxSteps := 2000000 }) only [bitvec_to_nat, reduceIte, Nat.reduceEqDiff, Nat.reduceAdd, Nat.reduceLeDiff, reduceCtorEq, Nat.reduceBEq, Nat.reduceLT, Nat.reduceMod, List.forall_mem_cons, Qk, Qm, Qa, Q3, Qh, List.take_length, List.length_cons, List.length_nil, Nat.zero_add, QH, QX, Q4, Q6, Zone.row, Qf, Qs, Pt.row, Ql, QA, Aw.row, Qo, QB, Blk.row, Qb, Qj, Sec.row, Qc, Qn, Rw.row, Qp, QD, Qd, Int.toNat_natCast, Nat.sub_zero, List.length_map]
  repeat' (first | with_reducible apply And.intro | with_reducible intro _)
  all_goals first
    | omega
    | (rename_i h1 h2; rw [← h2]; exact JD (by omega))
    | (intro hm; obtain ⟨j, hj, e⟩ := List.mem_iff_getElem.1 hm; exact hi.2 j (by omega) (by simp [hj, e]))
    | (refine hN (i + 1) _ (by simp only [JX, JY, JZ, J0, Qw, Qx, Qy, Qz, reduceIte, Nat.reduceEqDiff]; exact ⟨by repeat' (first | exact trivial | refine ⟨.inr rfl, ?_⟩), by repeat' (first | exact trivial | refine ⟨rfl, ?_⟩), by first | rfl | simp [closedB, Qr, Qg, Qi, dom, Qe, *], by first | rfl | simp [keepB, dom]⟩) ?_ ?_
       · exact ⟨by omega, fun j hj => (Nat.lt_or_ge j i).elim (fun q => hi.2 j q) fun q => by rw [show j = i from by omega]; assumption⟩
       · omega)
    | trace_state
def UH : List AV → Option (Prop × AV)
  | [.sl lt 1 lx, .str a] => some ((((lx.map unS).map QH = lx)) ∧ ((lx.map unS).length ≤ 4294967296), .bool (decide (a ∈ (lx.map unS))))
  | _ => none
theorem QtB : ∀ args p v, UH args = some (p, v) → p → Contract P 94 args [] v [] ∧ noref v = true ∧ No99 v := by
  intro args p v h1 h2
  unfold UH at h1
  split at h1
  · rename_i lt lx a
    cases h1
    obtain ⟨e0, HP⟩ := h2
    have := QtA lt (lx.map unS) a HP
    exact ⟨by simpa only [e0] using this, rfl, trivial⟩
  · cases h1
theorem QlF {a b : Cell} (ha : a.inn) (hb : b.inn) : 0 ≤ Qfy a b ∧ Qfy a b ≤ 15 := by
  unfold Cell.inn at ha hb
  unfold Qfy Qr7
  split <;> split <;> omega
theorem Qq7 (s : Sky) (a b : Nm) (hs : s.small) (hv : s.valid) (ha : 0 ≤ KN s.pts a) (hb : 0 ≤ KN s.pts b) : Contract P 55 [.agg (s.row 0), .str a, .str b] [] (.int .i64 (dS s a b)) [] := by
  refine Qt (((Env.nil P).add 97 QlE Qu3).add 96 Qb7 Qog) hm Qg1 (Nat.le_of_ble_eq_true rfl) rfl ?_; unfold QbH; simp (config := { maxSteps := 2000000 }) only [bitvec_to_nat, reduceIte, Nat.reduceEqDiff, Nat.reduceAdd, Nat.reduceLeDiff, reduceCtorEq, Nat.reduceBEq, Nat.reduceLT, Nat.reduceMod, List.forall_mem_cons, QlE, Qb7, Qk, Qm, Qa, Q3, Qh, List.take_length, List.length_cons, List.length_nil, Nat.zero_add, QH, QX, Q4, Q6, Zone.row, Qf, Qs, Pt.row, Ql, QA, Aw.row, Qo, QB, Blk.row, Qb, Qj, Sec.row, Qc, Qn, Rw.row, Qp, QD, Qd, Int.toNat_natCast, Nat.sub_zero, List.length_map, Sky.row, Cell.row]
  exact ⟨⟨hs, ha⟩, ⟨hs, hb⟩, ⟨QaU hv ha, QaU hv hb⟩, rfl⟩
def Qb9 : List AV → Option (Prop × AV)
  | [.agg [.int .i64 s_w, .int .i64 s_h, .int .i64 s_lv, .sl 0 3 s_pts, .sl 0 2 s_aws, .sl 0 2 s_secs, .sl 0 4 s_rws], .str a, .str b] => some ((((s_pts.map JA).map Pt.row = s_pts) ∧ ((s_aws.map JI).map (Aw.row 0) = s_aws) ∧ ((s_secs.map QP).map (Sec.row 0) = s_secs) ∧ ((s_rws.map JG).map Rw.row = s_rws)) ∧ (Sky.small (Sky.mk s_w s_h s_lv (s_pts.map JA) (s_aws.map JI) (s_secs.map QP) (s_rws.map JG)) ∧ Sky.valid (Sky.mk s_w s_h s_lv (s_pts.map JA) (s_aws.map JI) (s_secs.map QP) (s_rws.map JG)) ∧ 0 ≤ KN (Sky.pts (Sky.mk s_w s_h s_lv (s_pts.map JA) (s_aws.map JI) (s_secs.map QP) (s_rws.map JG))) a ∧ 0 ≤ KN (Sky.pts (Sky.mk s_w s_h s_lv (s_pts.map JA) (s_aws.map JI) (s_secs.map QP) (s_rws.map JG))) b), .int .i64 (dS (Sky.mk s_w s_h s_lv (s_pts.map JA) (s_aws.map JI) (s_secs.map QP) (s_rws.map JG)) a b))
  | _ => none
theorem Qq8 : ∀ args p v, Qb9 args = some (p, v) → p → Contract P 55 args [] v [] ∧ noref v = true ∧ No99 v := by
  intro args p v h1 h2
  unfold Qb9 at h1
  split at h1
  · rename_i s_w s_h s_lv s_pts s_aws s_secs s_rws a b
    cases h1
    obtain ⟨⟨e0, e1, e2, e3⟩, HP⟩ := h2
    have := Qq7 (Sky.mk s_w s_h s_lv (s_pts.map JA) (s_aws.map JI) (s_secs.map QP) (s_rws.map JG)) a b HP.1 HP.2.1 HP.2.2.1 HP.2.2.2
    exact ⟨by simpa only [e0, e1, e2, e3, Sky.row] using this, rfl, trivial⟩
  · cases h1
def Qu4 (l : List Nm) (a b : Nm) (k : Nat) : Prop := l.getD (k - 1) default = a ∧ l.getD k default = b ∨ l.getD (k - 1) default = b ∧ l.getD k default = a
theorem Qq9 (s : Sky) (a b : Nm) (hs : s.small) : Contract P 93 [.agg (s.row 0), .str a, .str b] [] (.bool (decide (ZJ s a b))) [] := by
  have hs' := hs
  unfold Sky.small at hs
  refine Qt (Env.nil P) hm Qg5 (Nat.le_of_ble_eq_true rfl) rfl ?_; unfold QbT; simp (config := { maxSteps := 2000000 }) only [bitvec_to_nat, reduceIte, Nat.reduceEqDiff, Nat.reduceAdd, Nat.reduceLeDiff, reduceCtorEq, Nat.reduceBEq, Nat.reduceLT, Nat.reduceMod, List.forall_mem_cons, Qk, Qm, Qa, Q3, Qh, List.take_length, List.length_cons, List.length_nil, Nat.zero_add, QH, QX, Q4, Q6, Zone.row, Qf, Qs, Pt.row, Ql, QA, Aw.row, Qo, QB, Blk.row, Qb, Qj, Sec.row, Qc, Qn, Rw.row, Qp, QD, Qd, Int.toNat_natCast, Nat.sub_zero, List.length_map, Sky.row]
  refine QV (fun i : Nat => [(7, .int .i64 i)]) (fun _ => []) (fun i => i ≤ s.aws.length ∧ ∀ j, j < i → ∀ k, k < (s.aws.getD j default).pts.length → 0 < k → ¬ Qu4 (s.aws.getD j default).pts a b k) (fun i => s.aws.length - i) 0 (by simp only [JX, JY, JZ, J0, Qw, Qx, Qy, Qz, reduceIte, Nat.reduceEqDiff]; exact ⟨by repeat' (first | exact trivial | refine ⟨.inr rfl, ?_⟩), by repeat' (first | exact trivial | refine ⟨rfl, ?_⟩), by first | rfl | simp [closedB, Qr, Qg, Qi, dom, Qe, *], by first | rfl | simp [keepB, dom]⟩) ⟨Nat.zero_le _, by intro j hj; omega⟩ ?_
  intro i hi NX hN
  unfold WA; simp (config := { maxSteps := 2000000 }) only [bitvec_to_nat, reduceIte, Nat.reduceEqDiff, Nat.reduceAdd, Nat.reduceLeDiff, reduceCtorEq, Nat.reduceBEq, Nat.reduceLT, Nat.reduceMod, List.forall_mem_cons, Qk, Qm, Qa, Q3, Qh, List.take_length, List.length_cons, List.length_nil, Nat.zero_add, QH, QX, Q4, Q6, Zone.row, Qf, Qs, Pt.row, Ql, QA, Aw.row, Qo, QB, Blk.row, Qb, Qj, Sec.row, Qc, Qn, Rw.row, Qp, QD, Qd, Int.toNat_natCast, Nat.sub_zero, List.length_map, Sky.row]
  refine ⟨fun h => ⟨by omega, h, ?_⟩, fun h => ?_⟩
  · have hl := Sky.small_aw hs' (i := i) (by omega)
    generalize hL : (s.aws.getD i default).pts = L at hl
    refine QV (fun k : Nat => [(9, .int .i64 k)]) (fun _ => []) (fun k => 1 ≤ k ∧ k ≤ L.length + 1 ∧ ∀ k', k' < k → k' < L.length → 0 < k' → ¬ Qu4 L a b k') (fun k => L.length + 1 - k) 1 (by simp only [JX, JY, JZ, J0, Qw, Qx, Qy, Qz, reduceIte, Nat.reduceEqDiff]; exact ⟨by repeat' (first | exact trivial | refine ⟨.inr rfl, ?_⟩), by repeat' (first | exact trivial | refine ⟨rfl, ?_⟩), by first | rfl | simp [closedB, Qr, Qg, Qi, dom, Qe, *], by first | rfl | simp [keepB, dom]⟩) ⟨by omega, by omega, by intro k' h1 _ h2; omega⟩ ?_
    intro k hk NX2 hN2
    have t1 : ((k : Int) - 1).toNat = k - 1 := by omega
    unfold Wz; simp (config := { maxSteps := 2000000 }) only [bitvec_to_nat, reduceIte, Nat.reduceEqDiff, Nat.reduceAdd, Nat.reduceLeDiff, reduceCtorEq, Nat.reduceBEq, Nat.reduceLT, Nat.reduceMod, List.forall_mem_cons, Qk, Qm, Qa, Q3, Qh, List.take_length, List.length_cons, List.length_nil, Nat.zero_add, QH, QX, Q4, Q6, Zone.row, Qf, Qs, Pt.row, Ql, QA, Aw.row, Qo, QB, Blk.row, Qb, Qj, Sec.row, Qc, Qn, Rw.row, Qp, QD, Qd, Int.toNat_natCast, Nat.sub_zero, List.length_map, Sky.row, t1]
    have adj : Qu4 L a b k → k < L.length → ZJ s a b := fun he hl => ⟨i, by omega, k, by rw [hL]; exact hl, by omega, by rw [hL]; exact he⟩
    repeat' (first | with_reducible apply And.intro | with_reducible intro _)
    all_goals first
      | omega
      | exact adj (.inl ⟨by assumption, by assumption⟩) (by omega)
      | exact adj (.inr ⟨by assumption, by assumption⟩) (by omega)
      | (refine hN2 (k + 1) _ (by simp only [JX, JY, JZ, J0, Qw, Qx, Qy, Qz, reduceIte, Nat.reduceEqDiff]; exact ⟨by repeat' (first | exact trivial | refine ⟨.inr rfl, ?_⟩), by repeat' (first | exact trivial | refine ⟨rfl, ?_⟩), by first | rfl | simp [closedB, Qr, Qg, Qi, dom, Qe, *], by first | rfl | simp [keepB, dom]⟩) ?_ ?_
         · refine ⟨by omega, by omega, fun k' h1 h2 h3 => ?_⟩
           rcases Nat.lt_or_ge k' k with q | q
           · exact hk.2.2 k' q h2 h3
           · rw [show k' = k from by omega]; rintro (⟨h1, h2⟩ | ⟨h1, h2⟩) <;> contradiction
         · omega)
      | (refine hN (i + 1) _ (by simp only [JX, JY, JZ, J0, Qw, Qx, Qy, Qz, reduceIte, Nat.reduceEqDiff]; exact ⟨by repeat' (first | exact trivial | refine ⟨.inr rfl, ?_⟩), by repeat' (first | exact trivial | refine ⟨rfl, ?_⟩), by first | rfl | simp [closedB, Qr, Qg, Qi, dom, Qe, *], by first | rfl | simp [keepB, dom]⟩) ?_ ?_
         · refine ⟨by omega, fun j hj k' h1 h2 => ?_⟩
           rcases Nat.lt_or_ge j i with q | q
           · exact hi.2 j q k' h1 h2
           · rw [show j = i from by omega, hL] at h1 ⊢; exact hk.2.2 k' (by omega) h1 h2
         · omega)
      | trace_state
  · rintro ⟨j, hj, k, hk, h0, he⟩
    exact hi.2 j (by omega) k hk h0 he
def G8 : List AV → Option (Prop × AV)
  | [.agg [.int .i64 s_w, .int .i64 s_h, .int .i64 s_lv, .sl 0 3 s_pts, .sl 0 2 s_aws, .sl 0 2 s_secs, .sl 0 4 s_rws], .str a, .str b] => some ((((s_pts.map JA).map Pt.row = s_pts) ∧ ((s_aws.map JI).map (Aw.row 0) = s_aws) ∧ ((s_secs.map QP).map (Sec.row 0) = s_secs) ∧ ((s_rws.map JG).map Rw.row = s_rws)) ∧ (Sky.small (Sky.mk s_w s_h s_lv (s_pts.map JA) (s_aws.map JI) (s_secs.map QP) (s_rws.map JG))), .bool (decide (ZJ (Sky.mk s_w s_h s_lv (s_pts.map JA) (s_aws.map JI) (s_secs.map QP) (s_rws.map JG)) a b)))
  | _ => none
theorem Qra : ∀ args p v, G8 args = some (p, v) → p → Contract P 93 args [] v [] ∧ noref v = true ∧ No99 v := by
  intro args p v h1 h2
  unfold G8 at h1
  split at h1
  · rename_i s_w s_h s_lv s_pts s_aws s_secs s_rws a b
    cases h1
    obtain ⟨⟨e0, e1, e2, e3⟩, HP⟩ := h2
    have := Qq9 (Sky.mk s_w s_h s_lv (s_pts.map JA) (s_aws.map JI) (s_secs.map QP) (s_rws.map JG)) a b HP
    exact ⟨by simpa only [e0, e1, e2, e3, Sky.row] using this, rfl, trivial⟩
  · cases h1
theorem Qoj {d : Nm → Nm → Int} (h : ∀ a b, 0 ≤ d a b ∧ d a b ≤ 15) : ∀ w : List Nm, 0 ≤ Xb d w ∧ Xb d w ≤ 15 * w.length
  | [] => by simp [Xb]
  | [x] => by simp [Xb]
  | x :: y :: r => by have := Qoj h (y :: r); have := h x y; simp only [Xb, List.length_cons] at *; omega
theorem Qi3 {d : Nm → Nm → Int} : ∀ {w : List Nm} {i : Nat}, 0 < i → i < w.length → Xb d (w.take (i + 1)) = Xb d (w.take i) + d (w.getD (i - 1) default) (w.getD i default)
  | [], i, h0, h => by simp at h
  | [x], i, h0, h => by simp at h; omega
  | x :: y :: r, 1, h0, h => by simp [Xb]
  | x :: y :: r, i + 2, h0, h => by
    have ih := Qi3 (d := d) (w := y :: r) (i := i + 1) (by omega) (by simpa using h)
    simp only [List.take_succ_cons] at ih ⊢
    simp only [Xb]
    rw [ih]
    simp
    omega
theorem Qrb (s : Sky) (t : Nat) (w : List Nm) (hs : s.small) (hv : s.valid) (hw : ∀ z ∈ w, 0 ≤ KN s.pts z) (hl : w.length ≤ 1048576) : Contract P 20 [.agg (s.row 0), .sl t 1 (w.map QH)] [] (.int .i64 (Xb (dS s) w)) [] := by
  have hd : ∀ i, 0 < i → i < w.length → 0 ≤ dS s (w.getD (i - 1) default) (w.getD i default) ∧ dS s (w.getD (i - 1) default) (w.getD i default) ≤ 15 := fun i h0 hi => by
    have := QlF (QaU hv (hw _ (JD (show i - 1 < w.length by omega)))) (QaU hv (hw _ (JD hi)))
    exact this
  have e0 : Xb (dS s) (w.take 1) = 0 := by cases w <;> simp [Xb]
  refine Qt ((Env.nil P).add 55 Qb9 Qq8) hm Qg0 (Nat.le_of_ble_eq_true rfl) rfl ?_; unfold Qbu; simp (config := { maxSteps := 2000000 }) only [bitvec_to_nat, reduceIte, Nat.reduceEqDiff, Nat.reduceAdd, Nat.reduceLeDiff, reduceCtorEq, Nat.reduceBEq, Nat.reduceLT, Nat.reduceMod, List.forall_mem_cons, Qb9, Qk, Qm, Qa, Q3, Qh, List.take_length, List.length_cons, List.length_nil, Nat.zero_add, QH, QX, Q4, Q6, Zone.row, Qf, Qs, Pt.row, Ql, QA, Aw.row, Qo, QB, Blk.row, Qb, Qj, Sec.row, Qc, Qn, Rw.row, Qp, QD, Qd, Int.toNat_natCast, Nat.sub_zero, List.length_map, Sky.row]
  refine QV (fun i : Nat => [(5, .int .i64 (Xb (dS s) (w.take i))), (6, .int .i64 i)]) (fun _ => []) (fun i => 1 ≤ i ∧ i ≤ w.length + 1 ∧ 0 ≤ Xb (dS s) (w.take i) ∧ Xb (dS s) (w.take i) ≤ 15 * i) (fun i => w.length + 1 - i) 1 (by simp only [e0]; simp only [JX, JY, JZ, J0, Qw, Qx, Qy, Qz, reduceIte, Nat.reduceEqDiff]; exact ⟨by repeat' (first | exact trivial | refine ⟨.inr rfl, ?_⟩), by repeat' (first | exact trivial | refine ⟨rfl, ?_⟩), by first | rfl | simp [closedB, Qr, Qg, Qi, dom, Qe, *], by first | rfl | simp [keepB, dom]⟩) ⟨by omega, by omega, by rw [e0]; omega, by rw [e0]; omega⟩ ?_
  intro i hi NX hN
  have t1 : ((i : Int) - 1).toNat = i - 1 := by omega
  unfold Wl; simp (config := { maxSteps := 2000000 }) only [bitvec_to_nat, reduceIte, Nat.reduceEqDiff, Nat.reduceAdd, Nat.reduceLeDiff, reduceCtorEq, Nat.reduceBEq, Nat.reduceLT, Nat.reduceMod, List.forall_mem_cons, Qb9, Qk, Qm, Qa, Q3, Qh, List.take_length, List.length_cons, List.length_nil, Nat.zero_add, QH, QX, Q4, Q6, Zone.row, Qf, Qs, Pt.row, Ql, QA, Aw.row, Qo, QB, Blk.row, Qb, Qj, Sec.row, Qc, Qn, Rw.row, Qp, QD, Qd, Int.toNat_natCast, Nat.sub_zero, List.length_map, Sky.row, t1]
  refine ⟨fun h => ?_, fun h => ?_⟩
  · have h1 := hd i (by omega) (by omega)
    have h2 := Qi3 (d := dS s) (w := w) (i := i) (by omega) (by omega)
    refine ⟨by omega, by omega, by omega, by omega, by omega, ⟨⟨hs, hv, hw _ (JD (by omega)), hw _ (JD (by omega))⟩, ⟨by omega, by omega⟩, ⟨by omega, by omega⟩, ?_⟩⟩
    refine hN (i + 1) _ (by simp only [h2]; simp only [JX, JY, JZ, J0, Qw, Qx, Qy, Qz, reduceIte, Nat.reduceEqDiff]; exact ⟨by repeat' (first | exact trivial | refine ⟨.inr rfl, ?_⟩), by repeat' (first | exact trivial | refine ⟨rfl, ?_⟩), by first | rfl | simp [closedB, Qr, Qg, Qi, dom, Qe, *], by first | rfl | simp [keepB, dom]⟩) ⟨by omega, by omega, by omega, by omega⟩ (by omega)
  · have e : i = w.length ∨ w.take i = w := by
      rcases Nat.lt_or_ge w.length i with q | q
      · exact .inr (List.take_of_length_le (by omega))
      · exact .inl (by omega)
    have e2 : w.take i = w := e.elim (fun e => by rw [e, List.take_length]) id
    rw [e2]
end
end Go.Ve

namespace Go.Ve
noncomputable section
open Go.Proofs
set_option linter.unusedSimpArgs false
set_option linter.unusedVariables false
set_option maxRecDepth 100000
def KB : List AV → Option (Prop × AV)
  | [.agg [.int .i64 s_w, .int .i64 s_h, .int .i64 s_lv, .sl 0 3 s_pts, .sl 0 2 s_aws, .sl 0 2 s_secs, .sl 0 4 s_rws], .sl wt 1 wx] => some ((((s_pts.map JA).map Pt.row = s_pts) ∧ ((s_aws.map JI).map (Aw.row 0) = s_aws) ∧ ((s_secs.map QP).map (Sec.row 0) = s_secs) ∧ ((s_rws.map JG).map Rw.row = s_rws) ∧ ((wx.map unS).map QH = wx)) ∧ (Sky.small (Sky.mk s_w s_h s_lv (s_pts.map JA) (s_aws.map JI) (s_secs.map QP) (s_rws.map JG)) ∧ Sky.valid (Sky.mk s_w s_h s_lv (s_pts.map JA) (s_aws.map JI) (s_secs.map QP) (s_rws.map JG)) ∧ (∀ z ∈ (wx.map unS), 0 ≤ KN (Sky.pts (Sky.mk s_w s_h s_lv (s_pts.map JA) (s_aws.map JI) (s_secs.map QP) (s_rws.map JG))) z) ∧ (wx.map unS).length ≤ 1048576), .int .i64 (Xb (dS (Sky.mk s_w s_h s_lv (s_pts.map JA) (s_aws.map JI) (s_secs.map QP) (s_rws.map JG))) (wx.map unS)))
  | _ => none
theorem Qht : ∀ args p v, KB args = some (p, v) → p → Contract P 20 args [] v [] ∧ noref v = true ∧ No99 v := by
  intro args p v h1 h2
  unfold KB at h1
  split at h1
  · rename_i s_w s_h s_lv s_pts s_aws s_secs s_rws wt wx
    cases h1
    obtain ⟨⟨e0, e1, e2, e3, e4⟩, HP⟩ := h2
    have := Qrb (Sky.mk s_w s_h s_lv (s_pts.map JA) (s_aws.map JI) (s_secs.map QP) (s_rws.map JG)) wt (wx.map unS) HP.1 HP.2.1 HP.2.2.1 HP.2.2.2
    exact ⟨by simpa only [e0, e1, e2, e3, e4, Sky.row] using this, rfl, trivial⟩
  · cases h1
theorem Qu5 : ∀ {a b : List Nm} {i : Nat}, a.length = b.length → i < a.length → (∀ j, j < i → a.getD j default = b.getD j default) → a.getD i default ≠ b.getD i default → (lx a b ↔ slt (a.getD i default) (b.getD i default))
  | [], _, i, _, h, _, _ => by simp at h
  | _ :: _, [], i, h, _, _, _ => by simp at h
  | x :: a, y :: b, 0, h, hi, k, n => by
    simp only [List.getD_cons_zero] at n ⊢
    simp only [lx, n, false_and, or_false]
  | x :: a, y :: b, i + 1, h, hi, k, n => by
    have e := k 0 (by omega)
    simp only [List.getD_cons_zero] at e
    subst e
    have ih := Qu5 (a := a) (b := b) (i := i) (by simpa using h) (by simpa using hi) (fun j hj => by simpa using k (j + 1) (by omega)) (by simpa using n)
    simp only [lx, Kz, false_or, true_and, List.getD_cons_succ, ih]
theorem Qr8 {a b : List Nm} (h : a.length = b.length) (k : ∀ j, j < a.length → a.getD j default = b.getD j default) : a = b := List.ext_getElem h fun i h1 h2 => by have := k i h1; simpa [h1, h2] using this
noncomputable instance (d : Nm → Nm → Int) (a b : List Nm) : Decidable (bt d a b) := Classical.propDecidable _
noncomputable instance (d : Nm → Nm → Int) (a b : List Nm) : Decidable (b = [] ∨ bt d a b) := Classical.propDecidable _
set_option maxHeartbeats 1000000 in
theorem QmD (s : Sky) (t t' : Nat) (a b : List Nm) (hs : s.small) (hv : s.valid) (ha : ∀ z ∈ a, 0 ≤ KN s.pts z) (hb : ∀ z ∈ b, 0 ≤ KN s.pts z) (hla : a.length ≤ 1048576) (hlb : b.length ≤ 1048576) : Contract P 95 [.agg (s.row 0), .sl t 1 (a.map QH), .sl t' 1 (b.map QH)] [] (.bool (decide (b = [] ∨ bt (dS s) a b))) [] := by
  refine Qt ((Env.nil P).add 20 KB Qht) hm QeM (Nat.le_of_ble_eq_true rfl) rfl ?_; unfold WB; simp (config := { maxSteps := 2000000 }) only [bitvec_to_nat, reduceIte, Nat.reduceEqDiff, Nat.reduceAdd, Nat.reduceLeDiff, reduceCtorEq, Nat.reduceBEq, Nat.reduceLT, Nat.reduceMod, List.forall_mem_cons, KB, Qk, Qm, Qa, Q3, Qh, List.take_length, List.length_cons, List.length_nil, Nat.zero_add, QH, QX, Q4, Q6, Zone.row, Qf, Qs, Pt.row, Ql, QA, Aw.row, Qo, QB, Blk.row, Qb, Qj, Sec.row, Qc, Qn, Rw.row, Qp, QD, Qd, Int.toNat_natCast, Nat.sub_zero, List.length_map, Sky.row]
  refine ⟨fun h => ?_, fun h => ⟨⟨hs, hv, ha, hla⟩, ⟨hs, hv, hb, hlb⟩, fun h2 => ?_, fun h2 => ⟨fun h3 => ?_, fun h3 => ?_⟩⟩⟩
  · left; exact List.length_eq_zero_iff.1 (by omega)
  · refine ⟨⟨hs, hv, ha, hla⟩, ⟨hs, hv, hb, hlb⟩, ?_⟩
    have hne : b ≠ [] := fun e => h (by rw [e]; rfl)
    rw [decide_eq_decide]
    unfold bt
    exact ⟨fun q => .inr (.inl q), fun q => (q.resolve_left hne).elim id fun q => absurd q.1 h2⟩
  · have hne : b ≠ [] := fun e => h (by rw [e]; rfl)
    rw [decide_eq_decide]
    unfold bt
    exact ⟨fun q => .inr (.inr ⟨h2, .inl (by omega)⟩), fun q => (q.resolve_left hne).elim (fun q => by omega) fun q => q.2.elim (fun q => by omega) fun q => by omega⟩
  · have hl : a.length = b.length := by omega
    refine QV (fun i : Nat => [(7, .int .i64 i)]) (fun _ => []) (fun i => i ≤ a.length ∧ ∀ j, j < i → a.getD j default = b.getD j default) (fun i => a.length - i) 0 (by simp only [JX, JY, JZ, J0, Qw, Qx, Qy, Qz, reduceIte, Nat.reduceEqDiff]; exact ⟨by repeat' (first | exact trivial | refine ⟨.inr rfl, ?_⟩), by repeat' (first | exact trivial | refine ⟨rfl, ?_⟩), by first | rfl | simp [closedB, Qr, Qg, Qi, dom, Qe, *], by first | rfl | simp [keepB, dom]⟩) ⟨Nat.zero_le _, by intro j hj; omega⟩ ?_
    intro i hi NX hN
    unfold Va; simp (config := { maxSteps := 2000000 }) only [bitvec_to_nat, reduceIte, Nat.reduceEqDiff, Nat.reduceAdd, Nat.reduceLeDiff, reduceCtorEq, Nat.reduceBEq, Nat.reduceLT, Nat.reduceMod, List.forall_mem_cons, KB, Qk, Qm, Qa, Q3, Qh, List.take_length, List.length_cons, List.length_nil, Nat.zero_add, QH, QX, Q4, Q6, Zone.row, Qf, Qs, Pt.row, Ql, QA, Aw.row, Qo, QB, Blk.row, Qb, Qj, Sec.row, Qc, Qn, Rw.row, Qp, QD, Qd, Int.toNat_natCast, Nat.sub_zero, List.length_map, Sky.row]
    have hne : b ≠ [] := fun e => h (by rw [e]; rfl)
    have hbt : (b = [] ∨ bt (dS s) a b) ↔ lx a b := by
      unfold bt
      exact ⟨fun q => (q.resolve_left hne).elim (fun q => by omega) fun q => q.2.elim (fun q => by omega) fun q => q.2, fun q => .inr (.inr ⟨h2, .inr ⟨hl, q⟩⟩)⟩
    refine ⟨fun q => ⟨by omega, q, by omega, by omega, fun e => ⟨by omega, ?_⟩, fun e => ⟨by omega, q, by omega, by omega, ?_⟩⟩, fun q => ?_⟩
    · refine hN (i + 1) _ (by simp only [JX, JY, JZ, J0, Qw, Qx, Qy, Qz, reduceIte, Nat.reduceEqDiff]; exact ⟨by repeat' (first | exact trivial | refine ⟨.inr rfl, ?_⟩), by repeat' (first | exact trivial | refine ⟨rfl, ?_⟩), by first | rfl | simp [closedB, Qr, Qg, Qi, dom, Qe, *], by first | rfl | simp [keepB, dom]⟩) ?_ ?_
      · refine ⟨by omega, fun j hj => ?_⟩
        rcases Nat.lt_or_ge j i with q2 | q2
        · exact hi.2 j q2
        · rw [show j = i from by omega]; exact e
      · omega
    · rw [decide_eq_decide, hbt, Qu5 hl (by omega) hi.2 e]
    · rw [hbt, Qr8 hl fun j hj => hi.2 j (by omega)]; exact Qep _
def K2 : List AV → Option (Prop × AV)
  | [.agg [.int .i64 s_w, .int .i64 s_h, .int .i64 s_lv, .sl 0 3 s_pts, .sl 0 2 s_aws, .sl 0 2 s_secs, .sl 0 4 s_rws], .sl ut 1 ux, .sl vt 1 vx] => some ((((s_pts.map JA).map Pt.row = s_pts) ∧ ((s_aws.map JI).map (Aw.row 0) = s_aws) ∧ ((s_secs.map QP).map (Sec.row 0) = s_secs) ∧ ((s_rws.map JG).map Rw.row = s_rws) ∧ ((ux.map unS).map QH = ux) ∧ ((vx.map unS).map QH = vx)) ∧ (Sky.small (Sky.mk s_w s_h s_lv (s_pts.map JA) (s_aws.map JI) (s_secs.map QP) (s_rws.map JG)) ∧ Sky.valid (Sky.mk s_w s_h s_lv (s_pts.map JA) (s_aws.map JI) (s_secs.map QP) (s_rws.map JG)) ∧ (∀ z ∈ (ux.map unS), 0 ≤ KN (Sky.pts (Sky.mk s_w s_h s_lv (s_pts.map JA) (s_aws.map JI) (s_secs.map QP) (s_rws.map JG))) z) ∧ (∀ z ∈ (vx.map unS), 0 ≤ KN (Sky.pts (Sky.mk s_w s_h s_lv (s_pts.map JA) (s_aws.map JI) (s_secs.map QP) (s_rws.map JG))) z) ∧ (ux.map unS).length ≤ 1048576 ∧ (vx.map unS).length ≤ 1048576), .bool (decide ((vx.map unS) = [] ∨ bt (dS (Sky.mk s_w s_h s_lv (s_pts.map JA) (s_aws.map JI) (s_secs.map QP) (s_rws.map JG))) (ux.map unS) (vx.map unS))))
  | _ => none
theorem QmE : ∀ args p v, K2 args = some (p, v) → p → Contract P 95 args [] v [] ∧ noref v = true ∧ No99 v := by
  intro args p v h1 h2
  unfold K2 at h1
  split at h1
  · rename_i s_w s_h s_lv s_pts s_aws s_secs s_rws ut ux vt vx
    cases h1
    obtain ⟨⟨e0, e1, e2, e3, e4, e5⟩, HP⟩ := h2
    have := QmD (Sky.mk s_w s_h s_lv (s_pts.map JA) (s_aws.map JI) (s_secs.map QP) (s_rws.map JG)) ut vt (ux.map unS) (vx.map unS) HP.1 HP.2.1 HP.2.2.1 HP.2.2.2.1 HP.2.2.2.2.1 HP.2.2.2.2.2
    exact ⟨by simpa only [e0, e1, e2, e3, e4, e5, Sky.row] using this, rfl, trivial⟩
  · cases h1
end
end Go.Ve

namespace Go.Ve
noncomputable section
open Go.Proofs
set_option linter.unusedSimpArgs false
set_option linter.unusedVariables false
set_option maxRecDepth 100000
def Qc3 (l : List Nm) : List AV := [.sl 0 1 (l.map QH)]
theorem J9 (s : Sky) : (Kd s).length = s.pts.length := List.length_map ..
theorem Vj {s : Sky} {i : Nat} (h : i < s.pts.length) : (Kd s).getD i default = (s.pts.getD i default).nm := by simp [Kd, h]
theorem Xo {α : Type} (F : α → St) (good : α → Prop) (μ : α → Nat) (a0 : α) {body : (XT → St → Prop) → St → Prop} {Q : XT → St → Prop} {st : St}
    (h0 : Wk st (F a0)) (g0 : good a0)
    (step : ∀ a, good a → ∀ NX : St → Prop, (∀ a' st', Wk st' (F a') → good a' → μ a' < μ a → NX st') → body (Qbd NX Q) (F a)) : Qee body Q st :=
  Qnw F good μ a0 h0 g0 fun a ga => step a ga _ fun a' st' h1 h2 h3 => ⟨μ a', _, h1, ⟨a', rfl, h2, rfl⟩, h3⟩
theorem QtC {f : Nat → Nm} {n : Nat} (h : ∀ i, 0 < i → i < n → slt (f (i - 1)) (f i)) : ∀ j i, j < i → i < n → slt (f j) (f i) := by
  intro j i
  induction i with
  | zero => intro h1; omega
  | succ i ih =>
    intro h1 h2
    have q := h (i + 1) (by omega) h2
    rw [Nat.add_sub_cancel] at q
    rcases Nat.lt_or_ge j i with q1 | q1
    · exact Qik (ih q1 (by omega)) q
    · rw [show j = i from by omega]; exact q
theorem Qok {s : Sky} (hv : s.valid) {i j : Nat} (hi : i < s.pts.length) (hj : j < s.pts.length) (e : (s.pts.getD i default).nm = (s.pts.getD j default).nm) : i = j := by
  have hm := QtC (f := fun i => (s.pts.getD i default).nm) (n := s.pts.length) fun i h0 hi => (hv.2.1.2 i hi).2.1 h0
  rcases Nat.lt_trichotomy i j with q | q | q
  · have := hm i j q hj; simp only [e] at this; exact absurd this (Kz _)
  · exact q
  · have := hm j i q hi; simp only [e] at this; exact absurd this (Kz _)
/-- What spec's list of ways keeps to. -/
def WI (s : Sky) (to : Nm) (B : List (List Nm)) : Prop := QvV (ZJ s) (Kd s) to B ∧ ∀ i, i < s.pts.length → (B.getD i []).Nodup
theorem WI.nm {s : Sky} {to : Nm} {B : List (List Nm)} (hv : s.valid) (h : WI s to B) {i : Nat} (hi : i < s.pts.length) : ∀ z ∈ B.getD i [], 0 ≤ KN s.pts z := fun z hz => by
  have hw := h.1.2 i (by rw [J9]; exact hi) (fun e => by rw [e] at hz; cases hz)
  refine WQ (QgO (fun a b h => WR hv h) hw ?_ z hz)
  rw [Vj hi]
  exact List.mem_map.2 ⟨_, JD hi, rfl⟩
theorem WI.len {s : Sky} {to : Nm} {B : List (List Nm)} (hv : s.valid) (h : WI s to B) {i : Nat} (hi : i < s.pts.length) : (B.getD i []).length ≤ 16 := by
  have := UL (h.2 i hi) fun z hz => Qb8 (h.nm hv hi z hz)
  rw [J9] at this
  exact Nat.le_trans this hv.2.1.1
theorem WI.start {s : Sky} {to : Nm} (hv : s.valid) (ht : 0 ≤ KN s.pts to) : WI s to ((List.replicate s.pts.length []).set (KN s.pts to).toNat [to]) ∧ Dn (ZJ s) (dS s) (Kd s) to ((List.replicate s.pts.length []).set (KN s.pts to).toNat [to]) s.pts.length 1 := by
  obtain ⟨p1, p2, p3⟩ := UG ht
  generalize (KN s.pts to).toNat = p at p1 p2
  have g1 : ((List.replicate s.pts.length ([] : List Nm)).set p [to]).getD p [] = [to] := by simp [List.getD_eq_getElem?_getD, p1]
  have g2 : ∀ i, i ≠ p → ((List.replicate s.pts.length ([] : List Nm)).set p [to]).getD i [] = [] := fun i hi => by
    rw [List.getD_eq_getElem?_getD, List.getElem?_set_ne (Ne.symm hi), List.getElem?_replicate]; split <;> rfl
  refine ⟨⟨⟨by simp [J9], fun i hi hne => ?_⟩, fun i hi => ?_⟩, fun i hi m hm hl => ?_⟩
  · by_cases e : i = p
    · subst e; rw [g1, Vj (by rwa [J9] at hi)]; exact ⟨p2.symm, rfl⟩
    · exact absurd (g2 i e) hne
  · by_cases e : i = p
    · subst e; rw [g1]; simp
    · rw [g2 i e]; simp
  · match m, hm, hl with
    | [], hm, _ => exact hm.1.elim
    | [x], hm, _ =>
      obtain ⟨h1, h2⟩ := hm.1
      rw [Vj hi] at h1
      have e : i = p := Qok hv hi p1 (by rw [← h1, h2, p2])
      rw [e, g1, ← h2]
    | x :: y :: t, _, hl => simp at hl
def Qol (s : Sky) (to : Nm) (B : List (List Nm)) : Prop := QvV (ZJ s) (Kd s) to B ∧ Dn (ZJ s) (dS s) (Kd s) to B s.pts.length s.pts.length ∧ ∀ i, i < s.pts.length → (B.getD i []).length ≤ 16
set_option maxHeartbeats 4000000 in
theorem Qrc (s : Sky) (to : Nm) (hs : s.small) (hv : s.valid) (ht : 0 ≤ KN s.pts to) : ∃ B, Qol s to B ∧ Contract P 54 [.agg (s.row 0), .str to] [] (.sl 0 1 (B.map Qc3)) [] := by
  obtain ⟨p1, p2, p3⟩ := UG ht
  have tkw : True := trivial
  have el_w1 : True := trivial
  have tk1 : ∀ (a : Nm) (l : List Nm), List.take (1 + l.length) ([AV.str a] :: l.map QH) = (a :: l).map QH := fun a l => List.take_of_length_le (by simp; omega)
  have hs' := hs
  unfold Sky.small at hs'
  refine Qbi (((((Env.nil P).add 53 JO Vd).add 93 G8 Qra).add 94 UH QtB).add 95 K2 QmE) Go.Ve.hm QfA (Nat.le_of_ble_eq_true rfl) rfl (Qol s to) (fun B => .sl 0 1 (B.map Qc3)) (fun _ => []) ?_
  unfold Qaq
  simp only [Sky.row]
  simp (config := { maxSteps := 2000000 }) only [bitvec_to_nat, reduceIte, Nat.reduceEqDiff, Nat.reduceAdd, Nat.reduceLeDiff, reduceCtorEq, Nat.reduceBEq, Nat.reduceLT, Nat.reduceMod, List.forall_mem_cons, Qv, QE, Qu, Q9, keepB, QF, Jc, JO, G8, UH, K2, Qk, Qm, Qa, Q3, Qh, List.take_length, List.length_cons, List.length_nil, Nat.zero_add, QH, QX, Q4, Q6, Zone.row, Qf, Qs, Pt.row, Ql, QA, Aw.row, Qo, QB, Blk.row, Qb, Qj, Sec.row, Qc, Qn, Rw.row, Qp, QD, Qd, Int.toNat_natCast, Nat.sub_zero, List.length_map, Qc3, tkw, el_w1, List.append_nil]
  obtain ⟨w0, d0⟩ := WI.start hv ht
  have eS : (List.replicate s.pts.length [AV.sl 0 1 []]).set (KN s.pts to).toNat (QT ((List.replicate s.pts.length [AV.sl 0 1 []]).getD (KN s.pts to).toNat []) 0 [AV.sl 0 1 [[AV.str to]]]) = ((List.replicate s.pts.length []).set (KN s.pts to).toNat [to]).map Qc3 := by
    rw [List.map_set, List.map_replicate]
    have : (List.replicate s.pts.length [AV.sl 0 1 []]).getD (KN s.pts to).toNat [] = [AV.sl 0 1 []] := by simp [p1]
    rw [this]
    rfl
  rw [eS]
  refine ⟨⟨by omega, by omega⟩, by omega, ⟨by omega, by omega⟩, ?_⟩
  have hN : ∀ a b, ZJ s a b → b ∈ Kd s := fun a b h => WR hv h
  have cl : ∀ (E : List (Nat × AV)) (B : List (List Nm)), (E.all fun q => Qr [102, 113] q.2) = true → closedB ⟨E, [(102, .box [.int .i64 s.w, .int .i64 s.h, .int .i64 s.lv, .sl 0 3 (s.pts.map Pt.row), .sl 0 2 (s.aws.map (Aw.row 0)), .sl 0 2 (s.secs.map (Sec.row 0)), .sl 0 4 (s.rws.map Rw.row)]), (113, .arr 55 0 1 ((B).map Qc3))]⟩ = true := fun E B hE => by
    simp only [closedB, Bool.and_eq_true]
    exact ⟨hE, by simp [Qi, Qg, Qr]⟩
  refine Xo (fun a : Nat × List (List Nm) => ⟨[(2, .ptr 102 0), (5, .own 113 0 0 s.pts.length), (6, .int .i64 (a.1 : Nat))], [(102, .box [.int .i64 s.w, .int .i64 s.h, .int .i64 s.lv, .sl 0 3 (s.pts.map Pt.row), .sl 0 2 (s.aws.map (Aw.row 0)), .sl 0 2 (s.secs.map (Sec.row 0)), .sl 0 4 (s.rws.map Rw.row)]), (113, .arr 55 0 1 ((a.2).map Qc3))]⟩) (fun a => a.1 ≤ s.pts.length ∧ WI s to a.2 ∧ Dn (ZJ s) (dS s) (Kd s) to a.2 s.pts.length (a.1 + 1)) (fun a => s.pts.length - a.1) (0, (List.replicate s.pts.length []).set (KN s.pts to).toNat [to]) ?_ ⟨Nat.zero_le _, w0, d0⟩ ?_
  · exact ⟨by repeat' (first | exact trivial | refine ⟨.inr rfl, ?_⟩), ⟨rfl, rfl, trivial⟩, cl _ _ (by simp [Qr]), by simp [keepB, dom]⟩
  rintro ⟨n, B⟩ ⟨hn, hw, hd⟩ NX hN1
  simp only at hn hw hd ⊢
  have hW := hw
  by_cases hlt : n < s.pts.length
  · unfold Xv; simp (config := { maxSteps := 2000000 }) only [bitvec_to_nat, reduceIte, Nat.reduceEqDiff, Nat.reduceAdd, Nat.reduceLeDiff, reduceCtorEq, Nat.reduceBEq, Nat.reduceLT, Nat.reduceMod, List.forall_mem_cons, Qv, QE, Qu, Q9, keepB, QF, Jc, JO, G8, UH, K2, Qk, Qm, Qa, Q3, Qh, List.take_length, List.length_cons, List.length_nil, Nat.zero_add, QH, QX, Q4, Q6, Zone.row, Qf, Qs, Pt.row, Ql, QA, Aw.row, Qo, QB, Blk.row, Qb, Qj, Sec.row, Qc, Qn, Rw.row, Qp, QD, Qd, Int.toNat_natCast, Nat.sub_zero, List.length_map, Qc3, tkw, el_w1, List.append_nil]
    refine ⟨fun _ => ?_, fun h => absurd (by omega) h⟩
    refine Xo (fun a : Nat × List (List Nm) => ⟨[(2, .ptr 102 0), (5, .own 113 0 0 s.pts.length), (6, .int .i64 (n : Nat)), (7, .int .i64 (a.1 : Nat))], [(102, .box [.int .i64 s.w, .int .i64 s.h, .int .i64 s.lv, .sl 0 3 (s.pts.map Pt.row), .sl 0 2 (s.aws.map (Aw.row 0)), .sl 0 2 (s.secs.map (Sec.row 0)), .sl 0 4 (s.rws.map Rw.row)]), (113, .arr 55 0 1 ((a.2).map Qc3))]⟩) (fun a => a.1 ≤ s.pts.length ∧ WI s to a.2 ∧ Dn (ZJ s) (dS s) (Kd s) to a.2 s.pts.length (n + 1) ∧ Dn (ZJ s) (dS s) (Kd s) to a.2 a.1 (n + 2)) (fun a => s.pts.length - a.1) (0, B) ?_ ⟨Nat.zero_le _, hw, hd, fun i hi => absurd hi (by omega)⟩ ?_
    · exact ⟨by repeat' (first | exact trivial | refine ⟨.inr rfl, ?_⟩), ⟨rfl, rfl, trivial⟩, cl _ _ (by simp [Qr]), by simp [keepB, dom]⟩
    clear hW hw hd
    rintro ⟨i, B⟩ ⟨hi, hw, hd, hI⟩ NX2 hN2
    simp only at hi hw hd hI ⊢
    by_cases hil : i < s.pts.length
    · unfold Xu; simp (config := { maxSteps := 2000000 }) only [bitvec_to_nat, reduceIte, Nat.reduceEqDiff, Nat.reduceAdd, Nat.reduceLeDiff, reduceCtorEq, Nat.reduceBEq, Nat.reduceLT, Nat.reduceMod, List.forall_mem_cons, Qv, QE, Qu, Q9, keepB, QF, Jc, JO, G8, UH, K2, Qk, Qm, Qa, Q3, Qh, List.take_length, List.length_cons, List.length_nil, Nat.zero_add, QH, QX, Q4, Q6, Zone.row, Qf, Qs, Pt.row, Ql, QA, Aw.row, Qo, QB, Blk.row, Qb, Qj, Sec.row, Qc, Qn, Rw.row, Qp, QD, Qd, Int.toNat_natCast, Nat.sub_zero, List.length_map, Qc3, tkw, el_w1, List.append_nil]
      refine ⟨fun _ => ?_, fun h => absurd (by omega) h⟩
      refine Xo (fun a : Nat × List (List Nm) => ⟨[(2, .ptr 102 0), (5, .own 113 0 0 s.pts.length), (6, .int .i64 (n : Nat)), (7, .int .i64 (i : Nat)), (8, .int .i64 (a.1 : Nat))], [(102, .box [.int .i64 s.w, .int .i64 s.h, .int .i64 s.lv, .sl 0 3 (s.pts.map Pt.row), .sl 0 2 (s.aws.map (Aw.row 0)), .sl 0 2 (s.secs.map (Sec.row 0)), .sl 0 4 (s.rws.map Rw.row)]), (113, .arr 55 0 1 ((a.2).map Qc3))]⟩) (fun a => a.1 ≤ s.pts.length ∧ WI s to a.2 ∧ Dn (ZJ s) (dS s) (Kd s) to a.2 s.pts.length (n + 1) ∧ Dn (ZJ s) (dS s) (Kd s) to a.2 i (n + 2) ∧ Kn (ZJ s) (dS s) (Kd s) to a.2 i a.1 (n + 1)) (fun a => s.pts.length - a.1) (0, B) ?_ ⟨Nat.zero_le _, hw, hd, hI, fun k hk => absurd hk (by omega)⟩ ?_
      · exact ⟨by repeat' (first | exact trivial | refine ⟨.inr rfl, ?_⟩), ⟨rfl, rfl, trivial⟩, cl _ _ (by simp [Qr]), by simp [keepB, dom]⟩
      clear hw hd hI
      rintro ⟨k, B⟩ ⟨hk, hw, hd, hI, hK⟩ NX3 hN3
      simp only at hk hw hd hI hK ⊢
      have hBl : B.length = s.pts.length := by rw [hw.1.1, J9]
      by_cases hkl : k < s.pts.length
      · unfold Xt; simp (config := { maxSteps := 2000000 }) only [bitvec_to_nat, reduceIte, Nat.reduceEqDiff, Nat.reduceAdd, Nat.reduceLeDiff, reduceCtorEq, Nat.reduceBEq, Nat.reduceLT, Nat.reduceMod, List.forall_mem_cons, Qv, QE, Qu, Q9, keepB, QF, Jc, JO, G8, UH, K2, Qk, Qm, Qa, Q3, Qh, List.take_length, List.length_cons, List.length_nil, Nat.zero_add, QH, QX, Q4, Q6, Zone.row, Qf, Qs, Pt.row, Ql, QA, Aw.row, Qo, QB, Blk.row, Qb, Qj, Sec.row, Qc, Qn, Rw.row, Qp, QD, Qd, Int.toNat_natCast, Nat.sub_zero, List.length_map, Qc3, tkw, el_w1, List.append_nil]
        simp only [show (default : List Nm) = [] from rfl, tk1, Q4]
        have hi' : i < (Kd s).length := by rw [J9]; exact hil
        have hk' : k < (Kd s).length := by rw [J9]; exact hkl
        have hd' : Dn (ZJ s) (dS s) (Kd s) to B (Kd s).length (n + 1) := by rw [J9]; exact hd
        have eni := Vj hil
        have enk := Vj hkl
        have sk : (B.getD k [] = [] ∨ ¬ ZJ s (s.pts.getD i default).nm (s.pts.getD k default).nm ∨ (s.pts.getD i default).nm ∈ B.getD k []) → Kn (ZJ s) (dS s) (Kd s) to B i (k + 1) (n + 1) := fun h => QnI (Qoh s) hi' hk' hd' hK (by rw [eni, enk]; exact h)
        have skN : (B.getD k [] = [] ∨ ¬ ZJ s (s.pts.getD i default).nm (s.pts.getD k default).nm ∨ (s.pts.getD i default).nm ∈ B.getD k []) → NX3 ⟨[(2, .ptr 102 0), (5, .own 113 0 0 s.pts.length), (6, .int .i64 (n : Nat)), (7, .int .i64 (i : Nat)), (8, .int .i64 ((k : Nat) + 1))], [(102, .box [.int .i64 s.w, .int .i64 s.h, .int .i64 s.lv, .sl 0 3 (s.pts.map Pt.row), .sl 0 2 (s.aws.map (Aw.row 0)), .sl 0 2 (s.secs.map (Sec.row 0)), .sl 0 4 (s.rws.map Rw.row)]), (113, .arr 55 0 1 ((B).map Qc3))]⟩ := fun h =>
          hN3 (k + 1, B) _ ⟨by repeat' (first | exact trivial | refine ⟨.inr rfl, ?_⟩), ⟨rfl, rfl, trivial⟩, cl _ _ (by simp [Qr]), by simp [keepB, dom]⟩ ⟨by simp only; omega, hw, hd, hI, sk h⟩ (by simp only; omega)
        refine ⟨fun _ => ⟨⟨by omega, by omega⟩, by omega, fun h1 => ⟨by omega, skN (.inl (List.length_eq_zero_iff.1 (by omega)))⟩, fun h1 => ⟨by omega, by omega, by omega, by omega, hs, fun h2 => ⟨⟨by omega, by omega⟩, by omega, by omega, by omega, by have := hw.len hv hkl; omega, fun h3 => ⟨by omega, skN (.inr (.inr h3))⟩, fun h3 => ?_⟩, fun h2 => ⟨by omega, skN (.inr (.inl h2))⟩⟩⟩, fun h => absurd (by omega) h⟩
        have hne : B.getD k [] ≠ [] := fun e => h1 (by rw [e]; rfl)
        have hlk := hw.len hv hkl
        have hli := hw.len hv hil
        have eR : ∀ w : List Nm, (B.map Qc3).set i (QT ((B.map Qc3).getD i []) 0 [AV.sl 0 1 (w.map QH)]) = (B.set i w).map Qc3 := fun w => by
          rw [List.map_set]
          have : (B.map Qc3).getD i [] = Qc3 (B.getD i []) := by simp [hBl, hil]
          rw [this]; rfl
        have step := fun B' => Qqs (d := dS s) (to := to) (B := B) (B' := B') (r := n + 1) (r2 := n + 2) hi' hk' hw.1 hne (by rw [eni, enk]; exact h2) hd' hI hK
        rw [eni, J9] at step
        have nd : ∀ j, j < s.pts.length → ((B.set i ((s.pts.getD i default).nm :: B.getD k [])).getD j []).Nodup := fun j hj => by
          by_cases e : j = i
          · subst e
            rw [show (B.set j ((s.pts.getD j default).nm :: B.getD k [])).getD j [] = (s.pts.getD j default).nm :: B.getD k [] from by simp [List.getD_eq_getElem?_getD, hBl, hil]]
            exact List.nodup_cons.2 ⟨h3, hw.2 k hkl⟩
          · rw [show (B.set i ((s.pts.getD i default).nm :: B.getD k [])).getD j [] = B.getD j [] from by simp [List.getD_eq_getElem?_getD, List.getElem?_set_ne (Ne.symm e)]]
            exact hw.2 j hj
        refine ⟨by omega, by omega, ⟨by omega, by omega⟩, by omega, by omega, ⟨by omega, by omega⟩, by omega, ⟨trivial, hs, hv, fun z hz => ?_, hw.nm hv hil, by omega, by omega⟩, fun h4 => ⟨⟨by omega, by omega⟩, by omega, ?_⟩, fun h4 => ⟨by omega, ?_⟩⟩
        · rcases List.mem_cons.1 hz with rfl | hz
          · exact WQ (List.mem_map.2 ⟨_, JD hil, rfl⟩)
          · exact hw.nm hv hkl z hz
        · rw [eR]
          obtain ⟨g1, g2, g3, g4⟩ := step _ (.inl ⟨h4, rfl⟩)
          exact hN3 (k + 1, B.set i ((s.pts.getD i default).nm :: B.getD k [])) _ ⟨by repeat' (first | exact trivial | refine ⟨.inr rfl, ?_⟩), ⟨rfl, rfl, trivial⟩, cl _ _ (by simp [Qr]), by simp [keepB, dom]⟩ ⟨by simp only; omega, ⟨g1, nd⟩, g2, g3, g4⟩ (by simp only; omega)
        · obtain ⟨g1, g2, g3, g4⟩ := step _ (.inr ⟨h4, rfl⟩)
          exact hN3 (k + 1, B) _ ⟨by repeat' (first | exact trivial | refine ⟨.inr rfl, ?_⟩), ⟨rfl, rfl, trivial⟩, cl _ _ (by simp [Qr]), by simp [keepB, dom]⟩ ⟨by simp only; omega, hw, g2, g3, g4⟩ (by simp only; omega)
      · have ek : k = s.pts.length := by omega
        subst ek
        unfold Xt; simp (config := { maxSteps := 2000000 }) only [bitvec_to_nat, reduceIte, Nat.reduceEqDiff, Nat.reduceAdd, Nat.reduceLeDiff, reduceCtorEq, Nat.reduceBEq, Nat.reduceLT, Nat.reduceMod, List.forall_mem_cons, Qv, QE, Qu, Q9, keepB, QF, Jc, JO, G8, UH, K2, Qk, Qm, Qa, Q3, Qh, List.take_length, List.length_cons, List.length_nil, Nat.zero_add, QH, QX, Q4, Q6, Zone.row, Qf, Qs, Pt.row, Ql, QA, Aw.row, Qo, QB, Blk.row, Qb, Qj, Sec.row, Qc, Qn, Rw.row, Qp, QD, Qd, Int.toNat_natCast, Nat.sub_zero, List.length_map, Qc3, tkw, el_w1, List.append_nil]
        refine ⟨fun h => absurd h (by omega), fun _ => ⟨by omega, ?_⟩⟩
        have hi' : i < (Kd s).length := by rw [J9]; exact hil
        have re := QsJ (d := dS s) hN hi' (show 1 ≤ n + 1 by omega) (by rw [J9]; exact hd) hI (by rw [J9]; exact hK)
        exact hN2 (i + 1, B) _ ⟨by repeat' (first | exact trivial | refine ⟨.inr rfl, ?_⟩), ⟨rfl, rfl, trivial⟩, cl _ _ (by simp [Qr]), by simp [keepB, dom]⟩ ⟨by simp only; omega, hw, hd, re⟩ (by simp only; omega)
    · have ei : i = s.pts.length := by omega
      subst ei
      unfold Xu; simp (config := { maxSteps := 2000000 }) only [bitvec_to_nat, reduceIte, Nat.reduceEqDiff, Nat.reduceAdd, Nat.reduceLeDiff, reduceCtorEq, Nat.reduceBEq, Nat.reduceLT, Nat.reduceMod, List.forall_mem_cons, Qv, QE, Qu, Q9, keepB, QF, Jc, JO, G8, UH, K2, Qk, Qm, Qa, Q3, Qh, List.take_length, List.length_cons, List.length_nil, Nat.zero_add, QH, QX, Q4, Q6, Zone.row, Qf, Qs, Pt.row, Ql, QA, Aw.row, Qo, QB, Blk.row, Qb, Qj, Sec.row, Qc, Qn, Rw.row, Qp, QD, Qd, Int.toNat_natCast, Nat.sub_zero, List.length_map, Qc3, tkw, el_w1, List.append_nil]
      refine ⟨fun h => absurd h (by omega), fun _ => ⟨by omega, ?_⟩⟩
      exact hN1 (n + 1, B) _ ⟨by repeat' (first | exact trivial | refine ⟨.inr rfl, ?_⟩), ⟨rfl, rfl, trivial⟩, cl _ _ (by simp [Qr]), by simp [keepB, dom]⟩ ⟨by simp only; omega, hw, hI⟩ (by simp only; omega)
  · have en : n = s.pts.length := by omega
    subst en
    unfold Xv; simp (config := { maxSteps := 2000000 }) only [bitvec_to_nat, reduceIte, Nat.reduceEqDiff, Nat.reduceAdd, Nat.reduceLeDiff, reduceCtorEq, Nat.reduceBEq, Nat.reduceLT, Nat.reduceMod, List.forall_mem_cons, Qv, QE, Qu, Q9, keepB, QF, Jc, JO, G8, UH, K2, Qk, Qm, Qa, Q3, Qh, List.take_length, List.length_cons, List.length_nil, Nat.zero_add, QH, QX, Q4, Q6, Zone.row, Qf, Qs, Pt.row, Ql, QA, Aw.row, Qo, QB, Blk.row, Qb, Qj, Sec.row, Qc, Qn, Rw.row, Qp, QD, Qd, Int.toNat_natCast, Nat.sub_zero, List.length_map, Qc3, tkw, el_w1, List.append_nil]
    refine ⟨fun h => absurd h (by omega), fun _ => ?_⟩
    exact ⟨B, ⟨hw.1, fun i hi m hm hl => hd i hi m hm (by omega), fun i hi => hw.len hv hi⟩, by rw [List.take_of_length_le (by rw [hw.1.1, J9]; omega)]⟩
end
end Go.Ve

namespace Go.Ve
noncomputable section
open Go.Proofs
set_option linter.unusedSimpArgs false
set_option linter.unusedVariables false
set_option maxRecDepth 100000
theorem QtD (a : Nm) : Contract P 111 [.str a] [] (.bool false) [] := by
  refine Qt (Env.nil P) hm QbX (Nat.le_of_ble_eq_true rfl) rfl ?_; unfold Uo; simp (config := { maxSteps := 2000000 }) only [bitvec_to_nat, reduceIte, Nat.reduceEqDiff, Nat.reduceAdd, Nat.reduceLeDiff, reduceCtorEq, Nat.reduceBEq, Nat.reduceLT, Nat.reduceMod, List.forall_mem_cons, Qk, Qm, Qa, Q3, Qh, List.take_length, List.length_cons, List.length_nil, Nat.zero_add, QH, QX, Q4, Q6, Zone.row, Qf, Qs, Pt.row, Ql, QA, Aw.row, Qo, QB, Blk.row, Qb, Qj, Sec.row, Qc, Qn, Rw.row, Qp, QD, Qd, Int.toNat_natCast, Nat.sub_zero, List.length_map, List.append_nil]
  all_goals first | trivial | simp
def Qhu : List AV → Option (Prop × AV)
  | [.str a] => some ((True) ∧ (True), .bool false)
  | _ => none
theorem QtE : ∀ args p v, Qhu args = some (p, v) → p → Contract P 111 args [] v [] ∧ noref v = true ∧ No99 v := by
  intro args p v h1 h2
  unfold Qhu at h1
  split at h1
  · rename_i a
    cases h1
    obtain ⟨_, HP⟩ := h2
    have := QtD a
    exact ⟨this, rfl, trivial⟩
  · cases h1
def sgn (a b : Nm) : Int := if slt a b then -1 else if slt b a then 1 else 0
theorem Qi4 {a b : Nm} : sgn a b = 0 ↔ a = b := by
  unfold sgn
  rcases Qei a b with h | h | h
  · rw [if_pos h]; constructor
    · intro q; omega
    · rintro rfl; exact absurd h (Kz _)
  · subst h; simp [Kz]
  · rw [if_neg (Qeh h), if_pos h]; constructor
    · intro q; omega
    · rintro rfl; exact absurd h (Kz _)
theorem Qu6 {a b : Nm} : sgn a b < 0 ↔ slt a b := by
  unfold sgn
  by_cases h : slt a b
  · simp [h]
  · by_cases k : slt b a <;> simp [h, k]
theorem Qu7 (a b : Nm) : Contract P 108 [.str a, .str b] [] (.int .i64 (sgn a b)) [] := by
  refine Qt ((Env.nil P).add 111 Qhu QtE) hm Qad (Nat.le_of_ble_eq_true rfl) rfl ?_; unfold XO; simp (config := { maxSteps := 2000000 }) only [bitvec_to_nat, reduceIte, Nat.reduceEqDiff, Nat.reduceAdd, Nat.reduceLeDiff, reduceCtorEq, Nat.reduceBEq, Nat.reduceLT, Nat.reduceMod, List.forall_mem_cons, Qhu, Qk, Qm, Qa, Q3, Qh, List.take_length, List.length_cons, List.length_nil, Nat.zero_add, QH, QX, Q4, Q6, Zone.row, Qf, Qs, Pt.row, Ql, QA, Aw.row, Qo, QB, Blk.row, Qb, Qj, Sec.row, Qc, Qn, Rw.row, Qp, QD, Qd, Int.toNat_natCast, Nat.sub_zero, List.length_map, List.append_nil]
  unfold sgn
  repeat' (first | with_reducible apply And.intro | with_reducible intro _)
  all_goals first
    | (simp only [*, if_true, if_false]; done)
    | trace_state
def Qi5 : List AV → Option (Prop × AV)
  | [.str a, .str b] => some ((True) ∧ (True), .int .i64 (sgn a b))
  | _ => none
theorem Qu8 : ∀ args p v, Qi5 args = some (p, v) → p → Contract P 108 args [] v [] ∧ noref v = true ∧ No99 v := by
  intro args p v h1 h2
  unfold Qi5 at h1
  split at h1
  · rename_i a b
    cases h1
    obtain ⟨_, HP⟩ := h2
    have := Qu7 a b
    exact ⟨this, rfl, trivial⟩
  · cases h1
def Qom : List Nm → List Nm → Int
  | x :: xs, y :: ys => if sgn x y ≠ 0 then sgn x y else Qom xs ys
  | _, _ => 0
theorem Qon : ∀ {a b : List Nm} {i : Nat}, i < a.length → i < b.length → (∀ j, j < i → a.getD j default = b.getD j default) → sgn (a.getD i default) (b.getD i default) ≠ 0 → Qom a b = sgn (a.getD i default) (b.getD i default)
  | [], _, i, h, _, _, _ => by simp at h
  | _ :: _, [], i, _, h, _, _ => by simp at h
  | x :: a, y :: b, 0, _, _, k, n => by
    simp only [List.getD_cons_zero] at n ⊢
    simp only [Qom, if_pos n]
  | x :: a, y :: b, i + 1, h, hi, k, n => by
    have e := k 0 (by omega)
    simp only [List.getD_cons_zero] at e
    subst e
    have ih := Qon (a := a) (b := b) (i := i) (by simpa using h) (by simpa using hi) (fun j hj => by simpa using k (j + 1) (by omega)) (by simpa using n)
    have z : sgn x x = 0 := Qi4.2 rfl
    simp only [Qom, z, ne_eq, not_true_eq_false, if_false, List.getD_cons_succ, ih]
theorem Qi6 : ∀ a : List Nm, Qom a a = 0
  | [] => rfl
  | x :: a => by
    have z : sgn x x = 0 := Qi4.2 rfl
    simp only [Qom, z, ne_eq, not_true_eq_false, if_false, Qi6 a]
theorem Qoo : ∀ {a b : List Nm}, a.length = b.length → (Qom a b < 0 ↔ lx a b)
  | [], [], _ => by simp [Qom, lx]
  | [], _ :: _, h => by simp at h
  | _ :: _, [], h => by simp at h
  | x :: a, y :: b, h => by
    have ih := Qoo (a := a) (b := b) (by simpa using h)
    simp only [Qom, lx]
    by_cases e : x = y
    · subst e
      have z : sgn x x = 0 := Qi4.2 rfl
      simp only [z, ne_eq, not_true_eq_false, if_false, ih, Kz, false_or, true_and]
    · have n : sgn x y ≠ 0 := fun q => e (Qi4.1 q)
      rw [if_pos n, Qu6]
      simp only [e, false_and, or_false]
theorem QtF (t t' : Nat) (a b : List Nm) (hl : a.length = b.length) (h : a.length ≤ 1048576) : Contract P 102 [.sl t 1 (a.map QH), .sl t' 1 (b.map QH)] [] (.int .i64 (Qom a b)) [] := by
  refine Qt ((Env.nil P).add 108 Qi5 Qu8) hm Vt (Nat.le_of_ble_eq_true rfl) rfl ?_; unfold Gx; simp (config := { maxSteps := 2000000 }) only [bitvec_to_nat, reduceIte, Nat.reduceEqDiff, Nat.reduceAdd, Nat.reduceLeDiff, reduceCtorEq, Nat.reduceBEq, Nat.reduceLT, Nat.reduceMod, List.forall_mem_cons, Qi5, Qk, Qm, Qa, Q3, Qh, List.take_length, List.length_cons, List.length_nil, Nat.zero_add, QH, QX, Q4, Q6, Zone.row, Qf, Qs, Pt.row, Ql, QA, Aw.row, Qo, QB, Blk.row, Qb, Qj, Sec.row, Qc, Qn, Rw.row, Qp, QD, Qd, Int.toNat_natCast, Nat.sub_zero, List.length_map, List.append_nil]
  refine QV (fun i : Nat => [(11, .int .i64 i)]) (fun _ => []) (fun i => i ≤ a.length ∧ ∀ j, j < i → a.getD j default = b.getD j default) (fun i => a.length - i) 0 (by simp only [JX, JY, JZ, J0, Qw, Qx, Qy, Qz, reduceIte, Nat.reduceEqDiff]; exact ⟨by repeat' (first | exact trivial | refine ⟨.inr rfl, ?_⟩), by repeat' (first | exact trivial | refine ⟨rfl, ?_⟩), by first | rfl | simp [closedB, Qr, Qg, Qi, dom, Qe, *], by first | rfl | simp [keepB, dom]⟩) ⟨Nat.zero_le _, by intro j hj; omega⟩ ?_
  intro i hi NX hN
  unfold YZ; simp (config := { maxSteps := 2000000 }) only [bitvec_to_nat, reduceIte, Nat.reduceEqDiff, Nat.reduceAdd, Nat.reduceLeDiff, reduceCtorEq, Nat.reduceBEq, Nat.reduceLT, Nat.reduceMod, List.forall_mem_cons, Qi5, Qk, Qm, Qa, Q3, Qh, List.take_length, List.length_cons, List.length_nil, Nat.zero_add, QH, QX, Q4, Q6, Zone.row, Qf, Qs, Pt.row, Ql, QA, Aw.row, Qo, QB, Blk.row, Qb, Qj, Sec.row, Qc, Qn, Rw.row, Qp, QD, Qd, Int.toNat_natCast, Nat.sub_zero, List.length_map, List.append_nil]
  refine ⟨fun q => ⟨by omega, q, fun e => by omega, fun _ => ⟨by omega, by omega, fun e => (Qon (by omega) (by omega) hi.2 e).symm, fun e => ⟨by omega, ?_⟩⟩⟩, fun q => ⟨fun e => by omega, fun _ => ?_⟩⟩
  · refine hN (i + 1) _ (by simp only [JX, JY, JZ, J0, Qw, Qx, Qy, Qz, reduceIte, Nat.reduceEqDiff]; exact ⟨by repeat' (first | exact trivial | refine ⟨.inr rfl, ?_⟩), by repeat' (first | exact trivial | refine ⟨rfl, ?_⟩), by first | rfl | simp [closedB, Qr, Qg, Qi, dom, Qe, *], by first | rfl | simp [keepB, dom]⟩) ?_ ?_
    · refine ⟨by omega, fun j hj => ?_⟩
      rcases Nat.lt_or_ge j i with q2 | q2
      · exact hi.2 j q2
      · rw [show j = i from by omega]; exact Qi4.1 e
    · omega
  · rw [Qr8 hl fun j hj => hi.2 j (by omega), Qi6]
def Qhv : List AV → Option (Prop × AV)
  | [.sl ut 1 ux, .sl vt 1 vx] => some ((((ux.map unS).map QH = ux) ∧ ((vx.map unS).map QH = vx)) ∧ ((ux.map unS).length = (vx.map unS).length ∧ (ux.map unS).length ≤ 1048576), .int .i64 (Qom (ux.map unS) (vx.map unS)))
  | _ => none
theorem QtG : ∀ args p v, Qhv args = some (p, v) → p → Contract P 102 args [] v [] ∧ noref v = true ∧ No99 v := by
  intro args p v h1 h2
  unfold Qhv at h1
  split at h1
  · rename_i ut ux vt vx
    cases h1
    obtain ⟨⟨e0, e1⟩, HP⟩ := h2
    have := QtF ut vt (ux.map unS) (vx.map unS) HP.1 HP.2
    exact ⟨by simpa only [e0, e1] using this, rfl, trivial⟩
  · cases h1
def btf (fu : Int) (u : List Nm) (fw : Int) (w : List Nm) : Prop := fu < fw ∨ (fu = fw ∧ (u.length < w.length ∨ (u.length = w.length ∧ lx u w)))
noncomputable instance (fu : Int) (u : List Nm) (fw : Int) (w : List Nm) : Decidable (btf fu u fw w) := Classical.propDecidable _
theorem Qrd (t t' : Nat) (fu fw : Int) (u w : List Nm) (hu : u.length ≤ 1048576) (hw : w.length ≤ 1048576) : Contract P 71 [.agg [.int .i64 fu, .sl t 1 (u.map QH)], .agg [.int .i64 fw, .sl t' 1 (w.map QH)]] [] (.bool (decide (btf fu u fw w))) [] := by
  refine Qt ((Env.nil P).add 102 Qhv QtG) hm Qab (Nat.le_of_ble_eq_true rfl) rfl ?_; unfold XK; simp (config := { maxSteps := 2000000 }) only [bitvec_to_nat, reduceIte, Nat.reduceEqDiff, Nat.reduceAdd, Nat.reduceLeDiff, reduceCtorEq, Nat.reduceBEq, Nat.reduceLT, Nat.reduceMod, List.forall_mem_cons, Qhv, Qk, Qm, Qa, Q3, Qh, List.take_length, List.length_cons, List.length_nil, Nat.zero_add, QH, QX, Q4, Q6, Zone.row, Qf, Qs, Pt.row, Ql, QA, Aw.row, Qo, QB, Blk.row, Qb, Qj, Sec.row, Qc, Qn, Rw.row, Qp, QD, Qd, Int.toNat_natCast, Nat.sub_zero, List.length_map, List.append_nil]
  simp only [decide_eq_decide]
  refine ⟨fun h => ?_, fun h => ⟨fun h2 => ?_, fun h2 => ⟨⟨by omega, hu⟩, ?_⟩⟩⟩
  · unfold btf; exact ⟨.inl, fun q => q.elim id fun q => absurd q.1 h⟩
  · unfold btf; exact ⟨fun q => .inr ⟨h, .inl (by omega)⟩, fun q => q.elim (fun q => by omega) fun q => q.2.elim (fun q => by omega) fun q => by omega⟩
  · rw [Qoo (by omega)]
    unfold btf; exact ⟨fun q => .inr ⟨h, .inr ⟨by omega, q⟩⟩, fun q => q.elim (fun q => by omega) fun q => q.2.elim (fun q => by omega) fun q => q.2⟩
def KK : List AV → Option (Prop × AV)
  | [.agg [.int .i64 fu, .sl ut 1 ux], .agg [.int .i64 fw, .sl wt 1 wx]] => some (((ux.map unS).map QH = ux ∧ (wx.map unS).map QH = wx) ∧ (ux.map unS).length ≤ 1048576 ∧ (wx.map unS).length ≤ 1048576, .bool (decide (btf fu (ux.map unS) fw (wx.map unS))))
  | _ => none
theorem Qre : ∀ args p v, KK args = some (p, v) → p → Contract P 71 args [] v [] ∧ noref v = true ∧ No99 v := by
  intro args p v h1 h2
  unfold KK at h1
  split at h1
  · rename_i fu ut ux fw wt wx
    cases h1
    obtain ⟨⟨e0, e1⟩, HP⟩ := h2
    have := Qrd ut wt fu fw (ux.map unS) (wx.map unS) HP.1 HP.2
    exact ⟨by simpa only [e0, e1] using this, rfl, trivial⟩
  · cases h1
theorem Qop (t : Nat) (w : List Nm) (h0 : 0 < w.length) (hw : w.length ≤ 1048576) : Contract P 70 [.sl t 1 (w.map QH)] [] (.own 105 1 0 w.length) [(105, .arr 9 1 1 (w.map QH))] := by
  have tkc : List.take w.length (w.map QH) = w.map QH := List.take_of_length_le (by simp)
  have hne : True := trivial
  refine Qt (Env.nil P) hm V1 (Nat.le_of_ble_eq_true rfl) rfl ?_; unfold GO; simp (config := { maxSteps := 2000000 }) only [bitvec_to_nat, reduceIte, Nat.reduceEqDiff, Nat.reduceAdd, Nat.reduceLeDiff, reduceCtorEq, Nat.reduceBEq, Nat.reduceLT, Nat.reduceMod, List.forall_mem_cons, Qv, QE, Qu, Q9, keepB, QF, Jc, Qk, Qm, Qa, Q3, Qh, List.take_length, List.length_cons, List.length_nil, Nat.zero_add, QH, QX, Q4, Q6, Zone.row, Qf, Qs, Pt.row, Ql, QA, Aw.row, Qo, QB, Blk.row, Qb, Qj, Sec.row, Qc, Qn, Rw.row, Qp, QD, Qd, Int.toNat_natCast, Nat.sub_zero, List.length_map, List.append_nil, tkc, hne]
  exact ⟨h0, by omega, by simp [Qr], rfl⟩
end
end Go.Ve

