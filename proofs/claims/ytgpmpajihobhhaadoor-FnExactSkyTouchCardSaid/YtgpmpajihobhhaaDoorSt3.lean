/- Part 3 of the proof: laws and contracts of functions, each proved; they are joined in the last part. No conditions beyond those that the theorems state. -/
import Derived.Test.YtgpmpajihobhhaaDoorSt2
set_option linter.all false
namespace Go.Ve
noncomputable section
open Go.Proofs
set_option linter.unusedSimpArgs false
set_option linter.unusedVariables false
set_option maxRecDepth 100000
open Go.ChangeShapes Go.WideShapes
/-- What is left when a list is counted, and each of its parts. -/
def szS {α : Type} (f : α → Int → Int) (l : List α) (a : Int) : Int := l.foldl (fun a x => f x a) (szOf a l.length)
def szStr (s : ByteArray) (a : Int) : Int := szOf a s.toList.length
def Meas {α : Type} (f : α → Int → Int) : Prop := ∀ x a, a ≤ 1048576 → (f x a = -1 ∨ 0 ≤ f x a) ∧ (a < 0 → f x a = -1) ∧ f x a ≤ max a (-1)
def chk (x : Int) (k : Int → Int) : Int := if x < 0 then -1 else k x
def Meas1 (g : Int → Int) : Prop := ∀ a, a ≤ 1048576 → (g a = -1 ∨ 0 ≤ g a) ∧ (a < 0 → g a = -1) ∧ g a ≤ max a (-1)
def MeasP (g : Int → Int) : Prop := ∀ a, 0 ≤ a → a ≤ 1048576 → (g a = -1 ∨ 0 ≤ g a) ∧ g a ≤ a
theorem Meas1.p {g : Int → Int} (h : Meas1 g) : MeasP g := fun a h0 h1 => ⟨(h a h1).1, by have := (h a h1).2.2; omega⟩
theorem measP_id : MeasP fun z => z := fun a h0 h1 => ⟨.inr h0, Int.le_refl a⟩
theorem chk_sub {k : Int → Int} (n : Nat) (h : MeasP k) : Meas1 fun a => chk (a - n) k := fun a ha => by
  simp only [chk]
  split
  · exact ⟨.inl rfl, fun _ => rfl, by omega⟩
  · rename_i h1
    have := h (a - n) (by omega) (by omega)
    exact ⟨this.1, fun _ => by omega, by omega⟩
theorem chk_g {g k : Int → Int} (hg : Meas1 g) (h : MeasP k) : Meas1 fun a => chk (g a) k := fun a ha => by
  have m := hg a ha
  simp only [chk]
  split
  · exact ⟨.inl rfl, fun _ => rfl, by omega⟩
  · rename_i h1
    have := h (g a) (by omega) (by omega)
    exact ⟨this.1, fun h2 => by have := m.2.1 h2; omega, by omega⟩
theorem chk_ok {x : Int} {k : Int → Int} (h : 0 ≤ chk x k) : 0 ≤ x ∧ 0 ≤ k x := by
  unfold chk at h; split at h
  · omega
  · exact ⟨by omega, h⟩
theorem meas_str : Meas szStr := fun x a _ => by unfold szStr szOf; split <;> omega
theorem meas_len {α : Type} : Meas (fun (l : List α) a => szOf a l.length) := fun x a _ => by simp only; unfold szOf; split <;> omega
theorem fold_meas {α : Type} {f : α → Int → Int} (h : Meas f) : ∀ (l : List α) (a : Int), a ≤ 1048576 → (a = -1 ∨ 0 ≤ a) → (l.foldl (fun a x => f x a) a = -1 ∨ 0 ≤ l.foldl (fun a x => f x a) a) ∧ (a < 0 → l.foldl (fun a x => f x a) a = -1) ∧ l.foldl (fun a x => f x a) a ≤ max a (-1)
  | [], a, h1, h2 => ⟨h2, fun h3 => by simp only [List.foldl_nil]; omega, by simp only [List.foldl_nil]; omega⟩
  | x :: l, a, h1, h2 => by
    obtain ⟨k1, k2, k3⟩ := h x a h1
    obtain ⟨i1, i2, i3⟩ := fold_meas h l (f x a) (by omega) k1
    simp only [List.foldl_cons]
    exact ⟨i1, fun h3 => i2 (by have := k2 h3; omega), by omega⟩
theorem meas_szS {α : Type} {f : α → Int → Int} (h : Meas f) : Meas (szS f) := fun l a ha => by
  unfold szS
  have h0 : (szOf a l.length = -1 ∨ 0 ≤ szOf a l.length) ∧ (a < 0 → szOf a l.length = -1) ∧ szOf a l.length ≤ max a (-1) := by unfold szOf; split <;> omega
  obtain ⟨i1, i2, i3⟩ := fold_meas h l (szOf a l.length) (by omega) h0.1
  exact ⟨i1, fun h3 => i2 (by have := h0.2.1 h3; omega), by omega⟩
/-- A list that was counted is small, and so are its parts. -/
theorem fold_ok {α : Type} {f : α → Int → Int} {p : α → Prop} (h : Meas f) (hp : ∀ x a, a ≤ 1048576 → 0 ≤ f x a → p x) : ∀ (l : List α) (a : Int), a ≤ 1048576 → (a = -1 ∨ 0 ≤ a) → 0 ≤ l.foldl (fun a x => f x a) a → ∀ x ∈ l, p x
  | [], _, _, _, _, x, hx => by simp at hx
  | y :: l, a, h1, h2, h3, x, hx => by
    simp only [List.foldl_cons] at h3
    obtain ⟨k1, k2, k3⟩ := h y a h1
    have hy : 0 ≤ f y a := by
      rcases k1 with k1 | k1
      · have := (fold_meas h l (f y a) (by omega) (.inl k1)).2.1 (by omega); omega
      · exact k1
    rcases List.mem_cons.1 hx with rfl | hx
    · exact hp _ a h1 hy
    · exact fold_ok h hp l (f y a) (by omega) (.inr hy) h3 x hx
theorem szS_ok {α : Type} {f : α → Int → Int} {p : α → Prop} (h : Meas f) (hp : ∀ x a, a ≤ 1048576 → 0 ≤ f x a → p x) {l : List α} {a : Int} (ha : a ≤ 1048576) (h0 : 0 ≤ szS f l a) : l.length ≤ 1048576 ∧ ∀ x ∈ l, p x := by
  unfold szS at h0
  have hs : (szOf a l.length = -1 ∨ 0 ≤ szOf a l.length) ∧ szOf a l.length ≤ 1048576 := by unfold szOf; split <;> omega
  refine ⟨?_, fold_ok h hp l _ hs.2 hs.1 h0⟩
  rcases hs.1 with e | e
  · have := (fold_meas h l _ hs.2 (.inl e)).2.1 (by omega); omega
  · unfold szOf at e; split at e <;> omega
theorem szOf_ok {a : Int} {n : Nat} (ha : a ≤ 1048576) (h0 : 0 ≤ szOf a n) : n ≤ 1048576 := by unfold szOf at h0; split at h0 <;> omega
/-- One more part of a list. -/
theorem fold_take {α : Type} [Inhabited α] {f : α → Int → Int} {l : List α} {i : Nat} {a : Int} (hi : i < l.length) : (l.take (i + 1)).foldl (fun a x => f x a) a = f (l.getD i default) ((l.take i).foldl (fun a x => f x a) a) := by
  have e : l.getD i default = l[i] := by simp [hi]
  rw [e, List.take_succ_eq_append_getElem hi, List.foldl_append]; rfl
theorem fold_stop {α : Type} [Inhabited α] {f : α → Int → Int} (h : Meas f) {l : List α} {i : Nat} {a : Int} (hi : i < l.length) (ha : a ≤ 1048576) (h0 : a = -1 ∨ 0 ≤ a) (hn : f (l.getD i default) ((l.take i).foldl (fun a x => f x a) a) < 0) : l.foldl (fun a x => f x a) a = -1 := by
  rw [← fold_take (f := f) hi] at hn
  have e : l.foldl (fun a x => f x a) a = (l.drop (i + 1)).foldl (fun a x => f x a) ((l.take (i + 1)).foldl (fun a x => f x a) a) := by
    rw [← List.foldl_append, List.take_append_drop]
  rw [e]
  have k := fold_meas h (l.take (i + 1)) a ha h0
  exact (fold_meas h _ _ (by omega) k.1).2.1 hn
theorem fit_rows2 {α : Type} {f : α → List AV} {p : α → Prop} {rs : List LSh} (h : ∀ r, fitsL rs r → ∃ x : α, r = f x ∧ p x) : ∀ {rows : List (List AV)}, (∀ r ∈ rows, fitsL rs r) → ∃ l : List α, rows = l.map f ∧ ∀ x ∈ l, p x
  | [], _ => ⟨[], rfl, by simp⟩
  | r :: rows, k => by
    obtain ⟨x, rfl, hx⟩ := h r (k r (by simp))
    obtain ⟨l, rfl, hl⟩ := fit_rows2 h (rows := rows) fun r' h' => k r' (by simp [h'])
    exact ⟨x :: l, rfl, by simpa using ⟨hx, hl⟩⟩
theorem getD_mem' {α : Type} [Inhabited α] {l : List α} {i : Nat} (h : i < l.length) : l.getD i default ∈ l := by simp [h]
def Pt.fitp (s : Pt) : Prop := s.nm.toList.length ≤ 9223372036854775807
def Pt.sz (s : Pt) (z0 : Int) : Int := chk (z0 - (s.nm.toList.length : Nat)) (fun z1 => z1)
theorem meas_Pt : Meas Pt.sz := fun s => chk_sub _ (measP_id)
def Rw.fitp (s : Rw) : Prop := s.nm.toList.length ≤ 9223372036854775807
def Rw.sz (s : Rw) (z0 : Int) : Int := chk (z0 - (s.nm.toList.length : Nat)) (fun z1 => z1)
theorem meas_Rw : Meas Rw.sz := fun s => chk_sub _ (measP_id)
def Aw.fitp (s : Aw) : Prop := s.nm.toList.length ≤ 9223372036854775807 ∧ (s.pts.length ≤ 9223372036854775807 ∧ ∀ y ∈ s.pts, y.toList.length ≤ 9223372036854775807)
def Aw.sz (s : Aw) (z0 : Int) : Int := chk (z0 - (s.nm.toList.length : Nat)) (fun z1 => chk (szS szStr s.pts z1) (fun z2 => z2))
theorem meas_Aw : Meas Aw.sz := fun s => chk_sub _ (Meas1.p (chk_g (fun a => meas_szS meas_str s.pts a) (measP_id)))
theorem Aw.sz_ok {s : Aw} {a : Int} (ha : a ≤ 1048576) (h : 0 ≤ s.sz a) : s.small := by
  unfold Aw.sz at h
  have b0 : a ≤ 1048576 := ha
  obtain ⟨p0, h⟩ := chk_ok h
  have b1 : (a) - (s.nm.toList.length : Nat) ≤ 1048576 := by omega
  obtain ⟨p1, h⟩ := chk_ok h
  have b2 : szS szStr s.pts ((a) - (s.nm.toList.length : Nat)) ≤ 1048576 := by have := (meas_szS meas_str s.pts ((a) - (s.nm.toList.length : Nat)) b1).2.2; omega
  have k1 := szS_ok (p := fun _ => True) meas_str (fun _ _ _ _ => trivial) b1 p1
  exact k1.1
def Sec.fitp (s : Sec) : Prop := s.nm.toList.length ≤ 9223372036854775807 ∧ s.bl.length ≤ 9223372036854775807
def Sec.sz (s : Sec) (z0 : Int) : Int := chk (z0 - (s.nm.toList.length : Nat)) (fun z1 => chk (szOf z1 s.bl.length) (fun z2 => z2))
theorem meas_Sec : Meas Sec.sz := fun s => chk_sub _ (Meas1.p (chk_g (fun a => meas_len s.bl a) (measP_id)))
theorem Sec.sz_ok {s : Sec} {a : Int} (ha : a ≤ 1048576) (h : 0 ≤ s.sz a) : s.small := by
  unfold Sec.sz at h
  have b0 : a ≤ 1048576 := ha
  obtain ⟨p0, h⟩ := chk_ok h
  have b1 : (a) - (s.nm.toList.length : Nat) ≤ 1048576 := by omega
  obtain ⟨p1, h⟩ := chk_ok h
  have b2 : szOf ((a) - (s.nm.toList.length : Nat)) s.bl.length ≤ 1048576 := by have := (meas_len s.bl ((a) - (s.nm.toList.length : Nat)) b1).2.2; simp only at this; omega
  have k1 := szOf_ok b1 p1
  exact k1
def Sky.fitp (s : Sky) : Prop := (s.pts.length ≤ 9223372036854775807 ∧ ∀ y ∈ s.pts, y.fitp) ∧ (s.aws.length ≤ 9223372036854775807 ∧ ∀ y ∈ s.aws, y.fitp) ∧ (s.secs.length ≤ 9223372036854775807 ∧ ∀ y ∈ s.secs, y.fitp) ∧ (s.rws.length ≤ 9223372036854775807 ∧ ∀ y ∈ s.rws, y.fitp)
def Sky.sz (s : Sky) (z0 : Int) : Int := chk (szS Pt.sz s.pts z0) (fun z1 => chk (szS Aw.sz s.aws z1) (fun z2 => chk (szS Sec.sz s.secs z2) (fun z3 => chk (szS Rw.sz s.rws z3) (fun z4 => z4))))
theorem Sky.sz_ok {s : Sky} {a : Int} (ha : a ≤ 1048576) (h : 0 ≤ s.sz a) : s.small := by
  unfold Sky.sz at h
  have b0 : a ≤ 1048576 := ha
  obtain ⟨p0, h⟩ := chk_ok h
  have b1 : szS Pt.sz s.pts (a) ≤ 1048576 := by have := (meas_szS meas_Pt s.pts (a) b0).2.2; omega
  have k0 := szS_ok (p := fun _ => True) meas_Pt (fun _ _ _ _ => trivial) b0 p0
  obtain ⟨p1, h⟩ := chk_ok h
  have b2 : szS Aw.sz s.aws (szS Pt.sz s.pts (a)) ≤ 1048576 := by have := (meas_szS meas_Aw s.aws (szS Pt.sz s.pts (a)) b1).2.2; omega
  have k1 := szS_ok (p := fun y => Aw.small y) meas_Aw (fun x a h1 h2 => Aw.sz_ok h1 h2) b1 p1
  obtain ⟨p2, h⟩ := chk_ok h
  have b3 : szS Sec.sz s.secs (szS Aw.sz s.aws (szS Pt.sz s.pts (a))) ≤ 1048576 := by have := (meas_szS meas_Sec s.secs (szS Aw.sz s.aws (szS Pt.sz s.pts (a))) b2).2.2; omega
  have k2 := szS_ok (p := fun y => Sec.small y) meas_Sec (fun x a h1 h2 => Sec.sz_ok h1 h2) b2 p2
  obtain ⟨p3, h⟩ := chk_ok h
  have b4 : szS Rw.sz s.rws (szS Sec.sz s.secs (szS Aw.sz s.aws (szS Pt.sz s.pts (a)))) ≤ 1048576 := by have := (meas_szS meas_Rw s.rws (szS Sec.sz s.secs (szS Aw.sz s.aws (szS Pt.sz s.pts (a)))) b3).2.2; omega
  have k3 := szS_ok (p := fun _ => True) meas_Rw (fun _ _ _ _ => trivial) b3 p3
  exact ⟨k0.1, k1, k2, k3.1⟩
theorem gv0 : gval 0 = .pp 97 turnCells := by simp only [gval, gtab, if_true]
theorem keyEq_str {a b : ByteArray} : keyEq (.str a) (.str b) = decide (a = b) := str_eq
def cellKey (c : Int × Int) : AV := .agg [.int .i64 c.1, .int .i64 c.2]
theorem keyEq_cell {a b : Int × Int} : keyEq (cellKey a) (cellKey b) = decide (a = b) := by
  obtain ⟨a1, a2⟩ := a
  obtain ⟨b1, b2⟩ := b
  by_cases h : a1 = b1 <;> by_cases k : a2 = b2 <;> simp [keyEq, cellKey, intsEq, h, k]
theorem keyP_str {s : ByteArray} : keyP 0 (.str s) = (s.toList.length ≤ 9223372036854775807) := by
  rw [← toList_size]
  exact propext ⟨fun ⟨_, h, h2⟩ => by cases h; exact h2, fun h => ⟨s, rfl, h⟩⟩
theorem wf64 {m : Int} : (Lit.int .i64 m).wf = decide (-9223372036854775808 ≤ m ∧ m ≤ 9223372036854775807) := by
  have h1 : IntKind.i64.min = -9223372036854775808 := by decide
  have h2 : IntKind.i64.max = 9223372036854775807 := by decide
  simp [Lit.wf, h1, h2, Bool.decide_and]
theorem keyP_cell {a b : Int} : keyP 2 (.agg [.int .i64 a, .int .i64 b]) = ((-9223372036854775808 ≤ a ∧ a ≤ 9223372036854775807) ∧ -9223372036854775808 ≤ b ∧ b ≤ 9223372036854775807) := by
  refine propext ⟨fun ⟨ls, h, _, h2⟩ => ?_, fun ⟨h1, h2⟩ => ⟨_, rfl, rfl, fun y hy => ?_⟩⟩
  · cases h
    obtain ⟨m, h3, h4⟩ := h2 (.int .i64 a) (by simp)
    obtain ⟨m', h5, h6⟩ := h2 (.int .i64 b) (by simp)
    cases h3; cases h5
    rw [wf64] at h4 h6
    exact ⟨of_decide_eq_true h4, of_decide_eq_true h6⟩
  · rcases List.mem_cons.1 hy with rfl | hy
    · exact ⟨a, rfl, by rw [wf64]; exact decide_eq_true h1⟩
    · rcases List.mem_cons.1 hy with rfl | hy
      · exact ⟨b, rfl, by rw [wf64]; exact decide_eq_true h2⟩
      · cases hy
/-- A map that is a set. -/
def setOf {κ : Type} (f : κ → AV) (l : List κ) : List (AV × AV) := l.foldl (fun es a => putV es (f a) (.bool true)) []
def isIn {κ : Type} (q : κ) (l : List κ) : Prop := q ∈ l
noncomputable instance {κ : Type} (q : κ) (l : List κ) : Decidable (isIn q l) := Classical.propDecidable _
section
variable {κ : Type} {f : κ → AV} (inj : ∀ {a b}, keyEq (f a) (f b) = true ↔ a = b)
include inj
theorem put_map (a : κ) : ∀ ks : List κ, ∃ ks' : List κ, putV (ks.map fun k => (f k, .bool true)) (f a) (.bool true) = (ks'.map fun k => (f k, AV.bool true)) ∧ ∀ q, q ∈ ks' ↔ q ∈ ks ∨ q = a
  | [] => ⟨[a], rfl, by simp⟩
  | k :: ks => by
    by_cases h : k = a
    · subst h
      refine ⟨k :: ks, by simp only [List.map_cons, putV, inj.2 rfl, if_true], fun q => ?_⟩
      simp only [List.mem_cons]
      constructor
      · exact fun h => .inl h
      · rintro (h | rfl)
        · exact h
        · exact .inl rfl
    · obtain ⟨ks', h1, h2⟩ := put_map a ks
      have hn : ¬ keyEq (f k) (f a) = true := fun e => h (inj.1 e)
      refine ⟨k :: ks', by simp only [List.map_cons, putV, h1, hn]; rfl, fun q => ?_⟩
      simp only [List.mem_cons, h2, or_assoc]
theorem find_map (q : κ) : ∀ ks : List κ, findV (ks.map fun k => (f k, AV.bool true)) (f q) (.bool false) = .bool (decide (isIn q ks))
  | [] => by simp [findV, isIn]
  | k :: ks => by
    simp only [List.map_cons, findV, find_map q ks]
    by_cases h : k = q
    · subst h; simp [inj.2 rfl, isIn]
    · have hn : ¬ keyEq (f k) (f q) = true := fun e => h (inj.1 e)
      simp only [hn, Bool.false_eq_true, if_false, AV.bool.injEq, decide_eq_decide]
      simp only [isIn, List.mem_cons, Ne.symm h, false_or]
theorem setOf_keys (l : List κ) : ∃ ks : List κ, setOf f l = (ks.map fun k => (f k, AV.bool true)) ∧ ∀ q, q ∈ ks ↔ q ∈ l := by
  have key : ∀ (l ks : List κ), ∃ ks' : List κ, l.foldl (fun es a => putV es (f a) (.bool true)) (ks.map fun k => (f k, AV.bool true)) = (ks'.map fun k => (f k, AV.bool true)) ∧ ∀ q, q ∈ ks' ↔ q ∈ ks ∨ q ∈ l := by
    intro l
    induction l with
    | nil => intro ks; exact ⟨ks, rfl, by simp⟩
    | cons a l ih =>
      intro ks
      simp only [List.foldl_cons]
      obtain ⟨k1, h1, h2⟩ := put_map inj a ks
      rw [h1]
      obtain ⟨ks', h3, h4⟩ := ih k1
      exact ⟨ks', h3, fun q => by rw [h4, h2, List.mem_cons, or_assoc]⟩
  obtain ⟨ks, h1, h2⟩ := key l []
  exact ⟨ks, h1, by simpa using h2⟩
theorem setOf_find (l : List κ) (q : κ) : findV (setOf f l) (f q) (.bool false) = .bool (decide (isIn q l)) := by
  obtain ⟨ks, h1, h2⟩ := setOf_keys inj l
  rw [h1, find_map inj]
  simp only [AV.bool.injEq, decide_eq_decide]
  exact h2 q
end
theorem find_str {l : List ByteArray} {q : ByteArray} : findV (setOf AV.str l) (.str q) (.bool false) = .bool (decide (isIn q l)) := setOf_find (f := AV.str) (by intro a b; rw [keyEq_str]; simp) l q
theorem find_cell {l : List (Int × Int)} {a b : Int} : findV (setOf cellKey l) (.agg [.int .i64 a, .int .i64 b]) (.bool false) = .bool (decide (isIn (a, b) l)) := setOf_find (f := cellKey) (by intro a b; rw [keyEq_cell]; simp) l (a, b)
theorem put_str {l : List ByteArray} {q : ByteArray} : putV (setOf AV.str l) (.str q) (.bool true) = setOf AV.str (l ++ [q]) := by simp [setOf]
theorem put_cell {l : List (Int × Int)} {a b : Int} : putV (setOf cellKey l) (.agg [.int .i64 a, .int .i64 b]) (.bool true) = setOf cellKey (l ++ [(a, b)]) := by simp [setOf, cellKey]
theorem take_map_snoc {α β : Type} [Inhabited α] {f : α → β} {l : List α} {i : Nat} (hi : i < l.length) : (l.take (i + 1)).map f = (l.take i).map f ++ [f (l.getD i default)] := by
  have e : l.getD i default = l[i] := by simp [hi]
  rw [e, List.take_succ_eq_append_getElem hi, List.map_append]; rfl
theorem mem_take_map {α β : Type} [Inhabited α] {f : α → β} {l : List α} {i : Nat} (hi : i ≤ l.length) {q : β} : q ∈ (l.take i).map f ↔ ∃ k, k < i ∧ f (l.getD k default) = q := by
  simp only [List.mem_map]
  constructor
  · rintro ⟨x, hx, rfl⟩
    obtain ⟨k, hk, rfl⟩ := List.mem_iff_getElem.1 hx
    rw [List.length_take] at hk
    exact ⟨k, by omega, by rw [List.getElem_take]; simp [show k < l.length by omega]⟩
  · rintro ⟨k, hk, rfl⟩
    exact ⟨_, List.mem_iff_getElem.2 ⟨k, by rw [List.length_take]; omega, rfl⟩, by rw [List.getElem_take]; simp [show k < l.length by omega]⟩
theorem c_iCell (s : Sky) (x y : Int) (hd : dims s.w s.h s.lv) : Contract P 76 [.agg (s.row 0), .int .i64 x, .int .i64 y] [] (.bool (decide (inSky s.w s.h x y))) [] := by
  unfold dims at hd
  simp only [Sky.row]
  refine fn_sound ((Env.nil P).add 74 t_within h_within) hm k_impl_Sky_cell (Nat.le_of_ble_eq_true rfl) rfl ?_; unfold s_impl_Sky_cell; simp (config := { maxSteps := 2000000 }) only [bitvec_to_nat, reduceIte, Nat.reduceEqDiff, Nat.reduceAdd, Nat.reduceLeDiff, reduceCtorEq, Nat.reduceBEq, Nat.reduceLT, List.forall_mem_cons, t_within, tk_map, dp_map, toNat_pred, appE, rowsOf, List.take_length, List.length_cons, List.length_nil, Nat.zero_add, srow, irow, un_s, un_i, Zone.row, Zone_eta, un_Zone, Pt.row, Pt_eta, un_Pt, Aw.row, Aw_eta, un_Aw, Blk.row, Blk_eta, un_Blk, Sec.row, Sec_eta, un_Sec, Rw.row, Rw_eta, un_Rw, Sky_eta]
  repeat' (first | with_reducible apply And.intro | with_reducible intro _)
  all_goals first | omega | grind [inSky]
def t_iCell : List AV → Option (Prop × AV)
  | [.agg [.int .i64 s_w, .int .i64 s_h, .int .i64 s_lv, .sl 0 3 s_pts, .sl 0 2 s_aws, .sl 0 2 s_secs, .sl 0 4 s_rws], .int .i64 x, .int .i64 y] => some ((((s_pts.map unPt).map Pt.row = s_pts) ∧ ((s_aws.map unAw).map (Aw.row 0) = s_aws) ∧ ((s_secs.map unSec).map (Sec.row 0) = s_secs) ∧ ((s_rws.map unRw).map Rw.row = s_rws)) ∧ (dims (Sky.mk s_w s_h s_lv (s_pts.map unPt) (s_aws.map unAw) (s_secs.map unSec) (s_rws.map unRw)).w (Sky.mk s_w s_h s_lv (s_pts.map unPt) (s_aws.map unAw) (s_secs.map unSec) (s_rws.map unRw)).h (Sky.mk s_w s_h s_lv (s_pts.map unPt) (s_aws.map unAw) (s_secs.map unSec) (s_rws.map unRw)).lv), .bool (decide (inSky (Sky.mk s_w s_h s_lv (s_pts.map unPt) (s_aws.map unAw) (s_secs.map unSec) (s_rws.map unRw)).w (Sky.mk s_w s_h s_lv (s_pts.map unPt) (s_aws.map unAw) (s_secs.map unSec) (s_rws.map unRw)).h x y)))
  | _ => none
theorem h_iCell : ∀ args p v, t_iCell args = some (p, v) → p → Contract P 76 args [] v [] ∧ noref v = true ∧ No99 v := by
  intro args p v h1 h2
  unfold t_iCell at h1
  split at h1
  · rename_i s_w s_h s_lv s_pts s_aws s_secs s_rws x y
    cases h1
    obtain ⟨⟨e0, e1, e2, e3⟩, HP⟩ := h2
    have := c_iCell (Sky.mk s_w s_h s_lv (s_pts.map unPt) (s_aws.map unAw) (s_secs.map unSec) (s_rws.map unRw)) x y HP
    exact ⟨by simpa only [e0, e1, e2, e3, Sky.row] using this, rfl, trivial⟩
  · cases h1
theorem c_iBlock (s : Sky) (b : Blk) : Contract P 77 [.agg (s.row 0), .agg b.row] [] (.bool (decide (b.ok s.w s.h s.lv))) [] := by
  simp only [Sky.row, Blk.row]
  refine fn_sound (Env.nil P) hm k_impl_Sky_block (Nat.le_of_ble_eq_true rfl) rfl ?_; unfold s_impl_Sky_block; simp (config := { maxSteps := 2000000 }) only [bitvec_to_nat, reduceIte, Nat.reduceEqDiff, Nat.reduceAdd, Nat.reduceLeDiff, reduceCtorEq, Nat.reduceBEq, Nat.reduceLT, List.forall_mem_cons, tk_map, dp_map, toNat_pred, appE, rowsOf, List.take_length, List.length_cons, List.length_nil, Nat.zero_add, srow, irow, un_s, un_i, Zone.row, Zone_eta, un_Zone, Pt.row, Pt_eta, un_Pt, Aw.row, Aw_eta, un_Aw, Blk.row, Blk_eta, un_Blk, Sec.row, Sec_eta, un_Sec, Rw.row, Rw_eta, un_Rw, Sky_eta]
  repeat' (first | with_reducible apply And.intro | with_reducible intro _)
  all_goals first | omega | grind [Blk.ok]
def t_iBlock : List AV → Option (Prop × AV)
  | [.agg [.int .i64 s_w, .int .i64 s_h, .int .i64 s_lv, .sl 0 3 s_pts, .sl 0 2 s_aws, .sl 0 2 s_secs, .sl 0 4 s_rws], .agg [.int .i64 b_x0, .int .i64 b_y0, .int .i64 b_x1, .int .i64 b_y1, .int .i64 b_lo, .int .i64 b_hi]] => some ((((s_pts.map unPt).map Pt.row = s_pts) ∧ ((s_aws.map unAw).map (Aw.row 0) = s_aws) ∧ ((s_secs.map unSec).map (Sec.row 0) = s_secs) ∧ ((s_rws.map unRw).map Rw.row = s_rws)) ∧ (True), .bool (decide ((Blk.mk b_x0 b_y0 b_x1 b_y1 b_lo b_hi).ok (Sky.mk s_w s_h s_lv (s_pts.map unPt) (s_aws.map unAw) (s_secs.map unSec) (s_rws.map unRw)).w (Sky.mk s_w s_h s_lv (s_pts.map unPt) (s_aws.map unAw) (s_secs.map unSec) (s_rws.map unRw)).h (Sky.mk s_w s_h s_lv (s_pts.map unPt) (s_aws.map unAw) (s_secs.map unSec) (s_rws.map unRw)).lv)))
  | _ => none
theorem h_iBlock : ∀ args p v, t_iBlock args = some (p, v) → p → Contract P 77 args [] v [] ∧ noref v = true ∧ No99 v := by
  intro args p v h1 h2
  unfold t_iBlock at h1
  split at h1
  · rename_i s_w s_h s_lv s_pts s_aws s_secs s_rws b_x0 b_y0 b_x1 b_y1 b_lo b_hi
    cases h1
    obtain ⟨⟨e0, e1, e2, e3⟩, HP⟩ := h2
    have := c_iBlock (Sky.mk s_w s_h s_lv (s_pts.map unPt) (s_aws.map unAw) (s_secs.map unSec) (s_rws.map unRw)) (Blk.mk b_x0 b_y0 b_x1 b_y1 b_lo b_hi)
    exact ⟨by simpa only [e0, e1, e2, e3, Sky.row, Blk.row] using this, rfl, trivial⟩
  · cases h1
theorem c_iLess (a b : Blk) : Contract P 78 [.agg a.row, .agg b.row] [] (.bool (decide (a.less b))) [] := by
  simp only [Blk.row]
  refine fn_sound (Env.nil P) hm k_impl_blockLess (Nat.le_of_ble_eq_true rfl) rfl ?_; unfold s_impl_blockLess; simp (config := { maxSteps := 2000000 }) only [bitvec_to_nat, reduceIte, Nat.reduceEqDiff, Nat.reduceAdd, Nat.reduceLeDiff, reduceCtorEq, Nat.reduceBEq, Nat.reduceLT, List.forall_mem_cons, tk_map, dp_map, toNat_pred, appE, rowsOf, List.take_length, List.length_cons, List.length_nil, Nat.zero_add, srow, irow, un_s, un_i, Zone.row, Zone_eta, un_Zone, Pt.row, Pt_eta, un_Pt, Aw.row, Aw_eta, un_Aw, Blk.row, Blk_eta, un_Blk, Sec.row, Sec_eta, un_Sec, Rw.row, Rw_eta, un_Rw, Sky_eta]
  repeat' (first | with_reducible apply And.intro | with_reducible intro _)
  all_goals first | omega | grind [Blk.less]
def t_iLess : List AV → Option (Prop × AV)
  | [.agg [.int .i64 a_x0, .int .i64 a_y0, .int .i64 a_x1, .int .i64 a_y1, .int .i64 a_lo, .int .i64 a_hi], .agg [.int .i64 b_x0, .int .i64 b_y0, .int .i64 b_x1, .int .i64 b_y1, .int .i64 b_lo, .int .i64 b_hi]] => some ((True) ∧ (True), .bool (decide ((Blk.mk a_x0 a_y0 a_x1 a_y1 a_lo a_hi).less (Blk.mk b_x0 b_y0 b_x1 b_y1 b_lo b_hi))))
  | _ => none
theorem h_iLess : ∀ args p v, t_iLess args = some (p, v) → p → Contract P 78 args [] v [] ∧ noref v = true ∧ No99 v := by
  intro args p v h1 h2
  unfold t_iLess at h1
  split at h1
  · rename_i a_x0 a_y0 a_x1 a_y1 a_lo a_hi b_x0 b_y0 b_x1 b_y1 b_lo b_hi
    cases h1
    obtain ⟨_, HP⟩ := h2
    have := c_iLess (Blk.mk a_x0 a_y0 a_x1 a_y1 a_lo a_hi) (Blk.mk b_x0 b_y0 b_x1 b_y1 b_lo b_hi)
    exact ⟨by simpa only [Blk.row, Blk.row] using this, rfl, trivial⟩
  · cases h1
theorem c_iMeets (a b : Blk) : Contract P 79 [.agg a.row, .agg b.row] [] (.bool (decide (a.meet b))) [] := by
  simp only [Blk.row]
  refine fn_sound (Env.nil P) hm k_impl_meets (Nat.le_of_ble_eq_true rfl) rfl ?_; unfold s_impl_meets; simp (config := { maxSteps := 2000000 }) only [bitvec_to_nat, reduceIte, Nat.reduceEqDiff, Nat.reduceAdd, Nat.reduceLeDiff, reduceCtorEq, Nat.reduceBEq, Nat.reduceLT, List.forall_mem_cons, tk_map, dp_map, toNat_pred, appE, rowsOf, List.take_length, List.length_cons, List.length_nil, Nat.zero_add, srow, irow, un_s, un_i, Zone.row, Zone_eta, un_Zone, Pt.row, Pt_eta, un_Pt, Aw.row, Aw_eta, un_Aw, Blk.row, Blk_eta, un_Blk, Sec.row, Sec_eta, un_Sec, Rw.row, Rw_eta, un_Rw, Sky_eta]
  repeat' (first | with_reducible apply And.intro | with_reducible intro _)
  all_goals first | omega | grind [Blk.meet]
def t_iMeets : List AV → Option (Prop × AV)
  | [.agg [.int .i64 a_x0, .int .i64 a_y0, .int .i64 a_x1, .int .i64 a_y1, .int .i64 a_lo, .int .i64 a_hi], .agg [.int .i64 b_x0, .int .i64 b_y0, .int .i64 b_x1, .int .i64 b_y1, .int .i64 b_lo, .int .i64 b_hi]] => some ((True) ∧ (True), .bool (decide ((Blk.mk a_x0 a_y0 a_x1 a_y1 a_lo a_hi).meet (Blk.mk b_x0 b_y0 b_x1 b_y1 b_lo b_hi))))
  | _ => none
theorem h_iMeets : ∀ args p v, t_iMeets args = some (p, v) → p → Contract P 79 args [] v [] ∧ noref v = true ∧ No99 v := by
  intro args p v h1 h2
  unfold t_iMeets at h1
  split at h1
  · rename_i a_x0 a_y0 a_x1 a_y1 a_lo a_hi b_x0 b_y0 b_x1 b_y1 b_lo b_hi
    cases h1
    obtain ⟨_, HP⟩ := h2
    have := c_iMeets (Blk.mk a_x0 a_y0 a_x1 a_y1 a_lo a_hi) (Blk.mk b_x0 b_y0 b_x1 b_y1 b_lo b_hi)
    exact ⟨by simpa only [Blk.row, Blk.row] using this, rfl, trivial⟩
  · cases h1
theorem c_places (b : Blk) (w h lv : Int) (hd : dims w h lv) (hb : b.ok w h lv) : Contract P 80 [.agg b.row] [] (.int .i64 b.vol) [] := by
  have ho := vol_bd hd hb
  unfold Blk.vol at ho ⊢
  simp only [Blk.row]
  refine fn_sound (Env.nil P) hm k_impl_SkyBlock_places (Nat.le_of_ble_eq_true rfl) rfl ?_; unfold s_impl_SkyBlock_places; simp (config := { maxSteps := 2000000 }) only [bitvec_to_nat, reduceIte, Nat.reduceEqDiff, Nat.reduceAdd, Nat.reduceLeDiff, reduceCtorEq, Nat.reduceBEq, Nat.reduceLT, List.forall_mem_cons, tk_map, dp_map, toNat_pred, appE, rowsOf, List.take_length, List.length_cons, List.length_nil, Nat.zero_add, srow, irow, un_s, un_i, Zone.row, Zone_eta, un_Zone, Pt.row, Pt_eta, un_Pt, Aw.row, Aw_eta, un_Aw, Blk.row, Blk_eta, un_Blk, Sec.row, Sec_eta, un_Sec, Rw.row, Rw_eta, un_Rw, Sky_eta]
  exact ⟨by omega, by omega, by omega, by omega, by omega, by omega, by omega, by omega⟩
def t_places : List AV → Option (Prop × AV)
  | [.agg [.int .i64 b_x0, .int .i64 b_y0, .int .i64 b_x1, .int .i64 b_y1, .int .i64 b_lo, .int .i64 b_hi]] => some ((True) ∧ (∃ w h lv, dims w h lv ∧ Blk.ok w h lv (Blk.mk b_x0 b_y0 b_x1 b_y1 b_lo b_hi)), .int .i64 (Blk.vol (Blk.mk b_x0 b_y0 b_x1 b_y1 b_lo b_hi)))
  | _ => none
theorem h_places : ∀ args p v, t_places args = some (p, v) → p → Contract P 80 args [] v [] ∧ noref v = true ∧ No99 v := by
  intro args p v h1 h2
  unfold t_places at h1
  split at h1
  · rename_i b_x0 b_y0 b_x1 b_y1 b_lo b_hi
    cases h1
    obtain ⟨_, HP⟩ := h2
    have := c_places (Blk.mk b_x0 b_y0 b_x1 b_y1 b_lo b_hi) _ _ _ HP.choose_spec.choose_spec.choose_spec.1 HP.choose_spec.choose_spec.choose_spec.2
    exact ⟨by simpa only [Blk.row] using this, rfl, trivial⟩
  · cases h1
theorem turn_drop {t : Int} (h : 1 ≤ t ∧ t ≤ 8) : ∃ rest, List.drop (t.toNat * 2) turnCells = .int .i64 (dX t) :: .int .i64 (dY t) :: rest := by
  have hc : t = 1 ∨ t = 2 ∨ t = 3 ∨ t = 4 ∨ t = 5 ∨ t = 6 ∨ t = 7 ∨ t = 8 := by omega
  rcases hc with rfl | rfl | rfl | rfl | rfl | rfl | rfl | rfl <;> exact ⟨_, rfl⟩
theorem c_runway (s : Sky) (r : Rw) (hd : dims s.w s.h s.lv) : Contract P 81 [.agg (s.row 0), .agg r.row] [] (.bool (decide (r.ok s.w s.h))) [] := by
  obtain ⟨nm, x, y, tn⟩ := r
  have hx := dX_bd tn
  have hy := dY_bd tn
  by_cases ht : 1 ≤ tn ∧ tn ≤ 8
  · obtain ⟨rest, e⟩ := turn_drop ht
    simp only [Sky.row, Rw.row]
    refine fn_sound (((Env.nil P).add 74 t_within h_within).add 76 t_iCell h_iCell) hm k_impl_Sky_runway (Nat.le_of_ble_eq_true rfl) rfl ?_; unfold s_impl_Sky_runway; simp (config := { maxSteps := 2000000 }) only [bitvec_to_nat, reduceIte, Nat.reduceEqDiff, Nat.reduceAdd, Nat.reduceLeDiff, reduceCtorEq, Nat.reduceBEq, Nat.reduceLT, List.forall_mem_cons, t_within, t_iCell, tk_map, dp_map, toNat_pred, appE, rowsOf, List.take_length, List.length_cons, List.length_nil, Nat.zero_add, srow, irow, un_s, un_i, Zone.row, Zone_eta, un_Zone, Pt.row, Pt_eta, un_Pt, Aw.row, Aw_eta, un_Aw, Blk.row, Blk_eta, un_Blk, Sec.row, Sec_eta, un_Sec, Rw.row, Rw_eta, un_Rw, Sky_eta, gv0, e, ht, Int.toNat_one, Nat.mul_one, Nat.zero_mul, not_true_eq_false, not_false_eq_true]
    repeat' (first | with_reducible apply And.intro | with_reducible intro _)
    all_goals first | omega | exact hd | (simp only [List.length_cons]; omega) | grind [Rw.ok, inSky, dims]
  · have e : True := trivial
    simp only [Sky.row, Rw.row]
    refine fn_sound (((Env.nil P).add 74 t_within h_within).add 76 t_iCell h_iCell) hm k_impl_Sky_runway (Nat.le_of_ble_eq_true rfl) rfl ?_; unfold s_impl_Sky_runway; simp (config := { maxSteps := 2000000 }) only [bitvec_to_nat, reduceIte, Nat.reduceEqDiff, Nat.reduceAdd, Nat.reduceLeDiff, reduceCtorEq, Nat.reduceBEq, Nat.reduceLT, List.forall_mem_cons, t_within, t_iCell, tk_map, dp_map, toNat_pred, appE, rowsOf, List.take_length, List.length_cons, List.length_nil, Nat.zero_add, srow, irow, un_s, un_i, Zone.row, Zone_eta, un_Zone, Pt.row, Pt_eta, un_Pt, Aw.row, Aw_eta, un_Aw, Blk.row, Blk_eta, un_Blk, Sec.row, Sec_eta, un_Sec, Rw.row, Rw_eta, un_Rw, Sky_eta, gv0, e, ht, Int.toNat_one, Nat.mul_one, Nat.zero_mul, not_true_eq_false, not_false_eq_true]
    repeat' (first | with_reducible apply And.intro | with_reducible intro _)
    all_goals first | omega | grind [Rw.ok]
def t_runway : List AV → Option (Prop × AV)
  | [.agg [.int .i64 s_w, .int .i64 s_h, .int .i64 s_lv, .sl 0 3 s_pts, .sl 0 2 s_aws, .sl 0 2 s_secs, .sl 0 4 s_rws], .agg [.str r_nm, .int .i64 r_x, .int .i64 r_y, .int .i64 r_tn]] => some ((((s_pts.map unPt).map Pt.row = s_pts) ∧ ((s_aws.map unAw).map (Aw.row 0) = s_aws) ∧ ((s_secs.map unSec).map (Sec.row 0) = s_secs) ∧ ((s_rws.map unRw).map Rw.row = s_rws)) ∧ (dims (Sky.mk s_w s_h s_lv (s_pts.map unPt) (s_aws.map unAw) (s_secs.map unSec) (s_rws.map unRw)).w (Sky.mk s_w s_h s_lv (s_pts.map unPt) (s_aws.map unAw) (s_secs.map unSec) (s_rws.map unRw)).h (Sky.mk s_w s_h s_lv (s_pts.map unPt) (s_aws.map unAw) (s_secs.map unSec) (s_rws.map unRw)).lv), .bool (decide ((Rw.mk r_nm r_x r_y r_tn).ok (Sky.mk s_w s_h s_lv (s_pts.map unPt) (s_aws.map unAw) (s_secs.map unSec) (s_rws.map unRw)).w (Sky.mk s_w s_h s_lv (s_pts.map unPt) (s_aws.map unAw) (s_secs.map unSec) (s_rws.map unRw)).h)))
  | _ => none
theorem h_runway : ∀ args p v, t_runway args = some (p, v) → p → Contract P 81 args [] v [] ∧ noref v = true ∧ No99 v := by
  intro args p v h1 h2
  unfold t_runway at h1
  split at h1
  · rename_i s_w s_h s_lv s_pts s_aws s_secs s_rws r_nm r_x r_y r_tn
    cases h1
    obtain ⟨⟨e0, e1, e2, e3⟩, HP⟩ := h2
    have := c_runway (Sky.mk s_w s_h s_lv (s_pts.map unPt) (s_aws.map unAw) (s_secs.map unSec) (s_rws.map unRw)) (Rw.mk r_nm r_x r_y r_tn) HP
    exact ⟨by simpa only [e0, e1, e2, e3, Sky.row, Rw.row] using this, rfl, trivial⟩
  · cases h1
end
end Go.Ve

namespace Go.Ve
noncomputable section
open Go.Proofs
set_option linter.unusedSimpArgs false
set_option linter.unusedVariables false
set_option maxRecDepth 100000
set_option maxHeartbeats 400000 in
theorem pc_impl_SkyValid_0 (s : Sky) {Q : XT → St → Prop}  (hQ : ∀ bv : Bool, (bv = true ↔ ¬ (dims s.w s.h s.lv ∧ s.pts.length ≤ 16 ∧ s.aws.length ≤ 8 ∧ s.secs.length ≤ 6 ∧ s.rws.length ≤ 4)) → Q .normal ⟨[(1, .ptr 101 0), (63, .bool bv)], [(101, .box [.int .i64 s.w, .int .i64 s.h, .int .i64 s.lv, .sl 0 3 (s.pts.map Pt.row), .sl 0 2 (s.aws.map (Aw.row 0)), .sl 0 2 (s.secs.map (Sec.row 0)), .sl 0 4 (s.rws.map Rw.row)])]⟩) : SCode.wp (((((((((Env.nil P).add 74 t_within h_within).add 75 t_isName h_isName).add 76 t_iCell h_iCell).add 77 t_iBlock h_iBlock).add 78 t_iLess h_iLess).add 79 t_iMeets h_iMeets).add 80 t_places h_places).add 81 t_runway h_runway) p_impl_SkyValid_0 Q ⟨[(1, .ptr 101 0)], [(101, .box [.int .i64 s.w, .int .i64 s.h, .int .i64 s.lv, .sl 0 3 (s.pts.map Pt.row), .sl 0 2 (s.aws.map (Aw.row 0)), .sl 0 2 (s.secs.map (Sec.row 0)), .sl 0 4 (s.rws.map Rw.row)])]⟩ := by
  all_goals (unfold p_impl_SkyValid_0; simp (config := { maxSteps := 2000000 }) only [bitvec_to_nat, reduceIte, Nat.reduceEqDiff, Nat.reduceAdd, Nat.reduceLeDiff, reduceCtorEq, Nat.reduceBEq, Nat.reduceLT, List.forall_mem_cons, t_within, t_isName, t_iCell, t_iBlock, t_iLess, t_iMeets, t_places, t_runway, tk_map, dp_map, toNat_pred, appE, rowsOf, List.take_length, List.length_cons, List.length_nil, Nat.zero_add, srow, irow, un_s, un_i, Zone.row, Zone_eta, un_Zone, Pt.row, Pt_eta, un_Pt, Aw.row, Aw_eta, un_Aw, Blk.row, Blk_eta, un_Blk, Sec.row, Sec_eta, un_Sec, Rw.row, Rw_eta, un_Rw, Sky_eta, lookE, msetE, find_str, find_cell, keyP_str, keyP_cell, put_str, put_cell])
  repeat' (first | with_reducible apply And.intro | with_reducible intro _)
  all_goals first
    | omega
    | (refine hQ _ ?_
       first
         | grind [dims]
         | (simp; grind [dims]))
    | grind [dims]
set_option maxHeartbeats 400000 in
theorem pc_impl_SkyValid_1 (s : Sky) (i : Nat) (cl : List (Int × Int)) {e1 : List (AV × AV)} {w67 : AV} {w68 : AV} {w69 : AV} {Q : XT → St → Prop} (hi : i < s.pts.length) (hl : s.pts.length ≤ 1048576) (hd : dims s.w s.h s.lv) (hQ : ∀ bv : Bool, (bv = true ↔ ¬ (nameOk (s.pts.getD i default).nm ∧ (0 < i → slt (s.pts.getD (i - 1) default).nm (s.pts.getD i default).nm) ∧ inSky s.w s.h (s.pts.getD i default).x (s.pts.getD i default).y ∧ ¬ isIn ((s.pts.getD i default).x, (s.pts.getD i default).y) cl)) → Q .normal ⟨[(1, .ptr 101 0), (3, .ptr 164 0), (4, .ptr 165 0), (6, .ptr 106 0), (7, .ptr 107 0), (67, w67), (68, w68), (69, w69), (112, .bool bv)], [(101, .box [.int .i64 s.w, .int .i64 s.h, .int .i64 s.lv, .sl 0 3 (s.pts.map Pt.row), .sl 0 2 (s.aws.map (Aw.row 0)), .sl 0 2 (s.secs.map (Sec.row 0)), .sl 0 4 (s.rws.map Rw.row)]), (164, .mp 0 e1), (165, .mp 2 (setOf cellKey cl)), (106, .box [.str (s.pts.getD i default).nm, .int .i64 (s.pts.getD i default).x, .int .i64 (s.pts.getD i default).y]), (107, .box [.int .i64 (s.pts.getD i default).x, .int .i64 (s.pts.getD i default).y])]⟩) : SCode.wp (((((((((Env.nil P).add 74 t_within h_within).add 75 t_isName h_isName).add 76 t_iCell h_iCell).add 77 t_iBlock h_iBlock).add 78 t_iLess h_iLess).add 79 t_iMeets h_iMeets).add 80 t_places h_places).add 81 t_runway h_runway) p_impl_SkyValid_1 Q ⟨[(1, .ptr 101 0), (3, .ptr 164 0), (4, .ptr 165 0), (5, .int .i64 i), (6, .ptr 106 0), (7, .ptr 107 0), (67, w67), (68, w68), (69, w69)], [(101, .box [.int .i64 s.w, .int .i64 s.h, .int .i64 s.lv, .sl 0 3 (s.pts.map Pt.row), .sl 0 2 (s.aws.map (Aw.row 0)), .sl 0 2 (s.secs.map (Sec.row 0)), .sl 0 4 (s.rws.map Rw.row)]), (164, .mp 0 e1), (165, .mp 2 (setOf cellKey cl)), (106, .box [.str (s.pts.getD i default).nm, .int .i64 (s.pts.getD i default).x, .int .i64 (s.pts.getD i default).y]), (107, .box [.int .i64 (s.pts.getD i default).x, .int .i64 (s.pts.getD i default).y])]⟩ := by
  all_goals (unfold p_impl_SkyValid_1; simp (config := { maxSteps := 2000000 }) only [bitvec_to_nat, reduceIte, Nat.reduceEqDiff, Nat.reduceAdd, Nat.reduceLeDiff, reduceCtorEq, Nat.reduceBEq, Nat.reduceLT, List.forall_mem_cons, t_within, t_isName, t_iCell, t_iBlock, t_iLess, t_iMeets, t_places, t_runway, tk_map, dp_map, toNat_pred, appE, rowsOf, List.take_length, List.length_cons, List.length_nil, Nat.zero_add, srow, irow, un_s, un_i, Zone.row, Zone_eta, un_Zone, Pt.row, Pt_eta, un_Pt, Aw.row, Aw_eta, un_Aw, Blk.row, Blk_eta, un_Blk, Sec.row, Sec_eta, un_Sec, Rw.row, Rw_eta, un_Rw, Sky_eta, lookE, msetE, find_str, find_cell, keyP_str, keyP_cell, put_str, put_cell])
  repeat' (first | with_reducible apply And.intro | with_reducible intro _)
  all_goals first
    | omega
    | (refine hQ _ ?_
       first
         | grind [inSky, dims]
         | (simp; grind [inSky, dims]))
    | grind [inSky, dims]
set_option maxHeartbeats 400000 in
theorem pc_impl_SkyValid_2 (s : Sky) (i : Nat) {e1 e2 : List (AV × AV)} {w120 : AV} {w121 : AV} {w122 : AV} {Q : XT → St → Prop} (hi : i < s.aws.length) (hl : s.aws.length ≤ 1048576) (hQ : ∀ bv : Bool, (bv = true ↔ ¬ (nameOk (s.aws.getD i default).nm ∧ (0 < i → slt (s.aws.getD (i - 1) default).nm (s.aws.getD i default).nm) ∧ 2 ≤ (s.aws.getD i default).pts.length ∧ (s.aws.getD i default).pts.length ≤ 8)) → Q .normal ⟨[(1, .ptr 101 0), (3, .ptr 164 0), (9, .ptr 109 0), (120, w120), (121, w121), (122, w122), (153, .bool bv)], [(101, .box [.int .i64 s.w, .int .i64 s.h, .int .i64 s.lv, .sl 0 3 (s.pts.map Pt.row), .sl 0 2 (s.aws.map (Aw.row 0)), .sl 0 2 (s.secs.map (Sec.row 0)), .sl 0 4 (s.rws.map Rw.row)]), (164, .mp 0 e1), (165, .mp 2 e2), (109, .box [.str (s.aws.getD i default).nm, .sl 0 1 ((s.aws.getD i default).pts.map srow)])]⟩) : SCode.wp (((((((((Env.nil P).add 74 t_within h_within).add 75 t_isName h_isName).add 76 t_iCell h_iCell).add 77 t_iBlock h_iBlock).add 78 t_iLess h_iLess).add 79 t_iMeets h_iMeets).add 80 t_places h_places).add 81 t_runway h_runway) p_impl_SkyValid_2 Q ⟨[(1, .ptr 101 0), (3, .ptr 164 0), (8, .int .i64 i), (9, .ptr 109 0), (120, w120), (121, w121), (122, w122)], [(101, .box [.int .i64 s.w, .int .i64 s.h, .int .i64 s.lv, .sl 0 3 (s.pts.map Pt.row), .sl 0 2 (s.aws.map (Aw.row 0)), .sl 0 2 (s.secs.map (Sec.row 0)), .sl 0 4 (s.rws.map Rw.row)]), (164, .mp 0 e1), (165, .mp 2 e2), (109, .box [.str (s.aws.getD i default).nm, .sl 0 1 ((s.aws.getD i default).pts.map srow)])]⟩ := by
  all_goals (unfold p_impl_SkyValid_2; simp (config := { maxSteps := 2000000 }) only [bitvec_to_nat, reduceIte, Nat.reduceEqDiff, Nat.reduceAdd, Nat.reduceLeDiff, reduceCtorEq, Nat.reduceBEq, Nat.reduceLT, List.forall_mem_cons, t_within, t_isName, t_iCell, t_iBlock, t_iLess, t_iMeets, t_places, t_runway, tk_map, dp_map, toNat_pred, appE, rowsOf, List.take_length, List.length_cons, List.length_nil, Nat.zero_add, srow, irow, un_s, un_i, Zone.row, Zone_eta, un_Zone, Pt.row, Pt_eta, un_Pt, Aw.row, Aw_eta, un_Aw, Blk.row, Blk_eta, un_Blk, Sec.row, Sec_eta, un_Sec, Rw.row, Rw_eta, un_Rw, Sky_eta, lookE, msetE, find_str, find_cell, keyP_str, keyP_cell, put_str, put_cell])
  repeat' (first | with_reducible apply And.intro | with_reducible intro _)
  all_goals first
    | omega
    | (refine hQ _ ?_
       first
         | grind []
         | (simp; grind []))
    | grind []
set_option maxHeartbeats 400000 in
theorem pc_impl_SkyValid_3 (s : Sky) (i m : Nat) {rows : List (List AV)} {e1 e2 : List (AV × AV)} {w14 : AV} {w176 : AV} {w177 : AV} {w178 : AV} {Q : XT → St → Prop} (hi : i < s.secs.length) (hl : s.secs.length ≤ 1048576) (hQ : ∀ bv : Bool, (bv = true ↔ ¬ (nameOk (s.secs.getD i default).nm ∧ (0 < i → slt (s.secs.getD (i - 1) default).nm (s.secs.getD i default).nm) ∧ 1 ≤ (s.secs.getD i default).bl.length ∧ (s.secs.getD i default).bl.length ≤ 4)) → Q .normal ⟨[(1, .ptr 101 0), (13, .own 113 m 0 m), (14, w14), (16, .ptr 116 0), (176, w176), (177, w177), (178, w178), (209, .bool bv)], [(101, .box [.int .i64 s.w, .int .i64 s.h, .int .i64 s.lv, .sl 0 3 (s.pts.map Pt.row), .sl 0 2 (s.aws.map (Aw.row 0)), .sl 0 2 (s.secs.map (Sec.row 0)), .sl 0 4 (s.rws.map Rw.row)]), (164, .mp 0 e1), (165, .mp 2 e2), (113, .arr 113 m 6 rows), (116, .box [.str (s.secs.getD i default).nm, .sl 0 6 ((s.secs.getD i default).bl.map Blk.row)])]⟩) : SCode.wp (((((((((Env.nil P).add 74 t_within h_within).add 75 t_isName h_isName).add 76 t_iCell h_iCell).add 77 t_iBlock h_iBlock).add 78 t_iLess h_iLess).add 79 t_iMeets h_iMeets).add 80 t_places h_places).add 81 t_runway h_runway) p_impl_SkyValid_3 Q ⟨[(1, .ptr 101 0), (13, .own 113 m 0 m), (14, w14), (15, .int .i64 i), (16, .ptr 116 0), (176, w176), (177, w177), (178, w178)], [(101, .box [.int .i64 s.w, .int .i64 s.h, .int .i64 s.lv, .sl 0 3 (s.pts.map Pt.row), .sl 0 2 (s.aws.map (Aw.row 0)), .sl 0 2 (s.secs.map (Sec.row 0)), .sl 0 4 (s.rws.map Rw.row)]), (164, .mp 0 e1), (165, .mp 2 e2), (113, .arr 113 m 6 rows), (116, .box [.str (s.secs.getD i default).nm, .sl 0 6 ((s.secs.getD i default).bl.map Blk.row)])]⟩ := by
  all_goals (unfold p_impl_SkyValid_3; simp (config := { maxSteps := 2000000 }) only [bitvec_to_nat, reduceIte, Nat.reduceEqDiff, Nat.reduceAdd, Nat.reduceLeDiff, reduceCtorEq, Nat.reduceBEq, Nat.reduceLT, List.forall_mem_cons, t_within, t_isName, t_iCell, t_iBlock, t_iLess, t_iMeets, t_places, t_runway, tk_map, dp_map, toNat_pred, appE, rowsOf, List.take_length, List.length_cons, List.length_nil, Nat.zero_add, srow, irow, un_s, un_i, Zone.row, Zone_eta, un_Zone, Pt.row, Pt_eta, un_Pt, Aw.row, Aw_eta, un_Aw, Blk.row, Blk_eta, un_Blk, Sec.row, Sec_eta, un_Sec, Rw.row, Rw_eta, un_Rw, Sky_eta, lookE, msetE, find_str, find_cell, keyP_str, keyP_cell, put_str, put_cell])
  repeat' (first | with_reducible apply And.intro | with_reducible intro _)
  all_goals first
    | omega
    | (refine hQ _ ?_
       first
         | grind []
         | (simp; grind []))
    | grind []
set_option maxHeartbeats 400000 in
theorem pc_impl_SkyValid_4 (s : Sky) (i k m : Nat) {rows : List (List AV)} {e1 e2 : List (AV × AV)} {w14 : AV} {w176 : AV} {w177 : AV} {w178 : AV} {w211 : AV} {w212 : AV} {w213 : AV} {Q : XT → St → Prop} (hk : k < (s.secs.getD i default).bl.length) (hl : (s.secs.getD i default).bl.length ≤ 1048576) (hQ : ∀ bv : Bool, (bv = true ↔ ¬ blkAt s.w s.h s.lv (s.secs.getD i default).bl k) → Q .normal ⟨[(1, .ptr 101 0), (13, .own 113 m 0 m), (14, w14), (16, .ptr 116 0), (18, .ptr 118 0), (176, w176), (177, w177), (178, w178), (211, w211), (212, w212), (213, w213), (236, .bool bv)], [(101, .box [.int .i64 s.w, .int .i64 s.h, .int .i64 s.lv, .sl 0 3 (s.pts.map Pt.row), .sl 0 2 (s.aws.map (Aw.row 0)), .sl 0 2 (s.secs.map (Sec.row 0)), .sl 0 4 (s.rws.map Rw.row)]), (164, .mp 0 e1), (165, .mp 2 e2), (113, .arr 113 m 6 rows), (116, .box [.str (s.secs.getD i default).nm, .sl 0 6 ((s.secs.getD i default).bl.map Blk.row)]), (118, .box [.int .i64 ((s.secs.getD i default).bl.getD k default).x0, .int .i64 ((s.secs.getD i default).bl.getD k default).y0, .int .i64 ((s.secs.getD i default).bl.getD k default).x1, .int .i64 ((s.secs.getD i default).bl.getD k default).y1, .int .i64 ((s.secs.getD i default).bl.getD k default).lo, .int .i64 ((s.secs.getD i default).bl.getD k default).hi])]⟩) : SCode.wp (((((((((Env.nil P).add 74 t_within h_within).add 75 t_isName h_isName).add 76 t_iCell h_iCell).add 77 t_iBlock h_iBlock).add 78 t_iLess h_iLess).add 79 t_iMeets h_iMeets).add 80 t_places h_places).add 81 t_runway h_runway) p_impl_SkyValid_4 Q ⟨[(1, .ptr 101 0), (13, .own 113 m 0 m), (14, w14), (16, .ptr 116 0), (17, .int .i64 k), (18, .ptr 118 0), (176, w176), (177, w177), (178, w178), (211, w211), (212, w212), (213, w213)], [(101, .box [.int .i64 s.w, .int .i64 s.h, .int .i64 s.lv, .sl 0 3 (s.pts.map Pt.row), .sl 0 2 (s.aws.map (Aw.row 0)), .sl 0 2 (s.secs.map (Sec.row 0)), .sl 0 4 (s.rws.map Rw.row)]), (164, .mp 0 e1), (165, .mp 2 e2), (113, .arr 113 m 6 rows), (116, .box [.str (s.secs.getD i default).nm, .sl 0 6 ((s.secs.getD i default).bl.map Blk.row)]), (118, .box [.int .i64 ((s.secs.getD i default).bl.getD k default).x0, .int .i64 ((s.secs.getD i default).bl.getD k default).y0, .int .i64 ((s.secs.getD i default).bl.getD k default).x1, .int .i64 ((s.secs.getD i default).bl.getD k default).y1, .int .i64 ((s.secs.getD i default).bl.getD k default).lo, .int .i64 ((s.secs.getD i default).bl.getD k default).hi])]⟩ := by
  all_goals (unfold p_impl_SkyValid_4; simp (config := { maxSteps := 2000000 }) only [bitvec_to_nat, reduceIte, Nat.reduceEqDiff, Nat.reduceAdd, Nat.reduceLeDiff, reduceCtorEq, Nat.reduceBEq, Nat.reduceLT, List.forall_mem_cons, t_within, t_isName, t_iCell, t_iBlock, t_iLess, t_iMeets, t_places, t_runway, tk_map, dp_map, toNat_pred, appE, rowsOf, List.take_length, List.length_cons, List.length_nil, Nat.zero_add, srow, irow, un_s, un_i, Zone.row, Zone_eta, un_Zone, Pt.row, Pt_eta, un_Pt, Aw.row, Aw_eta, un_Aw, Blk.row, Blk_eta, un_Blk, Sec.row, Sec_eta, un_Sec, Rw.row, Rw_eta, un_Rw, Sky_eta, lookE, msetE, find_str, find_cell, keyP_str, keyP_cell, put_str, put_cell])
  repeat' (first | with_reducible apply And.intro | with_reducible intro _)
  all_goals first
    | omega
    | (refine hQ _ ?_
       first
         | grind [blkAt]
         | (simp; grind [blkAt]))
    | grind [blkAt]
set_option maxHeartbeats 400000 in
theorem pc_impl_SkyValid_5 (s : Sky) (n : Int) (m : Nat) {rows : List (List AV)} {e1 e2 : List (AV × AV)} {w13 : AV} {w176 : AV} {w177 : AV} {w178 : AV} {w179 : AV} {Q : XT → St → Prop} (hm : (1 ≤ s.w * s.h ∧ s.w * s.h ≤ 256) ∧ 1 ≤ s.w * s.h * s.lv ∧ s.w * s.h * s.lv ≤ 1536) (hQ : ∀ bv : Bool, (bv = true ↔ ¬ (n = s.w * s.h * s.lv)) → Q .normal ⟨[(1, .ptr 101 0), (266, .bool bv)], [(101, .box [.int .i64 s.w, .int .i64 s.h, .int .i64 s.lv, .sl 0 3 (s.pts.map Pt.row), .sl 0 2 (s.aws.map (Aw.row 0)), .sl 0 2 (s.secs.map (Sec.row 0)), .sl 0 4 (s.rws.map Rw.row)]), (164, .mp 0 e1), (165, .mp 2 e2), (113, .arr 113 m 6 rows)]⟩) : SCode.wp (((((((((Env.nil P).add 74 t_within h_within).add 75 t_isName h_isName).add 76 t_iCell h_iCell).add 77 t_iBlock h_iBlock).add 78 t_iLess h_iLess).add 79 t_iMeets h_iMeets).add 80 t_places h_places).add 81 t_runway h_runway) p_impl_SkyValid_5 Q ⟨[(1, .ptr 101 0), (13, w13), (14, .int .i64 n), (176, w176), (177, w177), (178, w178), (179, w179)], [(101, .box [.int .i64 s.w, .int .i64 s.h, .int .i64 s.lv, .sl 0 3 (s.pts.map Pt.row), .sl 0 2 (s.aws.map (Aw.row 0)), .sl 0 2 (s.secs.map (Sec.row 0)), .sl 0 4 (s.rws.map Rw.row)]), (164, .mp 0 e1), (165, .mp 2 e2), (113, .arr 113 m 6 rows)]⟩ := by
  all_goals (unfold p_impl_SkyValid_5; simp (config := { maxSteps := 2000000 }) only [bitvec_to_nat, reduceIte, Nat.reduceEqDiff, Nat.reduceAdd, Nat.reduceLeDiff, reduceCtorEq, Nat.reduceBEq, Nat.reduceLT, List.forall_mem_cons, t_within, t_isName, t_iCell, t_iBlock, t_iLess, t_iMeets, t_places, t_runway, tk_map, dp_map, toNat_pred, appE, rowsOf, List.take_length, List.length_cons, List.length_nil, Nat.zero_add, srow, irow, un_s, un_i, Zone.row, Zone_eta, un_Zone, Pt.row, Pt_eta, un_Pt, Aw.row, Aw_eta, un_Aw, Blk.row, Blk_eta, un_Blk, Sec.row, Sec_eta, un_Sec, Rw.row, Rw_eta, un_Rw, Sky_eta, lookE, msetE, find_str, find_cell, keyP_str, keyP_cell, put_str, put_cell])
  repeat' (first | with_reducible apply And.intro | with_reducible intro _)
  all_goals first
    | omega
    | (refine hQ _ ?_
       first
         | grind []
         | (simp; grind []))
    | grind []
set_option maxHeartbeats 400000 in
theorem pc_impl_SkyValid_6 (s : Sky) (i m : Nat) (cl : List (Int × Int)) {rows : List (List AV)} {e1 e2 : List (AV × AV)} {w269 : AV} {w270 : AV} {w271 : AV} {Q : XT → St → Prop} (hi : i < s.rws.length) (hl : s.rws.length ≤ 1048576) (hd : dims s.w s.h s.lv) (hQ : ∀ bv : Bool, (bv = true ↔ ¬ (nameOk (s.rws.getD i default).nm ∧ (0 < i → slt (s.rws.getD (i - 1) default).nm (s.rws.getD i default).nm) ∧ (s.rws.getD i default).ok s.w s.h ∧ ¬ isIn ((s.rws.getD i default).x, (s.rws.getD i default).y) cl)) → Q .normal ⟨[(1, .ptr 101 0), (4, .ptr 367 0), (23, .ptr 123 0), (269, w269), (270, w270), (271, w271), (311, .bool bv)], [(101, .box [.int .i64 s.w, .int .i64 s.h, .int .i64 s.lv, .sl 0 3 (s.pts.map Pt.row), .sl 0 2 (s.aws.map (Aw.row 0)), .sl 0 2 (s.secs.map (Sec.row 0)), .sl 0 4 (s.rws.map Rw.row)]), (164, .mp 0 e1), (165, .mp 2 e2), (113, .arr 113 m 6 rows), (367, .mp 2 (setOf cellKey cl)), (122, .box [.str (s.rws.getD i default).nm, .int .i64 (s.rws.getD i default).x, .int .i64 (s.rws.getD i default).y, .int .i64 (s.rws.getD i default).tn]), (123, .box [.int .i64 (s.rws.getD i default).x, .int .i64 (s.rws.getD i default).y])]⟩) : SCode.wp (((((((((Env.nil P).add 74 t_within h_within).add 75 t_isName h_isName).add 76 t_iCell h_iCell).add 77 t_iBlock h_iBlock).add 78 t_iLess h_iLess).add 79 t_iMeets h_iMeets).add 80 t_places h_places).add 81 t_runway h_runway) p_impl_SkyValid_6 Q ⟨[(1, .ptr 101 0), (4, .ptr 367 0), (21, .int .i64 i), (22, .ptr 122 0), (23, .ptr 123 0), (269, w269), (270, w270), (271, w271)], [(101, .box [.int .i64 s.w, .int .i64 s.h, .int .i64 s.lv, .sl 0 3 (s.pts.map Pt.row), .sl 0 2 (s.aws.map (Aw.row 0)), .sl 0 2 (s.secs.map (Sec.row 0)), .sl 0 4 (s.rws.map Rw.row)]), (164, .mp 0 e1), (165, .mp 2 e2), (113, .arr 113 m 6 rows), (367, .mp 2 (setOf cellKey cl)), (122, .box [.str (s.rws.getD i default).nm, .int .i64 (s.rws.getD i default).x, .int .i64 (s.rws.getD i default).y, .int .i64 (s.rws.getD i default).tn]), (123, .box [.int .i64 (s.rws.getD i default).x, .int .i64 (s.rws.getD i default).y])]⟩ := by
  all_goals (unfold p_impl_SkyValid_6; simp (config := { maxSteps := 2000000 }) only [bitvec_to_nat, reduceIte, Nat.reduceEqDiff, Nat.reduceAdd, Nat.reduceLeDiff, reduceCtorEq, Nat.reduceBEq, Nat.reduceLT, List.forall_mem_cons, t_within, t_isName, t_iCell, t_iBlock, t_iLess, t_iMeets, t_places, t_runway, tk_map, dp_map, toNat_pred, appE, rowsOf, List.take_length, List.length_cons, List.length_nil, Nat.zero_add, srow, irow, un_s, un_i, Zone.row, Zone_eta, un_Zone, Pt.row, Pt_eta, un_Pt, Aw.row, Aw_eta, un_Aw, Blk.row, Blk_eta, un_Blk, Sec.row, Sec_eta, un_Sec, Rw.row, Rw_eta, un_Rw, Sky_eta, lookE, msetE, find_str, find_cell, keyP_str, keyP_cell, put_str, put_cell])
  repeat' (first | with_reducible apply And.intro | with_reducible intro _)
  all_goals first
    | omega
    | (refine hQ _ ?_
       first
         | grind [Rw.ok, inSky, dims]
         | (simp; grind [Rw.ok, inSky, dims]))
    | grind [Rw.ok, inSky, dims]
theorem isIn_nm {l : List Pt} {q : ByteArray} : isIn q (l.map (·.nm)) ↔ 0 ≤ pIdx l q := by
  unfold isIn pIdx
  rw [fIdx_ge]
  constructor
  · intro h
    have h : q ∈ (l.take l.length).map (·.nm) := by rw [List.take_length]; exact h
    obtain ⟨k, hk, e⟩ := (mem_take_map (Nat.le_refl _)).1 h
    exact ⟨k, hk, by simpa using e⟩
  · rintro ⟨k, hk, e⟩
    have := (mem_take_map (f := (·.nm)) (l := l) (Nat.le_refl _) (q := q)).2 ⟨k, hk, by simpa using e⟩
    rwa [List.take_length] at this
theorem isIn_take {l : List ByteArray} {i : Nat} (hi : i ≤ l.length) {q : ByteArray} : isIn q (l.take i) ↔ ∃ k, k < i ∧ l.getD k default = q := by
  have := mem_take_map (f := fun x : ByteArray => x) hi (q := q)
  rwa [List.map_id'] at this
theorem isIn_cell {α : Type} [Inhabited α] {f : α → Int × Int} {l : List α} {i : Nat} (hi : i ≤ l.length) {q : Int × Int} : isIn q ((l.take i).map f) ↔ ∃ k, k < i ∧ f (l.getD k default) = q := mem_take_map hi
theorem take_snoc {α : Type} [Inhabited α] {l : List α} {i : Nat} (hi : i < l.length) : l.take (i + 1) = l.take i ++ [l.getD i default] := by
  have e : l.getD i default = l[i] := by simp [hi]
  rw [e, List.take_succ_eq_append_getElem hi]
end
end Go.Ve

namespace Go.Ve
noncomputable section
open Go.Proofs
set_option linter.unusedSimpArgs false
set_option linter.unusedVariables false
set_option maxRecDepth 100000
def pre (l : List Sec) (i k : Nat) : List Blk := blocks (l.take i) ++ (l.getD i default).bl.take k
theorem pre_zero {l : List Sec} {i : Nat} : pre l i 0 = blocks (l.take i) := by simp [pre]
theorem pre_snoc {l : List Sec} {i k : Nat} (hk : k < (l.getD i default).bl.length) : pre l i (k + 1) = pre l i k ++ [(l.getD i default).bl.getD k default] := by
  unfold pre; rw [take_snoc hk, List.append_assoc]
theorem pre_end {l : List Sec} {i : Nat} (hi : i < l.length) : pre l i (l.getD i default).bl.length = blocks (l.take (i + 1)) := by
  unfold pre; rw [List.take_length, blocks_snoc hi]
theorem pre_sub {l : List Sec} {i k : Nat} (hi : i < l.length) : (pre l i k).Sublist (blocks l) := by
  have h1 : (pre l i k).Sublist (blocks (l.take (i + 1))) := by
    rw [blocks_snoc hi]; exact List.Sublist.append (List.Sublist.refl _) (List.take_sublist _ _)
  have h2 : (blocks (l.take (i + 1))).Sublist (blocks l) := by
    have : blocks l = blocks (l.take (i + 1)) ++ blocks (l.drop (i + 1)) := by
      have h := List.take_append_drop (i + 1) l
      conv => lhs; rw [← h]
      simp only [blocks, List.flatMap_append]
    rw [this]; exact List.sublist_append_left _ _
  exact h1.trans h2
theorem blocks_len' {l : List Sec} : ∀ {i : Nat}, i ≤ l.length → (∀ j, j < i → (l.getD j default).bl.length ≤ 4) → (blocks (l.take i)).length ≤ 4 * i
  | 0, _, _ => by simp [blocks]
  | i + 1, hi, h => by
    rw [blocks_snoc (by omega), List.length_append]
    have := blocks_len' (l := l) (i := i) (by omega) fun j hj => h j (by omega)
    have := h i (by omega); omega
theorem vols_app {l : List Blk} {b : Blk} : vols (l ++ [b]) = vols l + b.vol := by simp [vols]
theorem pre_ok {w h lv : Int} {l : List Sec} {i k : Nat} (hi : i < l.length) (h1 : ∀ j, j < i → secAt w h lv l j) (hk : k ≤ (l.getD i default).bl.length) (h2 : ∀ j, j < k → blkAt w h lv (l.getD i default).bl j) : ∀ b ∈ pre l i k, b.ok w h lv := by
  intro b hb
  unfold pre at hb
  rw [List.mem_append] at hb
  rcases hb with hb | hb
  · simp only [blocks, List.mem_flatMap] at hb
    obtain ⟨x, hx, hb⟩ := hb
    obtain ⟨j, hj, rfl⟩ := List.mem_iff_getElem.1 hx
    rw [List.length_take] at hj
    rw [List.getElem_take] at hb
    obtain ⟨q, hq, rfl⟩ := List.mem_iff_getElem.1 hb
    have := ((h1 j (by omega)).2.2.2 q (by simpa [show j < l.length by omega] using hq)).1
    simpa [show j < l.length by omega, hq] using this
  · obtain ⟨q, hq, rfl⟩ := List.mem_iff_getElem.1 hb
    rw [List.length_take] at hq
    rw [List.getElem_take]
    have := (h2 q (by omega)).1
    rwa [List.getD_eq_getElem?_getD, List.getElem?_eq_getElem (by omega)] at this
def apart (l : List Blk) : Prop := l.Pairwise fun a b => ¬ a.meet b
theorem apart_iff {l : List Blk} : (∀ i, i < l.length → apartAt l i) ↔ apart l := by
  unfold apart apartAt
  rw [List.pairwise_iff_getElem]
  constructor
  · intro h i j hi hj hij
    have := h j hj i hij
    simpa [hi, hj] using this
  · intro h i hi k hk
    have := h k i (by omega) hi hk
    simpa [hi, show k < l.length by omega] using this
theorem apart_snoc {l : List Blk} {b : Blk} : apart (l ++ [b]) ↔ apart l ∧ ∀ k, k < l.length → ¬ (l.getD k default).meet b := by
  unfold apart
  rw [List.pairwise_append]
  constructor
  · rintro ⟨h1, _, h3⟩
    exact ⟨h1, fun k hk => h3 _ (getD_in hk) b (by simp)⟩
  · rintro ⟨h1, h2⟩
    refine ⟨h1, List.pairwise_singleton _ _, fun a ha b' hb' => ?_⟩
    obtain ⟨k, hk, rfl⟩ := List.mem_iff_getElem.1 ha
    have := h2 k hk
    simp only [List.mem_singleton] at hb'
    subst hb'
    simpa [hk] using this
set_option maxHeartbeats 2000000 in
theorem c_iSkyValid (s : Sky) (hs : s.small) (hf : s.fitp) : Contract P 15 [.agg (s.row 0)] [] (.bool (decide s.valid)) [] := by
  have hs1 := hs.1; have hs2 := hs.2.1.1; have hs3 := hs.2.2.1.1; have hs4 := hs.2.2.2
  simp only [Sky.row]
  refine fn_sound (((((((((Env.nil P).add 74 t_within h_within).add 75 t_isName h_isName).add 76 t_iCell h_iCell).add 77 t_iBlock h_iBlock).add 78 t_iLess h_iLess).add 79 t_iMeets h_iMeets).add 80 t_places h_places).add 81 t_runway h_runway) hm k_impl_SkyValid (Nat.le_of_ble_eq_true rfl) rfl ?_; unfold s_impl_SkyValid; simp (config := { maxSteps := 2000000 }) only [bitvec_to_nat, reduceIte, Nat.reduceEqDiff, Nat.reduceAdd, Nat.reduceLeDiff, reduceCtorEq, Nat.reduceBEq, Nat.reduceLT, List.forall_mem_cons, t_within, t_isName, t_iCell, t_iBlock, t_iLess, t_iMeets, t_places, t_runway, tk_map, dp_map, toNat_pred, appE, rowsOf, List.take_length, List.length_cons, List.length_nil, Nat.zero_add, srow, irow, un_s, un_i, Zone.row, Zone_eta, un_Zone, Pt.row, Pt_eta, un_Pt, Aw.row, Aw_eta, un_Aw, Blk.row, Blk_eta, un_Blk, Sec.row, Sec_eta, un_Sec, Rw.row, Rw_eta, un_Rw, Sky_eta, lookE, msetE, find_str, find_cell, keyP_str, keyP_cell, put_str, put_cell]
  refine pc_impl_SkyValid_0 s fun bv hbv => ?_
  cases bv
  case true =>
    simp (config := { maxSteps := 2000000 }) only [bitvec_to_nat, reduceIte, Nat.reduceEqDiff, Nat.reduceAdd, Nat.reduceLeDiff, reduceCtorEq, Nat.reduceBEq, Nat.reduceLT, List.forall_mem_cons, t_within, t_isName, t_iCell, t_iBlock, t_iLess, t_iMeets, t_places, t_runway, tk_map, dp_map, toNat_pred, appE, rowsOf, List.take_length, List.length_cons, List.length_nil, Nat.zero_add, srow, irow, un_s, un_i, Zone.row, Zone_eta, un_Zone, Pt.row, Pt_eta, un_Pt, Aw.row, Aw_eta, un_Aw, Blk.row, Blk_eta, un_Blk, Sec.row, Sec_eta, un_Sec, Rw.row, Rw_eta, un_Rw, Sky_eta, lookE, msetE, find_str, find_cell, keyP_str, keyP_cell, put_str, put_cell]
    exact fun hv => (hbv.1 rfl) ⟨hv.1, hv.2.1.1, hv.2.2.1.1, hv.2.2.2.1.1, hv.2.2.2.2.2.1⟩
  have o0 := Classical.not_not.1 fun h => Bool.noConfusion (hbv.2 h)
  obtain ⟨hd, l1, l2, l3, l4⟩ := o0
  have hmul := dims_mul hd
  simp (config := { maxSteps := 2000000 }) only [bitvec_to_nat, reduceIte, Nat.reduceEqDiff, Nat.reduceAdd, Nat.reduceLeDiff, reduceCtorEq, Nat.reduceBEq, Nat.reduceLT, List.forall_mem_cons, t_within, t_isName, t_iCell, t_iBlock, t_iLess, t_iMeets, t_places, t_runway, tk_map, dp_map, toNat_pred, appE, rowsOf, List.take_length, List.length_cons, List.length_nil, Nat.zero_add, srow, irow, un_s, un_i, Zone.row, Zone_eta, un_Zone, Pt.row, Pt_eta, un_Pt, Aw.row, Aw_eta, un_Aw, Blk.row, Blk_eta, un_Blk, Sec.row, Sec_eta, un_Sec, Rw.row, Rw_eta, un_Rw, Sky_eta, lookE, msetE, find_str, find_cell, keyP_str, keyP_cell, put_str, put_cell]
  -- points
  refine loop_st (fun i : Nat => [(69, .int .i64 i)]) (fun i => [(164, .mp 0 (setOf AV.str ((s.pts.take i).map (·.nm)))), (165, .mp 2 (setOf cellKey ((s.pts.take i).map fun p => (p.x, p.y))))]) (fun i => i ≤ s.pts.length ∧ ∀ j, j < i → ptAt s.w s.h s.pts j) (fun i => s.pts.length - i) (0) (by simp only [u_E0, u_E1, u_M0, u_M1, w_setE0, w_setE1, w_setM0, w_setM1, reduceIte, Nat.reduceEqDiff]; exact ⟨by repeat' (first | exact trivial | refine ⟨.inr rfl, ?_⟩), by repeat' (first | exact trivial | refine ⟨rfl, ?_⟩), by first | rfl | simp [closedB, refsIn, refsInL, refsInO, dom, refsInL_nr, *], by first | rfl | simp [keepB, dom]⟩) ?_ ?_
  · exact ⟨Nat.zero_le _, by intro j hj; omega⟩
  intro i hi NX hN
  unfold l_impl_SkyValid_0; simp (config := { maxSteps := 2000000 }) only [bitvec_to_nat, reduceIte, Nat.reduceEqDiff, Nat.reduceAdd, Nat.reduceLeDiff, reduceCtorEq, Nat.reduceBEq, Nat.reduceLT, List.forall_mem_cons, t_within, t_isName, t_iCell, t_iBlock, t_iLess, t_iMeets, t_places, t_runway, tk_map, dp_map, toNat_pred, appE, rowsOf, List.take_length, List.length_cons, List.length_nil, Nat.zero_add, srow, irow, un_s, un_i, Zone.row, Zone_eta, un_Zone, Pt.row, Pt_eta, un_Pt, Aw.row, Aw_eta, un_Aw, Blk.row, Blk_eta, un_Blk, Sec.row, Sec_eta, un_Sec, Rw.row, Rw_eta, un_Rw, Sky_eta, lookE, msetE, find_str, find_cell, keyP_str, keyP_cell, put_str, put_cell]
  refine ⟨fun g1 => ⟨by omega, by omega, ?_⟩, fun g1 => ?_⟩
  · have A : s.valid → ptAt s.w s.h s.pts i := fun h => h.2.1.2 i (by omega)
    unfold ptAt at A
    have hc := isIn_cell (f := fun p : Pt => (p.x, p.y)) (l := s.pts) (i := i) (by omega) (q := ((s.pts.getD i default).x, (s.pts.getD i default).y))
    refine pc_impl_SkyValid_1 s i _ (by omega) hs1 hd fun bv hbv => ?_
    cases bv
    case true =>
      simp (config := { maxSteps := 2000000 }) only [bitvec_to_nat, reduceIte, Nat.reduceEqDiff, Nat.reduceAdd, Nat.reduceLeDiff, reduceCtorEq, Nat.reduceBEq, Nat.reduceLT, List.forall_mem_cons, t_within, t_isName, t_iCell, t_iBlock, t_iLess, t_iMeets, t_places, t_runway, tk_map, dp_map, toNat_pred, appE, rowsOf, List.take_length, List.length_cons, List.length_nil, Nat.zero_add, srow, irow, un_s, un_i, Zone.row, Zone_eta, un_Zone, Pt.row, Pt_eta, un_Pt, Aw.row, Aw_eta, un_Aw, Blk.row, Blk_eta, un_Blk, Sec.row, Sec_eta, un_Sec, Rw.row, Rw_eta, un_Rw, Sky_eta, lookE, msetE, find_str, find_cell, keyP_str, keyP_cell, put_str, put_cell]
      refine fun hv => (hbv.1 rfl) ⟨(A hv).1, (A hv).2.1, (A hv).2.2.1, fun h => ?_⟩
      obtain ⟨k, hk, e⟩ := hc.1 h
      simp only [Prod.mk.injEq] at e
      exact (A hv).2.2.2 k hk e
    have o1 := Classical.not_not.1 fun h => Bool.noConfusion (hbv.2 h)
    simp (config := { maxSteps := 2000000 }) only [bitvec_to_nat, reduceIte, Nat.reduceEqDiff, Nat.reduceAdd, Nat.reduceLeDiff, reduceCtorEq, Nat.reduceBEq, Nat.reduceLT, List.forall_mem_cons, t_within, t_isName, t_iCell, t_iBlock, t_iLess, t_iMeets, t_places, t_runway, tk_map, dp_map, toNat_pred, appE, rowsOf, List.take_length, List.length_cons, List.length_nil, Nat.zero_add, srow, irow, un_s, un_i, Zone.row, Zone_eta, un_Zone, Pt.row, Pt_eta, un_Pt, Aw.row, Aw_eta, un_Aw, Blk.row, Blk_eta, un_Blk, Sec.row, Sec_eta, un_Sec, Rw.row, Rw_eta, un_Rw, Sky_eta, lookE, msetE, find_str, find_cell, keyP_str, keyP_cell, put_str, put_cell]
    have e1 := take_map_snoc (f := fun p : Pt => p.nm) (l := s.pts) (i := i) (by omega)
    have e2 := take_map_snoc (f := fun p : Pt => (p.x, p.y)) (l := s.pts) (i := i) (by omega)
    have hb := o1.2.2.1
    unfold inSky at hb; unfold dims at hd
    have hn := o1.1.1
    refine ⟨by omega, by omega, by omega, ?_⟩
    refine hN (i + 1) _ (by simp only [e1, e2, List.length_append, List.length_cons, List.length_nil, Nat.zero_add, List.map_append, List.map_cons, List.map_nil, u_E0, u_E1, u_M0, u_M1, w_setE0, w_setE1, w_setM0, w_setM1, reduceIte, Nat.reduceEqDiff]; exact ⟨by repeat' (first | exact trivial | refine ⟨.inr rfl, ?_⟩), by repeat' (first | exact trivial | refine ⟨rfl, ?_⟩), by first | rfl | simp [closedB, refsIn, refsInL, refsInO, dom, refsInL_nr, *], by first | rfl | simp [keepB, dom]⟩) ?_ ?_
    · refine ⟨by omega, all_snoc hi.2 ⟨o1.1, o1.2.1, o1.2.2.1, fun k hk e => o1.2.2.2 (hc.2 ⟨k, hk, by rw [e.1, e.2]⟩)⟩⟩
    · omega
  -- airways
  have e : i = s.pts.length := by omega
  subst e
  have hpts := hi.2
  clear hi hN NX
  simp only [List.take_length]
  refine loop_st (fun i : Nat => [(122, .int .i64 i)]) (fun _ => []) (fun i => i ≤ s.aws.length ∧ ∀ j, j < i → awAt s.pts s.aws j) (fun i => s.aws.length - i) (0) (by simp only [u_E0, u_E1, u_M0, u_M1, w_setE0, w_setE1, w_setM0, w_setM1, reduceIte, Nat.reduceEqDiff]; exact ⟨by repeat' (first | exact trivial | refine ⟨.inr rfl, ?_⟩), by repeat' (first | exact trivial | refine ⟨rfl, ?_⟩), by first | rfl | simp [closedB, refsIn, refsInL, refsInO, dom, refsInL_nr, *], by first | rfl | simp [keepB, dom]⟩) ?_ ?_
  · exact ⟨Nat.zero_le _, by intro j hj; omega⟩
  intro i hi NX hN
  unfold l_impl_SkyValid_2; simp (config := { maxSteps := 2000000 }) only [bitvec_to_nat, reduceIte, Nat.reduceEqDiff, Nat.reduceAdd, Nat.reduceLeDiff, reduceCtorEq, Nat.reduceBEq, Nat.reduceLT, List.forall_mem_cons, t_within, t_isName, t_iCell, t_iBlock, t_iLess, t_iMeets, t_places, t_runway, tk_map, dp_map, toNat_pred, appE, rowsOf, List.take_length, List.length_cons, List.length_nil, Nat.zero_add, srow, irow, un_s, un_i, Zone.row, Zone_eta, un_Zone, Pt.row, Pt_eta, un_Pt, Aw.row, Aw_eta, un_Aw, Blk.row, Blk_eta, un_Blk, Sec.row, Sec_eta, un_Sec, Rw.row, Rw_eta, un_Rw, Sky_eta, lookE, msetE, find_str, find_cell, keyP_str, keyP_cell, put_str, put_cell]
  refine ⟨fun g1 => ⟨by omega, by omega, ?_⟩, fun g1 => ?_⟩
  · have A : s.valid → awAt s.pts s.aws i := fun h => h.2.2.1.2 i (by omega)
    unfold awAt at A
    have hq4 := Sky.small_aw hs (i := i) (by omega)
    have hff : (s.aws.getD i default).fitp := hf.2.1.2 _ (getD_in (by omega))
    refine pc_impl_SkyValid_2 s i (by omega) hs2 fun bv hbv => ?_
    cases bv
    case true =>
      simp (config := { maxSteps := 2000000 }) only [bitvec_to_nat, reduceIte, Nat.reduceEqDiff, Nat.reduceAdd, Nat.reduceLeDiff, reduceCtorEq, Nat.reduceBEq, Nat.reduceLT, List.forall_mem_cons, t_within, t_isName, t_iCell, t_iBlock, t_iLess, t_iMeets, t_places, t_runway, tk_map, dp_map, toNat_pred, appE, rowsOf, List.take_length, List.length_cons, List.length_nil, Nat.zero_add, srow, irow, un_s, un_i, Zone.row, Zone_eta, un_Zone, Pt.row, Pt_eta, un_Pt, Aw.row, Aw_eta, un_Aw, Blk.row, Blk_eta, un_Blk, Sec.row, Sec_eta, un_Sec, Rw.row, Rw_eta, un_Rw, Sky_eta, lookE, msetE, find_str, find_cell, keyP_str, keyP_cell, put_str, put_cell]
      exact fun hv => (hbv.1 rfl) ⟨(A hv).1, (A hv).2.1, (A hv).2.2.1⟩
    have o1 := Classical.not_not.1 fun h => Bool.noConfusion (hbv.2 h)
    simp (config := { maxSteps := 2000000 }) only [bitvec_to_nat, reduceIte, Nat.reduceEqDiff, Nat.reduceAdd, Nat.reduceLeDiff, reduceCtorEq, Nat.reduceBEq, Nat.reduceLT, List.forall_mem_cons, t_within, t_isName, t_iCell, t_iBlock, t_iLess, t_iMeets, t_places, t_runway, tk_map, dp_map, toNat_pred, appE, rowsOf, List.take_length, List.length_cons, List.length_nil, Nat.zero_add, srow, irow, un_s, un_i, Zone.row, Zone_eta, un_Zone, Pt.row, Pt_eta, un_Pt, Aw.row, Aw_eta, un_Aw, Blk.row, Blk_eta, un_Blk, Sec.row, Sec_eta, un_Sec, Rw.row, Rw_eta, un_Rw, Sky_eta, lookE, msetE, find_str, find_cell, keyP_str, keyP_cell, put_str, put_cell]
    refine loop_st (fun k : Nat => [(158, .int .i64 k)]) (fun k => [(254, .mp 0 (setOf AV.str ((s.aws.getD i default).pts.take k)))]) (fun k => k ≤ (s.aws.getD i default).pts.length ∧ ∀ j, j < k → awPt s.pts (s.aws.getD i default).pts j) (fun k => (s.aws.getD i default).pts.length - k) (0) (by simp only [u_E0, u_E1, u_M0, u_M1, w_setE0, w_setE1, w_setM0, w_setM1, reduceIte, Nat.reduceEqDiff]; exact ⟨by repeat' (first | exact trivial | refine ⟨.inr rfl, ?_⟩), by repeat' (first | exact trivial | refine ⟨rfl, ?_⟩), by first | rfl | simp [closedB, refsIn, refsInL, refsInO, dom, refsInL_nr, *], by first | rfl | simp [keepB, dom]⟩) ?_ ?_
    · exact ⟨Nat.zero_le _, by intro j hj; omega⟩
    intro k hk NX2 hN2
    unfold l_impl_SkyValid_1; simp (config := { maxSteps := 2000000 }) only [bitvec_to_nat, reduceIte, Nat.reduceEqDiff, Nat.reduceAdd, Nat.reduceLeDiff, reduceCtorEq, Nat.reduceBEq, Nat.reduceLT, List.forall_mem_cons, t_within, t_isName, t_iCell, t_iBlock, t_iLess, t_iMeets, t_places, t_runway, tk_map, dp_map, toNat_pred, appE, rowsOf, List.take_length, List.length_cons, List.length_nil, Nat.zero_add, srow, irow, un_s, un_i, Zone.row, Zone_eta, un_Zone, Pt.row, Pt_eta, un_Pt, Aw.row, Aw_eta, un_Aw, Blk.row, Blk_eta, un_Blk, Sec.row, Sec_eta, un_Sec, Rw.row, Rw_eta, un_Rw, Sky_eta, lookE, msetE, find_str, find_cell, keyP_str, keyP_cell, put_str, put_cell]
    refine ⟨fun g2 => ?_, fun g2 => ⟨by omega, ?_⟩⟩
    · have hlen := hff.2.2 _ (getD_in (l := (s.aws.getD i default).pts) (i := k) (by omega))
      have hin := isIn_take (l := (s.aws.getD i default).pts) (i := k) (by omega) (q := (s.aws.getD i default).pts.getD k default)
      refine ⟨by omega, by omega, hlen, fun g3 => ⟨hlen, fun g4 hv => ?_, fun g4 => ⟨hlen, by omega, ?_⟩⟩, fun g3 hv => ?_⟩
      · obtain ⟨j, hj, e⟩ := hin.1 g4
        exact ((A hv).2.2.2 k (by omega)).2 j hj e
      · have e1 := take_snoc (l := (s.aws.getD i default).pts) (i := k) (by omega)
        refine hN2 (k + 1) _ (by simp only [e1, List.length_append, List.length_cons, List.length_nil, Nat.zero_add, List.map_append, List.map_cons, List.map_nil, u_E0, u_E1, u_M0, u_M1, w_setE0, w_setE1, w_setM0, w_setM1, reduceIte, Nat.reduceEqDiff]; exact ⟨by repeat' (first | exact trivial | refine ⟨.inr rfl, ?_⟩), by repeat' (first | exact trivial | refine ⟨rfl, ?_⟩), by first | rfl | simp [closedB, refsIn, refsInL, refsInO, dom, refsInL_nr, *], by first | rfl | simp [keepB, dom]⟩) ?_ ?_
        · exact ⟨by omega, all_snoc hk.2 ⟨isIn_nm.1 g3, fun j hj e => g4 (hin.2 ⟨j, hj, e⟩)⟩⟩
        · omega
      · exact g3 (isIn_nm.2 ((A hv).2.2.2 k (by omega)).1)
    · refine hN (i + 1) _ (by simp only [u_E0, u_E1, u_M0, u_M1, w_setE0, w_setE1, w_setM0, w_setM1, reduceIte, Nat.reduceEqDiff]; exact ⟨by repeat' (first | exact trivial | refine ⟨.inr rfl, ?_⟩), by repeat' (first | exact trivial | refine ⟨rfl, ?_⟩), by first | rfl | simp [closedB, refsIn, refsInL, refsInO, dom, refsInL_nr, *], by first | rfl | simp [keepB, dom]⟩) ?_ ?_
      · exact ⟨by omega, all_snoc hi.2 ⟨o1.1, o1.2.1, o1.2.2, fun k' hk' => hk.2 k' (by omega)⟩⟩
      · omega
  -- sectors
  have e : i = s.aws.length := by omega
  subst e
  have haws := hi.2
  clear hi hN NX
  refine loop_st (fun i : Nat => [(13, .own 113 (blocks (s.secs.take i)).length 0 (blocks (s.secs.take i)).length), (14, .int .i64 (vols (blocks (s.secs.take i)))), (178, .int .i64 i)]) (fun i => [(113, .arr 113 (blocks (s.secs.take i)).length 6 ((blocks (s.secs.take i)).map Blk.row))]) (fun i => i ≤ s.secs.length ∧ (∀ j, j < i → secAt s.w s.h s.lv s.secs j) ∧ apart (blocks (s.secs.take i))) (fun i => s.secs.length - i) (0) (by simp only [u_E0, u_E1, u_M0, u_M1, w_setE0, w_setE1, w_setM0, w_setM1, reduceIte, Nat.reduceEqDiff]; exact ⟨by repeat' (first | exact trivial | refine ⟨.inr rfl, ?_⟩), by repeat' (first | exact trivial | refine ⟨rfl, ?_⟩), by first | rfl | simp [closedB, refsIn, refsInL, refsInO, dom, refsInL_nr, *], by first | rfl | simp [keepB, dom]⟩) ?_ ?_
  · exact ⟨Nat.zero_le _, (by intro j hj; omega), List.Pairwise.nil⟩
  intro i hi NX hN
  unfold l_impl_SkyValid_5; simp (config := { maxSteps := 2000000 }) only [bitvec_to_nat, reduceIte, Nat.reduceEqDiff, Nat.reduceAdd, Nat.reduceLeDiff, reduceCtorEq, Nat.reduceBEq, Nat.reduceLT, List.forall_mem_cons, t_within, t_isName, t_iCell, t_iBlock, t_iLess, t_iMeets, t_places, t_runway, tk_map, dp_map, toNat_pred, appE, rowsOf, List.take_length, List.length_cons, List.length_nil, Nat.zero_add, srow, irow, un_s, un_i, Zone.row, Zone_eta, un_Zone, Pt.row, Pt_eta, un_Pt, Aw.row, Aw_eta, un_Aw, Blk.row, Blk_eta, un_Blk, Sec.row, Sec_eta, un_Sec, Rw.row, Rw_eta, un_Rw, Sky_eta, lookE, msetE, find_str, find_cell, keyP_str, keyP_cell, put_str, put_cell]
  refine ⟨fun g1 => ⟨by omega, by omega, ?_⟩, fun g1 => ?_⟩
  · have A : s.valid → secAt s.w s.h s.lv s.secs i := fun h => h.2.2.2.1.2 i (by omega)
    unfold secAt at A
    have hq4 := Sky.small_sec hs (i := i) (by omega)
    have hbl := blocks_len' (l := s.secs) (i := i) (by omega) fun j hj => (hi.2.1 j hj).2.2.1.2
    refine pc_impl_SkyValid_3 s i _ (by omega) hs3 fun bv hbv => ?_
    cases bv
    case true =>
      simp (config := { maxSteps := 2000000 }) only [bitvec_to_nat, reduceIte, Nat.reduceEqDiff, Nat.reduceAdd, Nat.reduceLeDiff, reduceCtorEq, Nat.reduceBEq, Nat.reduceLT, List.forall_mem_cons, t_within, t_isName, t_iCell, t_iBlock, t_iLess, t_iMeets, t_places, t_runway, tk_map, dp_map, toNat_pred, appE, rowsOf, List.take_length, List.length_cons, List.length_nil, Nat.zero_add, srow, irow, un_s, un_i, Zone.row, Zone_eta, un_Zone, Pt.row, Pt_eta, un_Pt, Aw.row, Aw_eta, un_Aw, Blk.row, Blk_eta, un_Blk, Sec.row, Sec_eta, un_Sec, Rw.row, Rw_eta, un_Rw, Sky_eta, lookE, msetE, find_str, find_cell, keyP_str, keyP_cell, put_str, put_cell]
      exact fun hv => (hbv.1 rfl) ⟨(A hv).1, (A hv).2.1, (A hv).2.2.1⟩
    have o1 := Classical.not_not.1 fun h => Bool.noConfusion (hbv.2 h)
    simp (config := { maxSteps := 2000000 }) only [bitvec_to_nat, reduceIte, Nat.reduceEqDiff, Nat.reduceAdd, Nat.reduceLeDiff, reduceCtorEq, Nat.reduceBEq, Nat.reduceLT, List.forall_mem_cons, t_within, t_isName, t_iCell, t_iBlock, t_iLess, t_iMeets, t_places, t_runway, tk_map, dp_map, toNat_pred, appE, rowsOf, List.take_length, List.length_cons, List.length_nil, Nat.zero_add, srow, irow, un_s, un_i, Zone.row, Zone_eta, un_Zone, Pt.row, Pt_eta, un_Pt, Aw.row, Aw_eta, un_Aw, Blk.row, Blk_eta, un_Blk, Sec.row, Sec_eta, un_Sec, Rw.row, Rw_eta, un_Rw, Sky_eta, lookE, msetE, find_str, find_cell, keyP_str, keyP_cell, put_str, put_cell]
    rw [← pre_zero (l := s.secs) (i := i)]
    refine loop_st (fun k : Nat => [(13, .own 113 (pre s.secs i k).length 0 (pre s.secs i k).length), (14, .int .i64 (vols (pre s.secs i k))), (213, .int .i64 k)]) (fun k => [(113, .arr 113 (pre s.secs i k).length 6 ((pre s.secs i k).map Blk.row))]) (fun k => k ≤ (s.secs.getD i default).bl.length ∧ (∀ j, j < k → blkAt s.w s.h s.lv (s.secs.getD i default).bl j) ∧ apart (pre s.secs i k)) (fun k => (s.secs.getD i default).bl.length - k) (0) (by simp only [u_E0, u_E1, u_M0, u_M1, w_setE0, w_setE1, w_setM0, w_setM1, reduceIte, Nat.reduceEqDiff]; exact ⟨by repeat' (first | exact trivial | refine ⟨.inr rfl, ?_⟩), by repeat' (first | exact trivial | refine ⟨rfl, ?_⟩), by first | rfl | simp [closedB, refsIn, refsInL, refsInO, dom, refsInL_nr, *], by first | rfl | simp [keepB, dom]⟩) ?_ ?_
    · exact ⟨Nat.zero_le _, (by intro j hj; omega), by rw [pre_zero]; exact hi.2.2⟩
    intro k hk NX2 hN2
    unfold l_impl_SkyValid_4; simp (config := { maxSteps := 2000000 }) only [bitvec_to_nat, reduceIte, Nat.reduceEqDiff, Nat.reduceAdd, Nat.reduceLeDiff, reduceCtorEq, Nat.reduceBEq, Nat.reduceLT, List.forall_mem_cons, t_within, t_isName, t_iCell, t_iBlock, t_iLess, t_iMeets, t_places, t_runway, tk_map, dp_map, toNat_pred, appE, rowsOf, List.take_length, List.length_cons, List.length_nil, Nat.zero_add, srow, irow, un_s, un_i, Zone.row, Zone_eta, un_Zone, Pt.row, Pt_eta, un_Pt, Aw.row, Aw_eta, un_Aw, Blk.row, Blk_eta, un_Blk, Sec.row, Sec_eta, un_Sec, Rw.row, Rw_eta, un_Rw, Sky_eta, lookE, msetE, find_str, find_cell, keyP_str, keyP_cell, put_str, put_cell]
    refine ⟨fun g2 => ⟨by omega, by omega, ?_⟩, fun g2 => ?_⟩
    · refine pc_impl_SkyValid_4 s i k _ (by omega) hq4 fun bv hbv => ?_
      cases bv
      case true =>
        simp (config := { maxSteps := 2000000 }) only [bitvec_to_nat, reduceIte, Nat.reduceEqDiff, Nat.reduceAdd, Nat.reduceLeDiff, reduceCtorEq, Nat.reduceBEq, Nat.reduceLT, List.forall_mem_cons, t_within, t_isName, t_iCell, t_iBlock, t_iLess, t_iMeets, t_places, t_runway, tk_map, dp_map, toNat_pred, appE, rowsOf, List.take_length, List.length_cons, List.length_nil, Nat.zero_add, srow, irow, un_s, un_i, Zone.row, Zone_eta, un_Zone, Pt.row, Pt_eta, un_Pt, Aw.row, Aw_eta, un_Aw, Blk.row, Blk_eta, un_Blk, Sec.row, Sec_eta, un_Sec, Rw.row, Rw_eta, un_Rw, Sky_eta, lookE, msetE, find_str, find_cell, keyP_str, keyP_cell, put_str, put_cell]
        exact fun hv => (hbv.1 rfl) ((A hv).2.2.2 k (by omega))
      have o2 := Classical.not_not.1 fun h => Bool.noConfusion (hbv.2 h)
      have hpl : (pre s.secs i k).length ≤ 28 := by unfold pre; rw [List.length_append, List.length_take]; omega
      simp (config := { maxSteps := 2000000 }) only [bitvec_to_nat, reduceIte, Nat.reduceEqDiff, Nat.reduceAdd, Nat.reduceLeDiff, reduceCtorEq, Nat.reduceBEq, Nat.reduceLT, List.forall_mem_cons, t_within, t_isName, t_iCell, t_iBlock, t_iLess, t_iMeets, t_places, t_runway, tk_map, dp_map, toNat_pred, appE, rowsOf, List.take_length, List.length_cons, List.length_nil, Nat.zero_add, srow, irow, un_s, un_i, Zone.row, Zone_eta, un_Zone, Pt.row, Pt_eta, un_Pt, Aw.row, Aw_eta, un_Aw, Blk.row, Blk_eta, un_Blk, Sec.row, Sec_eta, un_Sec, Rw.row, Rw_eta, un_Rw, Sky_eta, lookE, msetE, find_str, find_cell, keyP_str, keyP_cell, put_str, put_cell]
      refine loop_st (fun j : Nat => [(239, .int .i64 j)]) (fun _ => []) (fun j => j ≤ (pre s.secs i k).length ∧ ∀ q, q < j → ¬ ((pre s.secs i k).getD q default).meet ((s.secs.getD i default).bl.getD k default)) (fun j => (pre s.secs i k).length - j) (0) (by simp only [u_E0, u_E1, u_M0, u_M1, w_setE0, w_setE1, w_setM0, w_setM1, reduceIte, Nat.reduceEqDiff]; exact ⟨by repeat' (first | exact trivial | refine ⟨.inr rfl, ?_⟩), by repeat' (first | exact trivial | refine ⟨rfl, ?_⟩), by first | rfl | simp [closedB, refsIn, refsInL, refsInO, dom, refsInL_nr, *], by first | rfl | simp [keepB, dom]⟩) ?_ ?_
      · exact ⟨Nat.zero_le _, by intro j hj; omega⟩
      intro j hj NX3 hN3
      unfold l_impl_SkyValid_3; simp (config := { maxSteps := 2000000 }) only [bitvec_to_nat, reduceIte, Nat.reduceEqDiff, Nat.reduceAdd, Nat.reduceLeDiff, reduceCtorEq, Nat.reduceBEq, Nat.reduceLT, List.forall_mem_cons, t_within, t_isName, t_iCell, t_iBlock, t_iLess, t_iMeets, t_places, t_runway, tk_map, dp_map, toNat_pred, appE, rowsOf, List.take_length, List.length_cons, List.length_nil, Nat.zero_add, srow, irow, un_s, un_i, Zone.row, Zone_eta, un_Zone, Pt.row, Pt_eta, un_Pt, Aw.row, Aw_eta, un_Aw, Blk.row, Blk_eta, un_Blk, Sec.row, Sec_eta, un_Sec, Rw.row, Rw_eta, un_Rw, Sky_eta, lookE, msetE, find_str, find_cell, keyP_str, keyP_cell, put_str, put_cell]
      refine ⟨fun g3 => ⟨⟨by omega, by omega⟩, by omega, fun g4 hv => ?_, fun g4 => ⟨by omega, ?_⟩⟩, fun g3 => ?_⟩
      · have h1 := apart_iff.1 hv.2.2.2.2.1.1
        have h2 : apart (pre s.secs i (k + 1)) := h1.sublist (pre_sub (by omega))
        rw [pre_snoc (by omega)] at h2
        exact (apart_snoc.1 h2).2 j (by omega) g4
      · refine hN3 (j + 1) _ (by simp only [u_E0, u_E1, u_M0, u_M1, w_setE0, w_setE1, w_setM0, w_setM1, reduceIte, Nat.reduceEqDiff]; exact ⟨by repeat' (first | exact trivial | refine ⟨.inr rfl, ?_⟩), by repeat' (first | exact trivial | refine ⟨rfl, ?_⟩), by first | rfl | simp [closedB, refsIn, refsInL, refsInO, dom, refsInL_nr, *], by first | rfl | simp [keepB, dom]⟩) ?_ ?_
        · exact ⟨by omega, all_snoc hj.2 g4⟩
        · omega
      · have hbo := o2.1
        have hvb := vol_bd hd hbo
        have hvs := vols_bd hd (pre_ok (l := s.secs) (i := i) (k := k) (by omega) hi.2.1 (by omega) hk.2.1)
        have e1 := pre_snoc (l := s.secs) (i := i) (k := k) (by omega)
        refine ⟨by omega, ⟨_, _, _, hd, hbo⟩, by omega, by omega, ?_⟩
        refine hN2 (k + 1) _ (by simp only [e1, vols_app, List.length_append, List.length_cons, List.length_nil, Nat.zero_add, List.map_append, List.map_cons, List.map_nil, u_E0, u_E1, u_M0, u_M1, w_setE0, w_setE1, w_setM0, w_setM1, reduceIte, Nat.reduceEqDiff]; exact ⟨by repeat' (first | exact trivial | refine ⟨.inr rfl, ?_⟩), by repeat' (first | exact trivial | refine ⟨rfl, ?_⟩), by first | rfl | simp [closedB, refsIn, refsInL, refsInO, dom, refsInL_nr, *], by first | rfl | simp [keepB, dom]⟩) ?_ ?_
        · exact ⟨by omega, all_snoc hk.2.1 o2, by rw [e1]; exact apart_snoc.2 ⟨hk.2.2, fun q hq => hj.2 q (by omega)⟩⟩
        · omega
    · have e1 : pre s.secs i k = blocks (s.secs.take (i + 1)) := by rw [← pre_end (by omega)]; congr 1; omega
      have hap := hk.2.2
      simp only [e1] at hap ⊢
      refine ⟨by omega, ?_⟩
      refine hN (i + 1) _ (by simp only [u_E0, u_E1, u_M0, u_M1, w_setE0, w_setE1, w_setM0, w_setM1, reduceIte, Nat.reduceEqDiff]; exact ⟨by repeat' (first | exact trivial | refine ⟨.inr rfl, ?_⟩), by repeat' (first | exact trivial | refine ⟨rfl, ?_⟩), by first | rfl | simp [closedB, refsIn, refsInL, refsInO, dom, refsInL_nr, *], by first | rfl | simp [keepB, dom]⟩) ?_ ?_
      · exact ⟨by omega, all_snoc hi.2.1 ⟨o1.1, o1.2.1, o1.2.2, fun k' hk' => hk.2.1 k' (by omega)⟩, hap⟩
      · omega
  -- how many places
  have e : i = s.secs.length := by omega
  subst e
  have hsecs := hi.2.1
  have hap := hi.2.2
  clear hi hN NX
  simp only [List.take_length] at hap ⊢
  refine pc_impl_SkyValid_5 s _ _ hmul fun bv hbv => ?_
  cases bv
  case true =>
    simp (config := { maxSteps := 2000000 }) only [bitvec_to_nat, reduceIte, Nat.reduceEqDiff, Nat.reduceAdd, Nat.reduceLeDiff, reduceCtorEq, Nat.reduceBEq, Nat.reduceLT, List.forall_mem_cons, t_within, t_isName, t_iCell, t_iBlock, t_iLess, t_iMeets, t_places, t_runway, tk_map, dp_map, toNat_pred, appE, rowsOf, List.take_length, List.length_cons, List.length_nil, Nat.zero_add, srow, irow, un_s, un_i, Zone.row, Zone_eta, un_Zone, Pt.row, Pt_eta, un_Pt, Aw.row, Aw_eta, un_Aw, Blk.row, Blk_eta, un_Blk, Sec.row, Sec_eta, un_Sec, Rw.row, Rw_eta, un_Rw, Sky_eta, lookE, msetE, find_str, find_cell, keyP_str, keyP_cell, put_str, put_cell]
    exact fun hv => (hbv.1 rfl) hv.2.2.2.2.1.2
  have o5 := Classical.not_not.1 fun h => Bool.noConfusion (hbv.2 h)
  simp (config := { maxSteps := 2000000 }) only [bitvec_to_nat, reduceIte, Nat.reduceEqDiff, Nat.reduceAdd, Nat.reduceLeDiff, reduceCtorEq, Nat.reduceBEq, Nat.reduceLT, List.forall_mem_cons, t_within, t_isName, t_iCell, t_iBlock, t_iLess, t_iMeets, t_places, t_runway, tk_map, dp_map, toNat_pred, appE, rowsOf, List.take_length, List.length_cons, List.length_nil, Nat.zero_add, srow, irow, un_s, un_i, Zone.row, Zone_eta, un_Zone, Pt.row, Pt_eta, un_Pt, Aw.row, Aw_eta, un_Aw, Blk.row, Blk_eta, un_Blk, Sec.row, Sec_eta, un_Sec, Rw.row, Rw_eta, un_Rw, Sky_eta, lookE, msetE, find_str, find_cell, keyP_str, keyP_cell, put_str, put_cell]
  -- runways
  refine loop_st (fun i : Nat => [(271, .int .i64 i)]) (fun i => [(367, .mp 2 (setOf cellKey ((s.rws.take i).map fun r => (r.x, r.y))))]) (fun i => i ≤ s.rws.length ∧ ∀ j, j < i → rwAt s.w s.h s.rws j) (fun i => s.rws.length - i) (0) (by simp only [u_E0, u_E1, u_M0, u_M1, w_setE0, w_setE1, w_setM0, w_setM1, reduceIte, Nat.reduceEqDiff]; exact ⟨by repeat' (first | exact trivial | refine ⟨.inr rfl, ?_⟩), by repeat' (first | exact trivial | refine ⟨rfl, ?_⟩), by first | rfl | simp [closedB, refsIn, refsInL, refsInO, dom, refsInL_nr, *], by first | rfl | simp [keepB, dom]⟩) ?_ ?_
  · exact ⟨Nat.zero_le _, by intro j hj; omega⟩
  intro i hi NX hN
  unfold l_impl_SkyValid_6; simp (config := { maxSteps := 2000000 }) only [bitvec_to_nat, reduceIte, Nat.reduceEqDiff, Nat.reduceAdd, Nat.reduceLeDiff, reduceCtorEq, Nat.reduceBEq, Nat.reduceLT, List.forall_mem_cons, t_within, t_isName, t_iCell, t_iBlock, t_iLess, t_iMeets, t_places, t_runway, tk_map, dp_map, toNat_pred, appE, rowsOf, List.take_length, List.length_cons, List.length_nil, Nat.zero_add, srow, irow, un_s, un_i, Zone.row, Zone_eta, un_Zone, Pt.row, Pt_eta, un_Pt, Aw.row, Aw_eta, un_Aw, Blk.row, Blk_eta, un_Blk, Sec.row, Sec_eta, un_Sec, Rw.row, Rw_eta, un_Rw, Sky_eta, lookE, msetE, find_str, find_cell, keyP_str, keyP_cell, put_str, put_cell]
  refine ⟨fun g1 => ⟨by omega, by omega, ?_⟩, fun g1 => ?_⟩
  · have A : s.valid → rwAt s.w s.h s.rws i := fun h => h.2.2.2.2.2.2 i (by omega)
    unfold rwAt at A
    have hc := isIn_cell (f := fun p : Rw => (p.x, p.y)) (l := s.rws) (i := i) (by omega) (q := ((s.rws.getD i default).x, (s.rws.getD i default).y))
    refine pc_impl_SkyValid_6 s i _ _ (by omega) hs4 hd fun bv hbv => ?_
    cases bv
    case true =>
      simp (config := { maxSteps := 2000000 }) only [bitvec_to_nat, reduceIte, Nat.reduceEqDiff, Nat.reduceAdd, Nat.reduceLeDiff, reduceCtorEq, Nat.reduceBEq, Nat.reduceLT, List.forall_mem_cons, t_within, t_isName, t_iCell, t_iBlock, t_iLess, t_iMeets, t_places, t_runway, tk_map, dp_map, toNat_pred, appE, rowsOf, List.take_length, List.length_cons, List.length_nil, Nat.zero_add, srow, irow, un_s, un_i, Zone.row, Zone_eta, un_Zone, Pt.row, Pt_eta, un_Pt, Aw.row, Aw_eta, un_Aw, Blk.row, Blk_eta, un_Blk, Sec.row, Sec_eta, un_Sec, Rw.row, Rw_eta, un_Rw, Sky_eta, lookE, msetE, find_str, find_cell, keyP_str, keyP_cell, put_str, put_cell]
      refine fun hv => (hbv.1 rfl) ⟨(A hv).1, (A hv).2.1, (A hv).2.2.1, fun h => ?_⟩
      obtain ⟨k, hk, e⟩ := hc.1 h
      simp only [Prod.mk.injEq] at e
      exact (A hv).2.2.2 k hk e
    have o1 := Classical.not_not.1 fun h => Bool.noConfusion (hbv.2 h)
    simp (config := { maxSteps := 2000000 }) only [bitvec_to_nat, reduceIte, Nat.reduceEqDiff, Nat.reduceAdd, Nat.reduceLeDiff, reduceCtorEq, Nat.reduceBEq, Nat.reduceLT, List.forall_mem_cons, t_within, t_isName, t_iCell, t_iBlock, t_iLess, t_iMeets, t_places, t_runway, tk_map, dp_map, toNat_pred, appE, rowsOf, List.take_length, List.length_cons, List.length_nil, Nat.zero_add, srow, irow, un_s, un_i, Zone.row, Zone_eta, un_Zone, Pt.row, Pt_eta, un_Pt, Aw.row, Aw_eta, un_Aw, Blk.row, Blk_eta, un_Blk, Sec.row, Sec_eta, un_Sec, Rw.row, Rw_eta, un_Rw, Sky_eta, lookE, msetE, find_str, find_cell, keyP_str, keyP_cell, put_str, put_cell]
    have e2 := take_map_snoc (f := fun p : Rw => (p.x, p.y)) (l := s.rws) (i := i) (by omega)
    have hb := o1.2.2.1.2.1
    unfold inSky at hb; unfold dims at hd
    refine ⟨by omega, by omega, ?_⟩
    refine hN (i + 1) _ (by simp only [e2, List.length_append, List.length_cons, List.length_nil, Nat.zero_add, List.map_append, List.map_cons, List.map_nil, u_E0, u_E1, u_M0, u_M1, w_setE0, w_setE1, w_setM0, w_setM1, reduceIte, Nat.reduceEqDiff]; exact ⟨by repeat' (first | exact trivial | refine ⟨.inr rfl, ?_⟩), by repeat' (first | exact trivial | refine ⟨rfl, ?_⟩), by first | rfl | simp [closedB, refsIn, refsInL, refsInO, dom, refsInL_nr, *], by first | rfl | simp [keepB, dom]⟩) ?_ ?_
    · refine ⟨by omega, all_snoc hi.2 ⟨o1.1, o1.2.1, o1.2.2.1, fun k hk e => o1.2.2.2 (hc.2 ⟨k, hk, by rw [e.1, e.2]⟩)⟩⟩
    · omega
  · exact ⟨hd, ⟨l1, hpts⟩, ⟨l2, haws⟩, ⟨l3, hsecs⟩, ⟨apart_iff.2 hap, o5⟩, ⟨l4, fun j hj => hi.2 j (by omega)⟩⟩
def t_iSkyValid : List AV → Option (Prop × AV)
  | [.agg [.int .i64 s_w, .int .i64 s_h, .int .i64 s_lv, .sl 0 3 s_pts, .sl 0 2 s_aws, .sl 0 2 s_secs, .sl 0 4 s_rws]] => some ((((s_pts.map unPt).map Pt.row = s_pts) ∧ ((s_aws.map unAw).map (Aw.row 0) = s_aws) ∧ ((s_secs.map unSec).map (Sec.row 0) = s_secs) ∧ ((s_rws.map unRw).map Rw.row = s_rws)) ∧ ((Sky.mk s_w s_h s_lv (s_pts.map unPt) (s_aws.map unAw) (s_secs.map unSec) (s_rws.map unRw)).small ∧ (Sky.mk s_w s_h s_lv (s_pts.map unPt) (s_aws.map unAw) (s_secs.map unSec) (s_rws.map unRw)).fitp), .bool (decide (Sky.mk s_w s_h s_lv (s_pts.map unPt) (s_aws.map unAw) (s_secs.map unSec) (s_rws.map unRw)).valid))
  | _ => none
theorem h_iSkyValid : ∀ args p v, t_iSkyValid args = some (p, v) → p → Contract P 15 args [] v [] ∧ noref v = true ∧ No99 v := by
  intro args p v h1 h2
  unfold t_iSkyValid at h1
  split at h1
  · rename_i s_w s_h s_lv s_pts s_aws s_secs s_rws
    cases h1
    obtain ⟨⟨e0, e1, e2, e3⟩, HP⟩ := h2
    have := c_iSkyValid (Sky.mk s_w s_h s_lv (s_pts.map unPt) (s_aws.map unAw) (s_secs.map unSec) (s_rws.map unRw)) HP.1 HP.2
    exact ⟨by simpa only [e0, e1, e2, e3, Sky.row] using this, rfl, trivial⟩
  · cases h1
end
end Go.Ve

namespace Go.Ve
noncomputable section
open Go.Proofs
set_option linter.unusedSimpArgs false
set_option linter.unusedVariables false
set_option maxRecDepth 100000
structure Place where
  x : Int
  y : Int
  lv : Int
  deriving Inhabited, DecidableEq
def Place.row (s : Place) : List AV := [.int .i64 s.x, .int .i64 s.y, .int .i64 s.lv]
def Blk.has (b : Blk) (x y z : Int) : Prop := (b.x0 ≤ x ∧ x ≤ b.x1) ∧ (b.y0 ≤ y ∧ y ≤ b.y1) ∧ (b.lo ≤ z ∧ z ≤ b.hi)
instance (b : Blk) (x y z : Int) : Decidable (b.has x y z) := by unfold Blk.has; infer_instance
def Sec.has (c : Sec) (x y z : Int) : Prop := ∃ k, k < c.bl.length ∧ (c.bl.getD k default).has x y z
noncomputable instance (c : Sec) (x y z : Int) : Decidable (c.has x y z) := Classical.propDecidable _
/-- The sector that a place is in, -1 if there is none. -/
def secI (l : List Sec) (x y z : Int) : Int := fIdx (fun c => decide (c.has x y z)) l
def vOk (s : Sky) (x y z : Int) : Prop := s.valid ∧ 0 ≤ secI s.secs x y z
noncomputable instance (s : Sky) (x y z : Int) : Decidable (vOk s x y z) := Classical.propDecidable _
end
end Go.Ve

namespace Go.Ve
noncomputable section
open Go.Proofs
set_option linter.unusedSimpArgs false
set_option linter.unusedVariables false
set_option maxRecDepth 100000
def Blk.touch (a b : Blk) : Prop := (a.x0 - 1 ≤ b.x1 ∧ b.x0 ≤ a.x1 + 1) ∧ (a.y0 - 1 ≤ b.y1 ∧ b.y0 ≤ a.y1 + 1) ∧ (a.lo - 1 ≤ b.hi ∧ b.lo ≤ a.hi + 1)
instance (a b : Blk) : Decidable (a.touch b) := by unfold Blk.touch; infer_instance
def Sec.touch (a b : Sec) : Prop := ∃ m, m < a.bl.length ∧ ∃ n, n < b.bl.length ∧ (a.bl.getD m default).touch (b.bl.getD n default)
def pairT (l : List Sec) (a b : ByteArray) (i k : Nat) : Prop := ((l.getD i default).nm = a ∧ (l.getD k default).nm = b) ∧ (l.getD i default).touch (l.getD k default)
def skyTouch (s : Sky) (a b : ByteArray) : Prop := s.valid ∧ a ≠ b ∧ ∃ i, i < s.secs.length ∧ ∃ k, k < s.secs.length ∧ pairT s.secs a b i k
noncomputable instance (s : Sky) (a b : ByteArray) : Decidable (skyTouch s a b) := Classical.propDecidable _
theorem Blk.bds {w h lv : Int} {b : Blk} (hd : dims w h lv) (hb : b.ok w h lv) : (0 ≤ b.x0 ∧ b.x0 ≤ 16) ∧ (0 ≤ b.y0 ∧ b.y0 ≤ 16) ∧ (0 ≤ b.x1 ∧ b.x1 ≤ 16) ∧ (0 ≤ b.y1 ∧ b.y1 ≤ 16) ∧ (0 ≤ b.lo ∧ b.lo ≤ 16) ∧ (0 ≤ b.hi ∧ b.hi ≤ 16) := by
  unfold dims at hd; unfold Blk.ok at hb; omega
theorem sec_lt {w h lv : Int} {l : List Sec} (hq : secsOk w h lv l) : ∀ j i, i < j → j < l.length → slt (l.getD i default).nm (l.getD j default).nm := by
  intro j
  induction j with
  | zero => intro i h1; omega
  | succ j ih =>
    intro i h1 h2
    have h3 := (hq.2 (j + 1) h2).2.1 (by omega)
    simp only [Nat.add_sub_cancel] at h3
    by_cases e : i = j
    · subst e; exact h3
    · exact slt_trans (ih i (by omega) (by omega)) h3
theorem sec_inj {w h lv : Int} {l : List Sec} (hq : secsOk w h lv l) {i j : Nat} (hi : i < l.length) (hj : j < l.length) (e : (l.getD i default).nm = (l.getD j default).nm) : i = j := by
  rcases Nat.lt_trichotomy i j with h | h | h
  · have := sec_lt hq j i h hj; rw [e] at this; exact (slt_irrefl _ this).elim
  · exact h
  · have := sec_lt hq i j h hi; rw [e] at this; exact (slt_irrefl _ this).elim
def sIdx (l : List Sec) (a : ByteArray) : Int := fIdx (fun c => decide (c.nm = a)) l
theorem c_l5Sector (s : Sky) (a : ByteArray) (hs : s.small) : Contract P 88 [.agg (s.row 0), .str a] [] (.int .i64 (sIdx s.secs a)) [] := by
  have hl : s.secs.length ≤ 1048576 := hs.2.2.1.1
  simp only [Sky.row]
  refine fn_sound (Env.nil P) hm k_spec_l5Sector (Nat.le_of_ble_eq_true rfl) rfl ?_; unfold s_spec_l5Sector; simp (config := { maxSteps := 2000000 }) only [bitvec_to_nat, reduceIte, Nat.reduceEqDiff, Nat.reduceAdd, Nat.reduceLeDiff, reduceCtorEq, Nat.reduceBEq, Nat.reduceLT, List.forall_mem_cons, tk_map, dp_map, toNat_pred, appE, rowsOf, List.take_length, List.length_cons, List.length_nil, Nat.zero_add, srow, irow, un_s, un_i, Zone.row, Zone_eta, un_Zone, Pt.row, Pt_eta, un_Pt, Aw.row, Aw_eta, un_Aw, Blk.row, Blk_eta, un_Blk, Sec.row, Sec_eta, un_Sec, Rw.row, Rw_eta, un_Rw, Sky_eta]
  refine loop_st (fun i : Nat => [(5, .int .i64 i)]) (fun _ => []) (fun i => i ≤ s.secs.length ∧ ∀ j, j < i → decide ((s.secs.getD j default).nm = a) = false) (fun i => s.secs.length - i) (0) (by simp only [u_E0, u_E1, u_M0, u_M1, w_setE0, w_setE1, w_setM0, w_setM1, reduceIte, Nat.reduceEqDiff]; exact ⟨by repeat' (first | exact trivial | refine ⟨.inr rfl, ?_⟩), by repeat' (first | exact trivial | refine ⟨rfl, ?_⟩), by first | rfl | simp [closedB, refsIn, refsInL, refsInO, dom, refsInL_nr, *], by first | rfl | simp [keepB, dom]⟩) ?_ ?_
  · exact ⟨Nat.zero_le _, by intro j hj; omega⟩
  intro i hi NX hN
  unfold l_spec_l5Sector_0; simp (config := { maxSteps := 2000000 }) only [bitvec_to_nat, reduceIte, Nat.reduceEqDiff, Nat.reduceAdd, Nat.reduceLeDiff, reduceCtorEq, Nat.reduceBEq, Nat.reduceLT, List.forall_mem_cons, tk_map, dp_map, toNat_pred, appE, rowsOf, List.take_length, List.length_cons, List.length_nil, Nat.zero_add, srow, irow, un_s, un_i, Zone.row, Zone_eta, un_Zone, Pt.row, Pt_eta, un_Pt, Aw.row, Aw_eta, un_Aw, Blk.row, Blk_eta, un_Blk, Sec.row, Sec_eta, un_Sec, Rw.row, Rw_eta, un_Rw, Sky_eta]
  
  repeat' (first | with_reducible apply And.intro | with_reducible intro _)
  all_goals first
    | omega
    | (refine hN (i + 1) _ (by simp only [u_E0, u_E1, u_M0, u_M1, w_setE0, w_setE1, w_setM0, w_setM1, reduceIte, Nat.reduceEqDiff]; exact ⟨by repeat' (first | exact trivial | refine ⟨.inr rfl, ?_⟩), by repeat' (first | exact trivial | refine ⟨rfl, ?_⟩), by first | rfl | simp [closedB, refsIn, refsInL, refsInO, dom, refsInL_nr, *], by first | rfl | simp [keepB, dom]⟩) ?_ ?_
       · exact ⟨by omega, all_snoc hi.2 (by simpa using ‹¬ _›)⟩
       · omega)
    | (unfold sIdx; rw [fIdx_at (i := i) (by omega) (by simpa using ‹_›) hi.2])
    | (unfold sIdx; rw [fIdx_none fun j hj => hi.2 j (by omega)])
def t_l5Sector : List AV → Option (Prop × AV)
  | [.agg [.int .i64 s_w, .int .i64 s_h, .int .i64 s_lv, .sl 0 3 s_pts, .sl 0 2 s_aws, .sl 0 2 s_secs, .sl 0 4 s_rws], .str a] => some ((((s_pts.map unPt).map Pt.row = s_pts) ∧ ((s_aws.map unAw).map (Aw.row 0) = s_aws) ∧ ((s_secs.map unSec).map (Sec.row 0) = s_secs) ∧ ((s_rws.map unRw).map Rw.row = s_rws)) ∧ ((Sky.mk s_w s_h s_lv (s_pts.map unPt) (s_aws.map unAw) (s_secs.map unSec) (s_rws.map unRw)).small), .int .i64 (sIdx (Sky.mk s_w s_h s_lv (s_pts.map unPt) (s_aws.map unAw) (s_secs.map unSec) (s_rws.map unRw)).secs a))
  | _ => none
theorem h_l5Sector : ∀ args p v, t_l5Sector args = some (p, v) → p → Contract P 88 args [] v [] ∧ noref v = true ∧ No99 v := by
  intro args p v h1 h2
  unfold t_l5Sector at h1
  split at h1
  · rename_i s_w s_h s_lv s_pts s_aws s_secs s_rws a
    cases h1
    obtain ⟨⟨e0, e1, e2, e3⟩, HP⟩ := h2
    have := c_l5Sector (Sky.mk s_w s_h s_lv (s_pts.map unPt) (s_aws.map unAw) (s_secs.map unSec) (s_rws.map unRw)) a HP
    exact ⟨by simpa only [e0, e1, e2, e3, Sky.row] using this, rfl, trivial⟩
  · cases h1
theorem c_l5Touch (a b : Blk) {w h lv : Int} (hd : dims w h lv) (ha : a.ok w h lv) (hb : b.ok w h lv) : Contract P 89 [.agg a.row, .agg b.row] [] (.bool (decide (a.touch b))) [] := by
  have h1 := Blk.bds hd ha
  have h2 := Blk.bds hd hb
  simp only [Blk.row]
  refine fn_sound (Env.nil P) hm k_spec_l5Touch (Nat.le_of_ble_eq_true rfl) rfl ?_; unfold s_spec_l5Touch; simp (config := { maxSteps := 2000000 }) only [bitvec_to_nat, reduceIte, Nat.reduceEqDiff, Nat.reduceAdd, Nat.reduceLeDiff, reduceCtorEq, Nat.reduceBEq, Nat.reduceLT, List.forall_mem_cons, tk_map, dp_map, toNat_pred, appE, rowsOf, List.take_length, List.length_cons, List.length_nil, Nat.zero_add, srow, irow, un_s, un_i, Zone.row, Zone_eta, un_Zone, Pt.row, Pt_eta, un_Pt, Aw.row, Aw_eta, un_Aw, Blk.row, Blk_eta, un_Blk, Sec.row, Sec_eta, un_Sec, Rw.row, Rw_eta, un_Rw, Sky_eta]
  repeat' (first | with_reducible apply And.intro | with_reducible intro _)
  all_goals first | omega | grind [Blk.touch]
def t_l5Touch : List AV → Option (Prop × AV)
  | [.agg [.int .i64 a_x0, .int .i64 a_y0, .int .i64 a_x1, .int .i64 a_y1, .int .i64 a_lo, .int .i64 a_hi], .agg [.int .i64 b_x0, .int .i64 b_y0, .int .i64 b_x1, .int .i64 b_y1, .int .i64 b_lo, .int .i64 b_hi]] => some ((True) ∧ (∃ w h lv, dims w h lv ∧ Blk.ok w h lv (Blk.mk a_x0 a_y0 a_x1 a_y1 a_lo a_hi) ∧ Blk.ok w h lv (Blk.mk b_x0 b_y0 b_x1 b_y1 b_lo b_hi)), .bool (decide (Blk.touch (Blk.mk a_x0 a_y0 a_x1 a_y1 a_lo a_hi) (Blk.mk b_x0 b_y0 b_x1 b_y1 b_lo b_hi))))
  | _ => none
theorem h_l5Touch : ∀ args p v, t_l5Touch args = some (p, v) → p → Contract P 89 args [] v [] ∧ noref v = true ∧ No99 v := by
  intro args p v h1 h2
  unfold t_l5Touch at h1
  split at h1
  · rename_i a_x0 a_y0 a_x1 a_y1 a_lo a_hi b_x0 b_y0 b_x1 b_y1 b_lo b_hi
    cases h1
    obtain ⟨_, HP⟩ := h2
    have := c_l5Touch (Blk.mk a_x0 a_y0 a_x1 a_y1 a_lo a_hi) (Blk.mk b_x0 b_y0 b_x1 b_y1 b_lo b_hi) HP.choose_spec.choose_spec.choose_spec.1 HP.choose_spec.choose_spec.choose_spec.2.1 HP.choose_spec.choose_spec.choose_spec.2.2
    exact ⟨by simpa only [Blk.row, Blk.row] using this, rfl, trivial⟩
  · cases h1
set_option maxHeartbeats 1000000 in
theorem c_iSkyTouch (s : Sky) (a b : ByteArray) (hs : s.small) (hf : s.fitp) : Contract P 21 [.agg (s.row 0), .str a, .str b] [] (.bool (decide (skyTouch s a b))) [] := by
  have hl : s.secs.length ≤ 1048576 := hs.2.2.1.1
  simp only [Sky.row]
  refine fn_sound (((Env.nil P).add 15 t_iSkyValid h_iSkyValid).add 79 t_iMeets h_iMeets) hm k_impl_SkyTouch (Nat.le_of_ble_eq_true rfl) rfl ?_; unfold s_impl_SkyTouch; simp (config := { maxSteps := 2000000 }) only [bitvec_to_nat, reduceIte, Nat.reduceEqDiff, Nat.reduceAdd, Nat.reduceLeDiff, reduceCtorEq, Nat.reduceBEq, Nat.reduceLT, List.forall_mem_cons, t_iSkyValid, t_iMeets, tk_map, dp_map, toNat_pred, appE, rowsOf, List.take_length, List.length_cons, List.length_nil, Nat.zero_add, srow, irow, un_s, un_i, Zone.row, Zone_eta, un_Zone, Pt.row, Pt_eta, un_Pt, Aw.row, Aw_eta, un_Aw, Blk.row, Blk_eta, un_Blk, Sec.row, Sec_eta, un_Sec, Rw.row, Rw_eta, un_Rw, Sky_eta]
  refine ⟨⟨hs, hf⟩, fun hv => ⟨fun h1 => ?_, fun h1 => ?_⟩, fun hv => ?_⟩
  · exact fun h => h.2.1 h1
  rotate_left
  · exact fun h => hv h.1
  have hd := hv.1
  have hq := hv.2.2.2.1
  refine loop_st (fun i : Nat => [(27, .int .i64 i)]) (fun _ => []) (fun i => i ≤ s.secs.length ∧ ∀ j, j < i → ∀ k, k < s.secs.length → ¬ pairT s.secs a b j k) (fun i => s.secs.length - i) (0) (by simp only [u_E0, u_E1, u_M0, u_M1, w_setE0, w_setE1, w_setM0, w_setM1, reduceIte, Nat.reduceEqDiff]; exact ⟨by repeat' (first | exact trivial | refine ⟨.inr rfl, ?_⟩), by repeat' (first | exact trivial | refine ⟨rfl, ?_⟩), by first | rfl | simp [closedB, refsIn, refsInL, refsInO, dom, refsInL_nr, *], by first | rfl | simp [keepB, dom]⟩) ?_ ?_
  · exact ⟨Nat.zero_le _, by intro j hj; omega⟩
  intro i hi NX hN
  unfold l_impl_SkyTouch_3; simp (config := { maxSteps := 2000000 }) only [bitvec_to_nat, reduceIte, Nat.reduceEqDiff, Nat.reduceAdd, Nat.reduceLeDiff, reduceCtorEq, Nat.reduceBEq, Nat.reduceLT, List.forall_mem_cons, t_iSkyValid, t_iMeets, tk_map, dp_map, toNat_pred, appE, rowsOf, List.take_length, List.length_cons, List.length_nil, Nat.zero_add, srow, irow, un_s, un_i, Zone.row, Zone_eta, un_Zone, Pt.row, Pt_eta, un_Pt, Aw.row, Aw_eta, un_Aw, Blk.row, Blk_eta, un_Blk, Sec.row, Sec_eta, un_Sec, Rw.row, Rw_eta, un_Rw, Sky_eta]
  refine ⟨fun g1 => ⟨by omega, by omega, ?_⟩, fun g1 => ?_⟩
  rotate_left
  · rintro ⟨_, _, j, hj, k, hk, h⟩; exact hi.2 j (by omega) k hk h
  have hb1 : ∀ m, m < (s.secs.getD i default).bl.length → ((s.secs.getD i default).bl.getD m default).ok s.w s.h s.lv := fun m hm => ((hq.2 i (by omega)).2.2.2 m hm).1
  have hn1 := Sky.small_sec hs (i := i) (by omega)
  refine loop_st (fun k : Nat => [(34, .int .i64 k)]) (fun _ => []) (fun k => k ≤ s.secs.length ∧ ∀ q, q < k → ¬ pairT s.secs a b i q) (fun k => s.secs.length - k) (0) (by simp only [u_E0, u_E1, u_M0, u_M1, w_setE0, w_setE1, w_setM0, w_setM1, reduceIte, Nat.reduceEqDiff]; exact ⟨by repeat' (first | exact trivial | refine ⟨.inr rfl, ?_⟩), by repeat' (first | exact trivial | refine ⟨rfl, ?_⟩), by first | rfl | simp [closedB, refsIn, refsInL, refsInO, dom, refsInL_nr, *], by first | rfl | simp [keepB, dom]⟩) ?_ ?_
  · exact ⟨Nat.zero_le _, by intro j hj; omega⟩
  intro k hk NX2 hN2
  unfold l_impl_SkyTouch_2; simp (config := { maxSteps := 2000000 }) only [bitvec_to_nat, reduceIte, Nat.reduceEqDiff, Nat.reduceAdd, Nat.reduceLeDiff, reduceCtorEq, Nat.reduceBEq, Nat.reduceLT, List.forall_mem_cons, t_iSkyValid, t_iMeets, tk_map, dp_map, toNat_pred, appE, rowsOf, List.take_length, List.length_cons, List.length_nil, Nat.zero_add, srow, irow, un_s, un_i, Zone.row, Zone_eta, un_Zone, Pt.row, Pt_eta, un_Pt, Aw.row, Aw_eta, un_Aw, Blk.row, Blk_eta, un_Blk, Sec.row, Sec_eta, un_Sec, Rw.row, Rw_eta, un_Rw, Sky_eta]
  refine ⟨fun g2 => ⟨by omega, by omega, fun e1 => ⟨fun e2 => ?_, fun e2 => ⟨by omega, ?_⟩⟩, fun e1 => ⟨by omega, ?_⟩⟩, fun g2 => ⟨by omega, ?_⟩⟩
  rotate_left
  · refine hN2 (k + 1) _ (by simp only [u_E0, u_E1, u_M0, u_M1, w_setE0, w_setE1, w_setM0, w_setM1, reduceIte, Nat.reduceEqDiff]; exact ⟨by repeat' (first | exact trivial | refine ⟨.inr rfl, ?_⟩), by repeat' (first | exact trivial | refine ⟨rfl, ?_⟩), by first | rfl | simp [closedB, refsIn, refsInL, refsInO, dom, refsInL_nr, *], by first | rfl | simp [keepB, dom]⟩) ?_ ?_
    · exact ⟨by omega, all_snoc hk.2 fun h => e2 h.1.2⟩
    · omega
  · refine hN2 (k + 1) _ (by simp only [u_E0, u_E1, u_M0, u_M1, w_setE0, w_setE1, w_setM0, w_setM1, reduceIte, Nat.reduceEqDiff]; exact ⟨by repeat' (first | exact trivial | refine ⟨.inr rfl, ?_⟩), by repeat' (first | exact trivial | refine ⟨rfl, ?_⟩), by first | rfl | simp [closedB, refsIn, refsInL, refsInO, dom, refsInL_nr, *], by first | rfl | simp [keepB, dom]⟩) ?_ ?_
    · exact ⟨by omega, all_snoc hk.2 fun h => e1 h.1.1⟩
    · omega
  · refine hN (i + 1) _ (by simp only [u_E0, u_E1, u_M0, u_M1, w_setE0, w_setE1, w_setM0, w_setM1, reduceIte, Nat.reduceEqDiff]; exact ⟨by repeat' (first | exact trivial | refine ⟨.inr rfl, ?_⟩), by repeat' (first | exact trivial | refine ⟨rfl, ?_⟩), by first | rfl | simp [closedB, refsIn, refsInL, refsInO, dom, refsInL_nr, *], by first | rfl | simp [keepB, dom]⟩) ?_ ?_
    · exact ⟨by omega, all_snoc (p := fun j => ∀ k, k < s.secs.length → ¬ pairT s.secs a b j k) hi.2 fun k hk' => hk.2 k (by omega)⟩
    · omega
  have hb2 : ∀ m, m < (s.secs.getD k default).bl.length → ((s.secs.getD k default).bl.getD m default).ok s.w s.h s.lv := fun m hm => ((hq.2 k (by omega)).2.2.2 m hm).1
  have hn2 := Sky.small_sec hs (i := k) (by omega)
  refine loop_st (fun m : Nat => [(51, .int .i64 m)]) (fun _ => []) (fun m => m ≤ (s.secs.getD i default).bl.length ∧ ∀ q, q < m → ∀ n, n < (s.secs.getD k default).bl.length → ¬ ((s.secs.getD i default).bl.getD q default).touch ((s.secs.getD k default).bl.getD n default)) (fun m => (s.secs.getD i default).bl.length - m) (0) (by simp only [u_E0, u_E1, u_M0, u_M1, w_setE0, w_setE1, w_setM0, w_setM1, reduceIte, Nat.reduceEqDiff]; exact ⟨by repeat' (first | exact trivial | refine ⟨.inr rfl, ?_⟩), by repeat' (first | exact trivial | refine ⟨rfl, ?_⟩), by first | rfl | simp [closedB, refsIn, refsInL, refsInO, dom, refsInL_nr, *], by first | rfl | simp [keepB, dom]⟩) ?_ ?_
  · exact ⟨Nat.zero_le _, by intro j hj; omega⟩
  intro m hm NX3 hN3
  unfold l_impl_SkyTouch_1; simp (config := { maxSteps := 2000000 }) only [bitvec_to_nat, reduceIte, Nat.reduceEqDiff, Nat.reduceAdd, Nat.reduceLeDiff, reduceCtorEq, Nat.reduceBEq, Nat.reduceLT, List.forall_mem_cons, t_iSkyValid, t_iMeets, tk_map, dp_map, toNat_pred, appE, rowsOf, List.take_length, List.length_cons, List.length_nil, Nat.zero_add, srow, irow, un_s, un_i, Zone.row, Zone_eta, un_Zone, Pt.row, Pt_eta, un_Pt, Aw.row, Aw_eta, un_Aw, Blk.row, Blk_eta, un_Blk, Sec.row, Sec_eta, un_Sec, Rw.row, Rw_eta, un_Rw, Sky_eta]
  refine ⟨fun g3 => ⟨by omega, by omega, ?_⟩, fun g3 => ⟨by omega, ?_⟩⟩
  rotate_left
  · refine hN2 (k + 1) _ (by simp only [u_E0, u_E1, u_M0, u_M1, w_setE0, w_setE1, w_setM0, w_setM1, reduceIte, Nat.reduceEqDiff]; exact ⟨by repeat' (first | exact trivial | refine ⟨.inr rfl, ?_⟩), by repeat' (first | exact trivial | refine ⟨rfl, ?_⟩), by first | rfl | simp [closedB, refsIn, refsInL, refsInO, dom, refsInL_nr, *], by first | rfl | simp [keepB, dom]⟩) ?_ ?_
    · refine ⟨by omega, all_snoc hk.2 ?_⟩
      rintro ⟨_, q, hq', n, hn', h⟩
      exact hm.2 q (by omega) n hn' h
    · omega
  have b1 := Blk.bds hd (hb1 m (by omega))
  refine loop_st (fun n : Nat => [(58, .int .i64 n)]) (fun _ => []) (fun n => n ≤ (s.secs.getD k default).bl.length ∧ ∀ q, q < n → ¬ ((s.secs.getD i default).bl.getD m default).touch ((s.secs.getD k default).bl.getD q default)) (fun n => (s.secs.getD k default).bl.length - n) (0) (by simp only [u_E0, u_E1, u_M0, u_M1, w_setE0, w_setE1, w_setM0, w_setM1, reduceIte, Nat.reduceEqDiff]; exact ⟨by repeat' (first | exact trivial | refine ⟨.inr rfl, ?_⟩), by repeat' (first | exact trivial | refine ⟨rfl, ?_⟩), by first | rfl | simp [closedB, refsIn, refsInL, refsInO, dom, refsInL_nr, *], by first | rfl | simp [keepB, dom]⟩) ?_ ?_
  · exact ⟨Nat.zero_le _, by intro j hj; omega⟩
  intro n hn NX4 hN4
  unfold l_impl_SkyTouch_0; simp (config := { maxSteps := 2000000 }) only [bitvec_to_nat, reduceIte, Nat.reduceEqDiff, Nat.reduceAdd, Nat.reduceLeDiff, reduceCtorEq, Nat.reduceBEq, Nat.reduceLT, List.forall_mem_cons, t_iSkyValid, t_iMeets, tk_map, dp_map, toNat_pred, appE, rowsOf, List.take_length, List.length_cons, List.length_nil, Nat.zero_add, srow, irow, un_s, un_i, Zone.row, Zone_eta, un_Zone, Pt.row, Pt_eta, un_Pt, Aw.row, Aw_eta, un_Aw, Blk.row, Blk_eta, un_Blk, Sec.row, Sec_eta, un_Sec, Rw.row, Rw_eta, un_Rw, Sky_eta]
  refine ⟨fun g4 => ⟨by omega, by omega, by omega, by omega, by omega, by omega, by omega, by omega, fun g5 => ?_, fun g5 => ⟨by omega, ?_⟩⟩, fun g4 => ⟨by omega, ?_⟩⟩
  · exact ⟨hv, h1, i, by omega, k, by omega, ⟨e1, e2⟩, m, by omega, n, by omega, g5⟩
  · refine hN4 (n + 1) _ (by simp only [u_E0, u_E1, u_M0, u_M1, w_setE0, w_setE1, w_setM0, w_setM1, reduceIte, Nat.reduceEqDiff]; exact ⟨by repeat' (first | exact trivial | refine ⟨.inr rfl, ?_⟩), by repeat' (first | exact trivial | refine ⟨rfl, ?_⟩), by first | rfl | simp [closedB, refsIn, refsInL, refsInO, dom, refsInL_nr, *], by first | rfl | simp [keepB, dom]⟩) ?_ ?_
    · exact ⟨by omega, all_snoc hn.2 g5⟩
    · omega
  · refine hN3 (m + 1) _ (by simp only [u_E0, u_E1, u_M0, u_M1, w_setE0, w_setE1, w_setM0, w_setM1, reduceIte, Nat.reduceEqDiff]; exact ⟨by repeat' (first | exact trivial | refine ⟨.inr rfl, ?_⟩), by repeat' (first | exact trivial | refine ⟨rfl, ?_⟩), by first | rfl | simp [closedB, refsIn, refsInL, refsInO, dom, refsInL_nr, *], by first | rfl | simp [keepB, dom]⟩) ?_ ?_
    · exact ⟨by omega, all_snoc (p := fun q => ∀ n, n < (s.secs.getD k default).bl.length → ¬ ((s.secs.getD i default).bl.getD q default).touch ((s.secs.getD k default).bl.getD n default)) hm.2 fun q hq' => hn.2 q (by omega)⟩
    · omega
def t_iSkyTouch : List AV → Option (Prop × AV)
  | [.agg [.int .i64 s_w, .int .i64 s_h, .int .i64 s_lv, .sl 0 3 s_pts, .sl 0 2 s_aws, .sl 0 2 s_secs, .sl 0 4 s_rws], .str a, .str b] => some ((((s_pts.map unPt).map Pt.row = s_pts) ∧ ((s_aws.map unAw).map (Aw.row 0) = s_aws) ∧ ((s_secs.map unSec).map (Sec.row 0) = s_secs) ∧ ((s_rws.map unRw).map Rw.row = s_rws)) ∧ ((Sky.mk s_w s_h s_lv (s_pts.map unPt) (s_aws.map unAw) (s_secs.map unSec) (s_rws.map unRw)).small ∧ (Sky.mk s_w s_h s_lv (s_pts.map unPt) (s_aws.map unAw) (s_secs.map unSec) (s_rws.map unRw)).fitp), .bool (decide (skyTouch (Sky.mk s_w s_h s_lv (s_pts.map unPt) (s_aws.map unAw) (s_secs.map unSec) (s_rws.map unRw)) a b)))
  | _ => none
theorem h_iSkyTouch : ∀ args p v, t_iSkyTouch args = some (p, v) → p → Contract P 21 args [] v [] ∧ noref v = true ∧ No99 v := by
  intro args p v h1 h2
  unfold t_iSkyTouch at h1
  split at h1
  · rename_i s_w s_h s_lv s_pts s_aws s_secs s_rws a b
    cases h1
    obtain ⟨⟨e0, e1, e2, e3⟩, HP⟩ := h2
    have := c_iSkyTouch (Sky.mk s_w s_h s_lv (s_pts.map unPt) (s_aws.map unAw) (s_secs.map unSec) (s_rws.map unRw)) a b HP.1 HP.2
    exact ⟨by simpa only [e0, e1, e2, e3, Sky.row] using this, rfl, trivial⟩
  · cases h1
theorem sIdx_spec (l : List Sec) (a : ByteArray) : (sIdx l a = -1 ∧ ∀ j, j < l.length → (l.getD j default).nm ≠ a) ∨ ∃ i : Nat, sIdx l a = i ∧ i < l.length ∧ (l.getD i default).nm = a := by
  rcases fIdx_spec (fun c : Sec => decide (c.nm = a)) l with ⟨h1, h2⟩ | ⟨i, h1, h2, h3, _⟩
  · exact .inl ⟨h1, fun j hj => by simpa using h2 j hj⟩
  · exact .inr ⟨i, h1, h2, by simpa using h3⟩
set_option maxHeartbeats 1000000 in
theorem c_sSkyTouch (s : Sky) (a b : ByteArray) (hs : s.small) : Contract P 20 [.agg (s.row 0), .str a, .str b] [] (.bool (decide (skyTouch s a b))) [] := by
  have hl : s.secs.length ≤ 1048576 := hs.2.2.1.1
  rcases sIdx_spec s.secs a with ⟨ei, ha⟩ | ⟨i, ei, hi, ha⟩
  · have ek : True := trivial
    have hno : ¬ skyTouch s a b := by rintro ⟨_, _, i, hi, k, hk, h⟩; exact ha i hi h.1.1
    simp only [Sky.row]
    refine fn_sound ((((Env.nil P).add 13 t_sSkyValid h_sSkyValid).add 88 t_l5Sector h_l5Sector).add 89 t_l5Touch h_l5Touch) hm k_spec_SkyTouch (Nat.le_of_ble_eq_true rfl) rfl ?_; unfold s_spec_SkyTouch; simp (config := { maxSteps := 2000000 }) only [bitvec_to_nat, reduceIte, Nat.reduceEqDiff, Nat.reduceAdd, Nat.reduceLeDiff, reduceCtorEq, Nat.reduceBEq, Nat.reduceLT, List.forall_mem_cons, t_sSkyValid, t_l5Sector, t_l5Touch, tk_map, dp_map, toNat_pred, appE, rowsOf, List.take_length, List.length_cons, List.length_nil, Nat.zero_add, srow, irow, un_s, un_i, Zone.row, Zone_eta, un_Zone, Pt.row, Pt_eta, un_Pt, Aw.row, Aw_eta, un_Aw, Blk.row, Blk_eta, un_Blk, Sec.row, Sec_eta, un_Sec, Rw.row, Rw_eta, un_Rw, Sky_eta, ei, ek]
    repeat' (first | with_reducible apply And.intro | with_reducible intro _)
    all_goals first | exact hs | exact hno | omega
  rcases sIdx_spec s.secs b with ⟨ek, hb⟩ | ⟨k, ek, hk, hb⟩
  · have hno : ¬ skyTouch s a b := by rintro ⟨_, _, i, hi, k, hk, h⟩; exact hb k hk h.1.2
    simp only [Sky.row]
    refine fn_sound ((((Env.nil P).add 13 t_sSkyValid h_sSkyValid).add 88 t_l5Sector h_l5Sector).add 89 t_l5Touch h_l5Touch) hm k_spec_SkyTouch (Nat.le_of_ble_eq_true rfl) rfl ?_; unfold s_spec_SkyTouch; simp (config := { maxSteps := 2000000 }) only [bitvec_to_nat, reduceIte, Nat.reduceEqDiff, Nat.reduceAdd, Nat.reduceLeDiff, reduceCtorEq, Nat.reduceBEq, Nat.reduceLT, List.forall_mem_cons, t_sSkyValid, t_l5Sector, t_l5Touch, tk_map, dp_map, toNat_pred, appE, rowsOf, List.take_length, List.length_cons, List.length_nil, Nat.zero_add, srow, irow, un_s, un_i, Zone.row, Zone_eta, un_Zone, Pt.row, Pt_eta, un_Pt, Aw.row, Aw_eta, un_Aw, Blk.row, Blk_eta, un_Blk, Sec.row, Sec_eta, un_Sec, Rw.row, Rw_eta, un_Rw, Sky_eta, ei, ek]
    repeat' (first | with_reducible apply And.intro | with_reducible intro _)
    all_goals first | exact hs | exact hno | omega
  simp only [Sky.row]
  refine fn_sound ((((Env.nil P).add 13 t_sSkyValid h_sSkyValid).add 88 t_l5Sector h_l5Sector).add 89 t_l5Touch h_l5Touch) hm k_spec_SkyTouch (Nat.le_of_ble_eq_true rfl) rfl ?_; unfold s_spec_SkyTouch; simp (config := { maxSteps := 2000000 }) only [bitvec_to_nat, reduceIte, Nat.reduceEqDiff, Nat.reduceAdd, Nat.reduceLeDiff, reduceCtorEq, Nat.reduceBEq, Nat.reduceLT, List.forall_mem_cons, t_sSkyValid, t_l5Sector, t_l5Touch, tk_map, dp_map, toNat_pred, appE, rowsOf, List.take_length, List.length_cons, List.length_nil, Nat.zero_add, srow, irow, un_s, un_i, Zone.row, Zone_eta, un_Zone, Pt.row, Pt_eta, un_Pt, Aw.row, Aw_eta, un_Aw, Blk.row, Blk_eta, un_Blk, Sec.row, Sec_eta, un_Sec, Rw.row, Rw_eta, un_Rw, Sky_eta, ei, ek]
  refine ⟨hs, hs, hs, fun hv => ⟨by omega, fun _ => ⟨by omega, fun _ => ⟨fun e h => ?_, fun e => ?_⟩⟩⟩, fun hv h => hv h.1⟩
  · have : i = k := by omega
    subst this
    exact h.2.1 (ha.symm.trans hb)
  have hd := hv.1
  have hq := hv.2.2.2.1
  have K : skyTouch s a b → (s.secs.getD i default).touch (s.secs.getD k default) := by
    rintro ⟨_, _, i', hi', k', hk', ⟨h1, h2⟩, h3⟩
    have := sec_inj hq hi' hi (h1.trans ha.symm)
    have := sec_inj hq hk' hk (h2.trans hb.symm)
    subst i'; subst k'
    exact h3
  have hn1 := Sky.small_sec hs hi
  have hn2 := Sky.small_sec hs hk
  refine loop_st (fun m : Nat => [(9, .int .i64 m)]) (fun _ => []) (fun m => m ≤ (s.secs.getD i default).bl.length ∧ ∀ q, q < m → ∀ n, n < (s.secs.getD k default).bl.length → ¬ ((s.secs.getD i default).bl.getD q default).touch ((s.secs.getD k default).bl.getD n default)) (fun m => (s.secs.getD i default).bl.length - m) (0) (by simp only [u_E0, u_E1, u_M0, u_M1, w_setE0, w_setE1, w_setM0, w_setM1, reduceIte, Nat.reduceEqDiff]; exact ⟨by repeat' (first | exact trivial | refine ⟨.inr rfl, ?_⟩), by repeat' (first | exact trivial | refine ⟨rfl, ?_⟩), by first | rfl | simp [closedB, refsIn, refsInL, refsInO, dom, refsInL_nr, *], by first | rfl | simp [keepB, dom]⟩) ?_ ?_
  · exact ⟨Nat.zero_le _, by intro j hj; omega⟩
  intro m hm NX hN
  unfold l_spec_SkyTouch_1; simp (config := { maxSteps := 2000000 }) only [bitvec_to_nat, reduceIte, Nat.reduceEqDiff, Nat.reduceAdd, Nat.reduceLeDiff, reduceCtorEq, Nat.reduceBEq, Nat.reduceLT, List.forall_mem_cons, t_sSkyValid, t_l5Sector, t_l5Touch, tk_map, dp_map, toNat_pred, appE, rowsOf, List.take_length, List.length_cons, List.length_nil, Nat.zero_add, srow, irow, un_s, un_i, Zone.row, Zone_eta, un_Zone, Pt.row, Pt_eta, un_Pt, Aw.row, Aw_eta, un_Aw, Blk.row, Blk_eta, un_Blk, Sec.row, Sec_eta, un_Sec, Rw.row, Rw_eta, un_Rw, Sky_eta, ei, ek]
  repeat' (first | with_reducible apply And.intro | with_reducible intro _)
  all_goals first
    | omega
    | (refine loop_st (fun n : Nat => [(10, .int .i64 n)]) (fun _ => []) (fun n => n ≤ (s.secs.getD k default).bl.length ∧ ∀ q, q < n → ¬ ((s.secs.getD i default).bl.getD m default).touch ((s.secs.getD k default).bl.getD q default)) (fun n => (s.secs.getD k default).bl.length - n) (0) (by simp only [u_E0, u_E1, u_M0, u_M1, w_setE0, w_setE1, w_setM0, w_setM1, reduceIte, Nat.reduceEqDiff]; exact ⟨by repeat' (first | exact trivial | refine ⟨.inr rfl, ?_⟩), by repeat' (first | exact trivial | refine ⟨rfl, ?_⟩), by first | rfl | simp [closedB, refsIn, refsInL, refsInO, dom, refsInL_nr, *], by first | rfl | simp [keepB, dom]⟩) ?_ ?_
       · exact ⟨Nat.zero_le _, by intro j hj; omega⟩
       intro n hn NX2 hN2
       unfold l_spec_SkyTouch_0; simp (config := { maxSteps := 2000000 }) only [bitvec_to_nat, reduceIte, Nat.reduceEqDiff, Nat.reduceAdd, Nat.reduceLeDiff, reduceCtorEq, Nat.reduceBEq, Nat.reduceLT, List.forall_mem_cons, t_sSkyValid, t_l5Sector, t_l5Touch, tk_map, dp_map, toNat_pred, appE, rowsOf, List.take_length, List.length_cons, List.length_nil, Nat.zero_add, srow, irow, un_s, un_i, Zone.row, Zone_eta, un_Zone, Pt.row, Pt_eta, un_Pt, Aw.row, Aw_eta, un_Aw, Blk.row, Blk_eta, un_Blk, Sec.row, Sec_eta, un_Sec, Rw.row, Rw_eta, un_Rw, Sky_eta, ei, ek]
       repeat' (first | with_reducible apply And.intro | with_reducible intro _)
       all_goals first
         | omega
         | exact ⟨_, _, _, hd, ((hq.2 i (by omega)).2.2.2 m (by omega)).1, ((hq.2 k (by omega)).2.2.2 n (by omega)).1⟩
         | (refine hN2 (n + 1) _ (by simp only [u_E0, u_E1, u_M0, u_M1, w_setE0, w_setE1, w_setM0, w_setM1, reduceIte, Nat.reduceEqDiff]; exact ⟨by repeat' (first | exact trivial | refine ⟨.inr rfl, ?_⟩), by repeat' (first | exact trivial | refine ⟨rfl, ?_⟩), by first | rfl | simp [closedB, refsIn, refsInL, refsInO, dom, refsInL_nr, *], by first | rfl | simp [keepB, dom]⟩) ?_ ?_
            · exact ⟨by omega, all_snoc hn.2 (by with_reducible assumption)⟩
            · omega)
         | (refine hN (m + 1) _ (by simp only [u_E0, u_E1, u_M0, u_M1, w_setE0, w_setE1, w_setM0, w_setM1, reduceIte, Nat.reduceEqDiff]; exact ⟨by repeat' (first | exact trivial | refine ⟨.inr rfl, ?_⟩), by repeat' (first | exact trivial | refine ⟨rfl, ?_⟩), by first | rfl | simp [closedB, refsIn, refsInL, refsInO, dom, refsInL_nr, *], by first | rfl | simp [keepB, dom]⟩) ?_ ?_
            · exact ⟨by omega, all_snoc (p := fun q => ∀ n, n < (s.secs.getD k default).bl.length → ¬ ((s.secs.getD i default).bl.getD q default).touch ((s.secs.getD k default).bl.getD n default)) hm.2 fun q hq' => hn.2 q (by omega)⟩
            · omega)
         | exact ⟨hv, (fun e' => e (by have := sec_inj hq hi hk (ha.trans (e'.trans hb.symm)); omega)), i, hi, k, hk, ⟨ha, hb⟩, m, by omega, n, by omega, by with_reducible assumption⟩)
    | (intro h
       obtain ⟨q, hq', n, hn', h⟩ := K h
       exact hm.2 q (by omega) n hn' h)
    | (rename_i h
       obtain ⟨q, hq', n, hn', h⟩ := K h
       exact hm.2 q (by omega) n hn' h)
def t_sSkyTouch : List AV → Option (Prop × AV)
  | [.agg [.int .i64 s_w, .int .i64 s_h, .int .i64 s_lv, .sl 0 3 s_pts, .sl 0 2 s_aws, .sl 0 2 s_secs, .sl 0 4 s_rws], .str a, .str b] => some ((((s_pts.map unPt).map Pt.row = s_pts) ∧ ((s_aws.map unAw).map (Aw.row 0) = s_aws) ∧ ((s_secs.map unSec).map (Sec.row 0) = s_secs) ∧ ((s_rws.map unRw).map Rw.row = s_rws)) ∧ ((Sky.mk s_w s_h s_lv (s_pts.map unPt) (s_aws.map unAw) (s_secs.map unSec) (s_rws.map unRw)).small), .bool (decide (skyTouch (Sky.mk s_w s_h s_lv (s_pts.map unPt) (s_aws.map unAw) (s_secs.map unSec) (s_rws.map unRw)) a b)))
  | _ => none
theorem h_sSkyTouch : ∀ args p v, t_sSkyTouch args = some (p, v) → p → Contract P 20 args [] v [] ∧ noref v = true ∧ No99 v := by
  intro args p v h1 h2
  unfold t_sSkyTouch at h1
  split at h1
  · rename_i s_w s_h s_lv s_pts s_aws s_secs s_rws a b
    cases h1
    obtain ⟨⟨e0, e1, e2, e3⟩, HP⟩ := h2
    have := c_sSkyTouch (Sky.mk s_w s_h s_lv (s_pts.map unPt) (s_aws.map unAw) (s_secs.map unSec) (s_rws.map unRw)) a b HP
    exact ⟨by simpa only [e0, e1, e2, e3, Sky.row] using this, rfl, trivial⟩
  · cases h1
end
end Go.Ve

namespace Go.Ve
noncomputable section
open Go.Proofs
set_option linter.unusedSimpArgs false
set_option linter.unusedVariables false
set_option maxRecDepth 100000
theorem c_szStringS (t : Nat) (l : List ByteArray) (a : Int) (ha : 0 ≤ a ∧ a ≤ 1048576) (hl : l.length ≤ 9223372036854775807 ∧ ∀ y ∈ l, y.toList.length ≤ 9223372036854775807) : Contract P 39 [.sl t 1 (l.map srow), .int .i64 a] [] (.int .i64 (szS szStr l a)) [] := by
  refine fn_sound (Env.nil P) hm k_laws_szStringS (Nat.le_of_ble_eq_true rfl) rfl ?_; unfold s_laws_szStringS; simp (config := { maxSteps := 2000000 }) only [bitvec_to_nat, reduceIte, Nat.reduceEqDiff, Nat.reduceAdd, Nat.reduceLeDiff, reduceCtorEq, Nat.reduceBEq, Nat.reduceLT, List.forall_mem_cons, srow, un_s, List.take_zero, List.foldl_nil]
  have hz : szOf a l.length = if a - l.length < 0 then -1 else a - l.length := rfl
  refine ⟨by omega, fun h1 => ?_, fun h1 => ?_⟩
  · unfold szS
    rw [(fold_meas meas_str l _ (by omega) (by omega)).2.1 (by omega)]
  have e0 : szOf a l.length = a - l.length := if_neg h1
  refine loop_st (fun i : Nat => [(1, .int .i64 ((l.take i).foldl (fun a x => szStr x a) (a - l.length))), (5, .int .i64 i)]) (fun _ => []) (fun i => i ≤ l.length ∧ 0 ≤ (l.take i).foldl (fun a x => szStr x a) (a - l.length)) (fun i => l.length - i) (0) (by simp only [u_E0, u_E1, u_M0, u_M1, w_setE0, w_setE1, w_setM0, w_setM1, reduceIte, Nat.reduceEqDiff]; exact ⟨by repeat' (first | exact trivial | refine ⟨.inr rfl, ?_⟩), by repeat' (first | exact trivial | refine ⟨rfl, ?_⟩), by first | rfl | simp [closedB, refsIn, refsInL, refsInO, dom, refsInL_nr, *], by first | rfl | simp [keepB, dom]⟩) ?_ ?_
  · simp only [List.take_zero, List.foldl_nil]; omega
  intro i hi NX hN
  unfold l_laws_szStringS_0; simp (config := { maxSteps := 2000000 }) only [bitvec_to_nat, reduceIte, Nat.reduceEqDiff, Nat.reduceAdd, Nat.reduceLeDiff, reduceCtorEq, Nat.reduceBEq, Nat.reduceLT, List.forall_mem_cons, srow, un_s, List.take_zero, List.foldl_nil]
  have hm := (fold_meas meas_str (l.take i) (a - l.length) (by omega) (by omega)).2.2
  have hg : i < l.length → (l.getD i default).toList.length ≤ 9223372036854775807 := fun h => hl.2 _ (getD_mem' h)
  have hn : i < l.length → (l.take (i + 1)).foldl (fun a x => szStr x a) (a - l.length) = szStr (l.getD i default) ((l.take i).foldl (fun a x => szStr x a) (a - l.length)) := fun h => fold_take h
  have hs : i < l.length → szStr (l.getD i default) ((l.take i).foldl (fun a x => szStr x a) (a - l.length)) < 0 → szS szStr l a = -1 := fun h h2 => by unfold szS; rw [e0]; exact fold_stop meas_str h (by omega) (by omega) h2
  have hd : szStr (l.getD i default) ((l.take i).foldl (fun a x => szStr x a) (a - l.length)) = if ((l.take i).foldl (fun a x => szStr x a) (a - l.length)) - ((l.getD i default).toList.length : Nat) < 0 then -1 else ((l.take i).foldl (fun a x => szStr x a) (a - l.length)) - ((l.getD i default).toList.length : Nat) := rfl
  refine ⟨fun h2 => ⟨by omega, by omega, by omega, fun h3 => by rw [hs (by omega) (by omega)], fun h3 => ⟨by omega, ?_⟩⟩, fun h2 => ?_⟩
  · have e := hn (by omega)
    rw [hd, if_neg h3] at e
    refine hN (i + 1) _ (by simp only [e, List.length_append, List.length_cons, List.length_nil, Nat.zero_add, List.map_append, List.map_cons, List.map_nil, u_E0, u_E1, u_M0, u_M1, w_setE0, w_setE1, w_setM0, w_setM1, reduceIte, Nat.reduceEqDiff]; exact ⟨by repeat' (first | exact trivial | refine ⟨.inr rfl, ?_⟩), by repeat' (first | exact trivial | refine ⟨rfl, ?_⟩), by first | rfl | simp [closedB, refsIn, refsInL, refsInO, dom, refsInL_nr, *], by first | rfl | simp [keepB, dom]⟩) ?_ ?_
    · exact ⟨by omega, by omega⟩
    · omega
  · have e : i = l.length := by omega
    subst e
    simp only [List.take_length]; unfold szS; rw [e0]
def t_szStringS : List AV → Option (Prop × AV)
  | [.sl lt 1 lx, .int .i64 b] => some ((((lx.map unS).map srow = lx)) ∧ ((0 ≤ b ∧ b ≤ 1048576) ∧ ((lx.map unS).length ≤ 9223372036854775807 ∧ ∀ y ∈ (lx.map unS), y.toList.length ≤ 9223372036854775807)), .int .i64 (szS szStr (lx.map unS) b))
  | _ => none
theorem h_szStringS : ∀ args p v, t_szStringS args = some (p, v) → p → Contract P 39 args [] v [] ∧ noref v = true ∧ No99 v := by
  intro args p v h1 h2
  unfold t_szStringS at h1
  split at h1
  · rename_i lt lx b
    cases h1
    obtain ⟨e0, HP⟩ := h2
    have := c_szStringS lt (lx.map unS) b HP.1 HP.2
    exact ⟨by simpa only [e0] using this, rfl, trivial⟩
  · cases h1
theorem c_szBlkS (t sz : Nat) (xs : List (List AV)) (a : Int) (hp : (0 ≤ a ∧ a ≤ 1048576) ∧ xs.length ≤ 9223372036854775807) : Contract P 157 [.sl t sz xs, .int .i64 a] [] (.int .i64 (szOf a xs.length)) [] := by
  refine fn_sound (Env.nil P) hm k_laws_szSkyBlockS (Nat.le_of_ble_eq_true rfl) rfl ?_; unfold s_laws_szSkyBlockS; simp (config := { maxSteps := 2000000 }) only [bitvec_to_nat, reduceIte, Nat.reduceEqDiff, Nat.reduceAdd, Nat.reduceLeDiff, reduceCtorEq, Nat.reduceBEq, Nat.reduceLT, List.forall_mem_cons]
  refine ⟨by omega, fun h1 => ?_, fun h1 => ?_⟩
  · unfold szOf; rw [if_pos h1]
  · unfold szOf; rw [if_neg h1]
def t_szBlkS : List AV → Option (Prop × AV)
  | [.sl t sz xs, .int .i64 a] => some ((0 ≤ a ∧ a ≤ 1048576) ∧ xs.length ≤ 9223372036854775807, .int .i64 (szOf a xs.length))
  | _ => none
theorem h_szBlkS : ∀ args p v, t_szBlkS args = some (p, v) → p → Contract P 157 args [] v [] ∧ noref v = true ∧ No99 v := by
  intro args p v h1 h2
  unfold t_szBlkS at h1
  split at h1
  · cases h1; exact ⟨c_szBlkS _ _ _ _ h2, rfl, trivial⟩
  · cases h1
theorem c_szPt (s : Pt) (a : Int) (ha : 0 ≤ a ∧ a ≤ 1048576) (hs : s.fitp) : Contract P 118 [.agg s.row, .int .i64 a] [] (.int .i64 (s.sz a)) [] := by
  unfold Pt.fitp at hs
  simp only [Pt.row]
  refine fn_sound (Env.nil P) hm k_laws_szSkyPoint (Nat.le_of_ble_eq_true rfl) rfl ?_; unfold s_laws_szSkyPoint; simp (config := { maxSteps := 2000000 }) only [bitvec_to_nat, reduceIte, Nat.reduceEqDiff, Nat.reduceAdd, Nat.reduceLeDiff, reduceCtorEq, Nat.reduceBEq, Nat.reduceLT, List.forall_mem_cons, tk_map, dp_map, toNat_pred, appE, rowsOf, List.take_length, List.length_cons, List.length_nil, Nat.zero_add, srow, irow, un_s, un_i, Pt.row, Pt_eta, Aw.row, Aw_eta, Blk.row, Blk_eta, Sec.row, Sec_eta, Rw.row, Rw_eta, Sky.row, Sky_eta, un_Pt, un_Aw, un_Blk, un_Sec, un_Rw, un_Sky]
  unfold Pt.sz
  repeat' (first | with_reducible apply And.intro | with_reducible intro _)
  all_goals first | omega | (exact hs) | (exact hs.1) | (exact hs.2.1) | (exact hs.2.2) | (exact hs.2.2.1) | (exact hs.2.2.2) | (exact hs.2.2.2.1) | (exact hs.2.2.2.2) | (exact hs.1.1) | (exact hs.1.2) | (exact hs.2.1.1) | (exact hs.2.1.2) | (unfold chk; grind) | grind
def t_szPt : List AV → Option (Prop × AV)
  | [.agg [.str s_nm, .int .i64 s_x, .int .i64 s_y], .int .i64 b] => some ((True) ∧ ((0 ≤ b ∧ b ≤ 1048576) ∧ (Pt.fitp (Pt.mk s_nm s_x s_y))), .int .i64 (Pt.sz (Pt.mk s_nm s_x s_y) b))
  | _ => none
theorem h_szPt : ∀ args p v, t_szPt args = some (p, v) → p → Contract P 118 args [] v [] ∧ noref v = true ∧ No99 v := by
  intro args p v h1 h2
  unfold t_szPt at h1
  split at h1
  · rename_i s_nm s_x s_y b
    cases h1
    obtain ⟨_, HP⟩ := h2
    have := c_szPt (Pt.mk s_nm s_x s_y) b HP.1 HP.2
    exact ⟨by simpa only [Pt.row] using this, rfl, trivial⟩
  · cases h1
theorem c_szPtS (t : Nat) (l : List Pt) (a : Int) (ha : 0 ≤ a ∧ a ≤ 1048576) (hl : l.length ≤ 9223372036854775807 ∧ ∀ y ∈ l, y.fitp) : Contract P 60 [.sl t 3 (l.map Pt.row), .int .i64 a] [] (.int .i64 (szS Pt.sz l a)) [] := by
  refine fn_sound ((Env.nil P).add 118 t_szPt h_szPt) hm k_laws_szSkyPointS (Nat.le_of_ble_eq_true rfl) rfl ?_; unfold s_laws_szSkyPointS; simp (config := { maxSteps := 2000000 }) only [bitvec_to_nat, reduceIte, Nat.reduceEqDiff, Nat.reduceAdd, Nat.reduceLeDiff, reduceCtorEq, Nat.reduceBEq, Nat.reduceLT, List.forall_mem_cons, t_szPt, tk_map, dp_map, toNat_pred, appE, rowsOf, List.take_length, List.length_cons, List.length_nil, Nat.zero_add, srow, irow, un_s, un_i, Pt.row, Pt_eta, Aw.row, Aw_eta, Blk.row, Blk_eta, Sec.row, Sec_eta, Rw.row, Rw_eta, Sky.row, Sky_eta, un_Pt, un_Aw, un_Blk, un_Sec, un_Rw, un_Sky, List.take_zero, List.foldl_nil]
  have hz : szOf a l.length = if a - l.length < 0 then -1 else a - l.length := rfl
  refine ⟨by omega, fun h1 => ?_, fun h1 => ?_⟩
  · unfold szS
    rw [(fold_meas meas_Pt l _ (by omega) (by omega)).2.1 (by omega)]
  have e0 : szOf a l.length = a - l.length := if_neg h1
  refine loop_st (fun i : Nat => [(1, .int .i64 ((l.take i).foldl (fun a x => x.sz a) (a - l.length))), (5, .int .i64 i)]) (fun _ => []) (fun i => i ≤ l.length ∧ 0 ≤ (l.take i).foldl (fun a x => x.sz a) (a - l.length)) (fun i => l.length - i) (0) (by simp only [u_E0, u_E1, u_M0, u_M1, w_setE0, w_setE1, w_setM0, w_setM1, reduceIte, Nat.reduceEqDiff]; exact ⟨by repeat' (first | exact trivial | refine ⟨.inr rfl, ?_⟩), by repeat' (first | exact trivial | refine ⟨rfl, ?_⟩), by first | rfl | simp [closedB, refsIn, refsInL, refsInO, dom, refsInL_nr, *], by first | rfl | simp [keepB, dom]⟩) ?_ ?_
  · simp only [List.take_zero, List.foldl_nil]; omega
  intro i hi NX hN
  have hm := (fold_meas meas_Pt (l.take i) (a - l.length) (by omega) (by omega)).2.2
  have hg : i < l.length → (l.getD i default).fitp := fun h => hl.2 _ (getD_mem' h)
  have hn : i < l.length → (l.take (i + 1)).foldl (fun a x => x.sz a) (a - l.length) = (l.getD i default).sz ((l.take i).foldl (fun a x => x.sz a) (a - l.length)) := fun h => fold_take (f := Pt.sz) h
  have hs : i < l.length → (l.getD i default).sz ((l.take i).foldl (fun a x => x.sz a) (a - l.length)) < 0 → szS Pt.sz l a = -1 := fun h h2 => by unfold szS; rw [e0]; exact fold_stop meas_Pt h (by omega) (by omega) h2
  unfold l_laws_szSkyPointS_0; simp (config := { maxSteps := 2000000 }) only [bitvec_to_nat, reduceIte, Nat.reduceEqDiff, Nat.reduceAdd, Nat.reduceLeDiff, reduceCtorEq, Nat.reduceBEq, Nat.reduceLT, List.forall_mem_cons, t_szPt, tk_map, dp_map, toNat_pred, appE, rowsOf, List.take_length, List.length_cons, List.length_nil, Nat.zero_add, srow, irow, un_s, un_i, Pt.row, Pt_eta, Aw.row, Aw_eta, Blk.row, Blk_eta, Sec.row, Sec_eta, Rw.row, Rw_eta, Sky.row, Sky_eta, un_Pt, un_Aw, un_Blk, un_Sec, un_Rw, un_Sky, List.take_zero, List.foldl_nil]
  refine ⟨fun h2 => ⟨by omega, by omega, ⟨⟨by omega, by omega⟩, hg (by omega)⟩, fun h3 => by rw [hs (by omega) h3], fun h3 => ⟨by omega, ?_⟩⟩, fun h2 => ?_⟩
  · have e := hn (by omega)
    refine hN (i + 1) _ (by simp only [e, List.length_append, List.length_cons, List.length_nil, Nat.zero_add, List.map_append, List.map_cons, List.map_nil, u_E0, u_E1, u_M0, u_M1, w_setE0, w_setE1, w_setM0, w_setM1, reduceIte, Nat.reduceEqDiff]; exact ⟨by repeat' (first | exact trivial | refine ⟨.inr rfl, ?_⟩), by repeat' (first | exact trivial | refine ⟨rfl, ?_⟩), by first | rfl | simp [closedB, refsIn, refsInL, refsInO, dom, refsInL_nr, *], by first | rfl | simp [keepB, dom]⟩) ?_ ?_
    · exact ⟨by omega, by rw [e]; omega⟩
    · omega
  · have e : i = l.length := by omega
    subst e
    simp only [List.take_length]; unfold szS; rw [e0]
def t_szPtS : List AV → Option (Prop × AV)
  | [.sl lt 3 lx, .int .i64 b] => some ((((lx.map unPt).map Pt.row = lx)) ∧ ((0 ≤ b ∧ b ≤ 1048576) ∧ ((lx.map unPt).length ≤ 9223372036854775807 ∧ ∀ y ∈ (lx.map unPt), Pt.fitp y)), .int .i64 (szS Pt.sz (lx.map unPt) b))
  | _ => none
theorem h_szPtS : ∀ args p v, t_szPtS args = some (p, v) → p → Contract P 60 args [] v [] ∧ noref v = true ∧ No99 v := by
  intro args p v h1 h2
  unfold t_szPtS at h1
  split at h1
  · rename_i lt lx b
    cases h1
    obtain ⟨e0, HP⟩ := h2
    have := c_szPtS lt (lx.map unPt) b HP.1 HP.2
    exact ⟨by simpa only [e0] using this, rfl, trivial⟩
  · cases h1
theorem c_szRw (s : Rw) (a : Int) (ha : 0 ≤ a ∧ a ≤ 1048576) (hs : s.fitp) : Contract P 121 [.agg s.row, .int .i64 a] [] (.int .i64 (s.sz a)) [] := by
  unfold Rw.fitp at hs
  simp only [Rw.row]
  refine fn_sound (Env.nil P) hm k_laws_szSkyRunway (Nat.le_of_ble_eq_true rfl) rfl ?_; unfold s_laws_szSkyRunway; simp (config := { maxSteps := 2000000 }) only [bitvec_to_nat, reduceIte, Nat.reduceEqDiff, Nat.reduceAdd, Nat.reduceLeDiff, reduceCtorEq, Nat.reduceBEq, Nat.reduceLT, List.forall_mem_cons, tk_map, dp_map, toNat_pred, appE, rowsOf, List.take_length, List.length_cons, List.length_nil, Nat.zero_add, srow, irow, un_s, un_i, Pt.row, Pt_eta, Aw.row, Aw_eta, Blk.row, Blk_eta, Sec.row, Sec_eta, Rw.row, Rw_eta, Sky.row, Sky_eta, un_Pt, un_Aw, un_Blk, un_Sec, un_Rw, un_Sky]
  unfold Rw.sz
  repeat' (first | with_reducible apply And.intro | with_reducible intro _)
  all_goals first | omega | (exact hs) | (exact hs.1) | (exact hs.2.1) | (exact hs.2.2) | (exact hs.2.2.1) | (exact hs.2.2.2) | (exact hs.2.2.2.1) | (exact hs.2.2.2.2) | (exact hs.1.1) | (exact hs.1.2) | (exact hs.2.1.1) | (exact hs.2.1.2) | (unfold chk; grind) | grind
def t_szRw : List AV → Option (Prop × AV)
  | [.agg [.str s_nm, .int .i64 s_x, .int .i64 s_y, .int .i64 s_tn], .int .i64 b] => some ((True) ∧ ((0 ≤ b ∧ b ≤ 1048576) ∧ (Rw.fitp (Rw.mk s_nm s_x s_y s_tn))), .int .i64 (Rw.sz (Rw.mk s_nm s_x s_y s_tn) b))
  | _ => none
theorem h_szRw : ∀ args p v, t_szRw args = some (p, v) → p → Contract P 121 args [] v [] ∧ noref v = true ∧ No99 v := by
  intro args p v h1 h2
  unfold t_szRw at h1
  split at h1
  · rename_i s_nm s_x s_y s_tn b
    cases h1
    obtain ⟨_, HP⟩ := h2
    have := c_szRw (Rw.mk s_nm s_x s_y s_tn) b HP.1 HP.2
    exact ⟨by simpa only [Rw.row] using this, rfl, trivial⟩
  · cases h1
theorem c_szRwS (t : Nat) (l : List Rw) (a : Int) (ha : 0 ≤ a ∧ a ≤ 1048576) (hl : l.length ≤ 9223372036854775807 ∧ ∀ y ∈ l, y.fitp) : Contract P 63 [.sl t 4 (l.map Rw.row), .int .i64 a] [] (.int .i64 (szS Rw.sz l a)) [] := by
  refine fn_sound ((Env.nil P).add 121 t_szRw h_szRw) hm k_laws_szSkyRunwayS (Nat.le_of_ble_eq_true rfl) rfl ?_; unfold s_laws_szSkyRunwayS; simp (config := { maxSteps := 2000000 }) only [bitvec_to_nat, reduceIte, Nat.reduceEqDiff, Nat.reduceAdd, Nat.reduceLeDiff, reduceCtorEq, Nat.reduceBEq, Nat.reduceLT, List.forall_mem_cons, t_szRw, tk_map, dp_map, toNat_pred, appE, rowsOf, List.take_length, List.length_cons, List.length_nil, Nat.zero_add, srow, irow, un_s, un_i, Pt.row, Pt_eta, Aw.row, Aw_eta, Blk.row, Blk_eta, Sec.row, Sec_eta, Rw.row, Rw_eta, Sky.row, Sky_eta, un_Pt, un_Aw, un_Blk, un_Sec, un_Rw, un_Sky, List.take_zero, List.foldl_nil]
  have hz : szOf a l.length = if a - l.length < 0 then -1 else a - l.length := rfl
  refine ⟨by omega, fun h1 => ?_, fun h1 => ?_⟩
  · unfold szS
    rw [(fold_meas meas_Rw l _ (by omega) (by omega)).2.1 (by omega)]
  have e0 : szOf a l.length = a - l.length := if_neg h1
  refine loop_st (fun i : Nat => [(1, .int .i64 ((l.take i).foldl (fun a x => x.sz a) (a - l.length))), (5, .int .i64 i)]) (fun _ => []) (fun i => i ≤ l.length ∧ 0 ≤ (l.take i).foldl (fun a x => x.sz a) (a - l.length)) (fun i => l.length - i) (0) (by simp only [u_E0, u_E1, u_M0, u_M1, w_setE0, w_setE1, w_setM0, w_setM1, reduceIte, Nat.reduceEqDiff]; exact ⟨by repeat' (first | exact trivial | refine ⟨.inr rfl, ?_⟩), by repeat' (first | exact trivial | refine ⟨rfl, ?_⟩), by first | rfl | simp [closedB, refsIn, refsInL, refsInO, dom, refsInL_nr, *], by first | rfl | simp [keepB, dom]⟩) ?_ ?_
  · simp only [List.take_zero, List.foldl_nil]; omega
  intro i hi NX hN
  have hm := (fold_meas meas_Rw (l.take i) (a - l.length) (by omega) (by omega)).2.2
  have hg : i < l.length → (l.getD i default).fitp := fun h => hl.2 _ (getD_mem' h)
  have hn : i < l.length → (l.take (i + 1)).foldl (fun a x => x.sz a) (a - l.length) = (l.getD i default).sz ((l.take i).foldl (fun a x => x.sz a) (a - l.length)) := fun h => fold_take (f := Rw.sz) h
  have hs : i < l.length → (l.getD i default).sz ((l.take i).foldl (fun a x => x.sz a) (a - l.length)) < 0 → szS Rw.sz l a = -1 := fun h h2 => by unfold szS; rw [e0]; exact fold_stop meas_Rw h (by omega) (by omega) h2
  unfold l_laws_szSkyRunwayS_0; simp (config := { maxSteps := 2000000 }) only [bitvec_to_nat, reduceIte, Nat.reduceEqDiff, Nat.reduceAdd, Nat.reduceLeDiff, reduceCtorEq, Nat.reduceBEq, Nat.reduceLT, List.forall_mem_cons, t_szRw, tk_map, dp_map, toNat_pred, appE, rowsOf, List.take_length, List.length_cons, List.length_nil, Nat.zero_add, srow, irow, un_s, un_i, Pt.row, Pt_eta, Aw.row, Aw_eta, Blk.row, Blk_eta, Sec.row, Sec_eta, Rw.row, Rw_eta, Sky.row, Sky_eta, un_Pt, un_Aw, un_Blk, un_Sec, un_Rw, un_Sky, List.take_zero, List.foldl_nil]
  refine ⟨fun h2 => ⟨by omega, by omega, ⟨⟨by omega, by omega⟩, hg (by omega)⟩, fun h3 => by rw [hs (by omega) h3], fun h3 => ⟨by omega, ?_⟩⟩, fun h2 => ?_⟩
  · have e := hn (by omega)
    refine hN (i + 1) _ (by simp only [e, List.length_append, List.length_cons, List.length_nil, Nat.zero_add, List.map_append, List.map_cons, List.map_nil, u_E0, u_E1, u_M0, u_M1, w_setE0, w_setE1, w_setM0, w_setM1, reduceIte, Nat.reduceEqDiff]; exact ⟨by repeat' (first | exact trivial | refine ⟨.inr rfl, ?_⟩), by repeat' (first | exact trivial | refine ⟨rfl, ?_⟩), by first | rfl | simp [closedB, refsIn, refsInL, refsInO, dom, refsInL_nr, *], by first | rfl | simp [keepB, dom]⟩) ?_ ?_
    · exact ⟨by omega, by rw [e]; omega⟩
    · omega
  · have e : i = l.length := by omega
    subst e
    simp only [List.take_length]; unfold szS; rw [e0]
def t_szRwS : List AV → Option (Prop × AV)
  | [.sl lt 4 lx, .int .i64 b] => some ((((lx.map unRw).map Rw.row = lx)) ∧ ((0 ≤ b ∧ b ≤ 1048576) ∧ ((lx.map unRw).length ≤ 9223372036854775807 ∧ ∀ y ∈ (lx.map unRw), Rw.fitp y)), .int .i64 (szS Rw.sz (lx.map unRw) b))
  | _ => none
theorem h_szRwS : ∀ args p v, t_szRwS args = some (p, v) → p → Contract P 63 args [] v [] ∧ noref v = true ∧ No99 v := by
  intro args p v h1 h2
  unfold t_szRwS at h1
  split at h1
  · rename_i lt lx b
    cases h1
    obtain ⟨e0, HP⟩ := h2
    have := c_szRwS lt (lx.map unRw) b HP.1 HP.2
    exact ⟨by simpa only [e0] using this, rfl, trivial⟩
  · cases h1
theorem c_szAw (s : Aw) (a : Int) (ha : 0 ≤ a ∧ a ≤ 1048576) (hs : s.fitp) : Contract P 119 [.agg (s.row 1), .int .i64 a] [] (.int .i64 (s.sz a)) [] := by
  unfold Aw.fitp at hs
  simp only [Aw.row]
  refine fn_sound ((Env.nil P).add 39 t_szStringS h_szStringS) hm k_laws_szSkyAirway (Nat.le_of_ble_eq_true rfl) rfl ?_; unfold s_laws_szSkyAirway; simp (config := { maxSteps := 2000000 }) only [bitvec_to_nat, reduceIte, Nat.reduceEqDiff, Nat.reduceAdd, Nat.reduceLeDiff, reduceCtorEq, Nat.reduceBEq, Nat.reduceLT, List.forall_mem_cons, t_szStringS, tk_map, dp_map, toNat_pred, appE, rowsOf, List.take_length, List.length_cons, List.length_nil, Nat.zero_add, srow, irow, un_s, un_i, Pt.row, Pt_eta, Aw.row, Aw_eta, Blk.row, Blk_eta, Sec.row, Sec_eta, Rw.row, Rw_eta, Sky.row, Sky_eta, un_Pt, un_Aw, un_Blk, un_Sec, un_Rw, un_Sky]
  unfold Aw.sz
  have qpts : (szS szStr s.pts (a - (s.nm.toList.length : Nat))) ≤ max (a - (s.nm.toList.length : Nat)) (-1) := (meas_szS meas_str s.pts (a - (s.nm.toList.length : Nat)) (by omega)).2.2
  repeat' (first | with_reducible apply And.intro | with_reducible intro _)
  all_goals first | omega | (exact hs) | (exact hs.1) | (exact hs.2.1) | (exact hs.2.2) | (exact hs.2.2.1) | (exact hs.2.2.2) | (exact hs.2.2.2.1) | (exact hs.2.2.2.2) | (exact hs.1.1) | (exact hs.1.2) | (exact hs.2.1.1) | (exact hs.2.1.2) | (unfold chk; grind) | grind
def t_szAw : List AV → Option (Prop × AV)
  | [.agg [.str s_nm, .sl 1 1 s_pts], .int .i64 b] => some ((((s_pts.map unS).map srow = s_pts)) ∧ ((0 ≤ b ∧ b ≤ 1048576) ∧ (Aw.fitp (Aw.mk s_nm (s_pts.map unS)))), .int .i64 (Aw.sz (Aw.mk s_nm (s_pts.map unS)) b))
  | _ => none
theorem h_szAw : ∀ args p v, t_szAw args = some (p, v) → p → Contract P 119 args [] v [] ∧ noref v = true ∧ No99 v := by
  intro args p v h1 h2
  unfold t_szAw at h1
  split at h1
  · rename_i s_nm s_pts b
    cases h1
    obtain ⟨e0, HP⟩ := h2
    have := c_szAw (Aw.mk s_nm (s_pts.map unS)) b HP.1 HP.2
    exact ⟨by simpa only [e0, Aw.row] using this, rfl, trivial⟩
  · cases h1
theorem c_szAwS (t : Nat) (l : List Aw) (a : Int) (ha : 0 ≤ a ∧ a ≤ 1048576) (hl : l.length ≤ 9223372036854775807 ∧ ∀ y ∈ l, y.fitp) : Contract P 61 [.sl t 2 (l.map (Aw.row 1)), .int .i64 a] [] (.int .i64 (szS Aw.sz l a)) [] := by
  refine fn_sound ((Env.nil P).add 119 t_szAw h_szAw) hm k_laws_szSkyAirwayS (Nat.le_of_ble_eq_true rfl) rfl ?_; unfold s_laws_szSkyAirwayS; simp (config := { maxSteps := 2000000 }) only [bitvec_to_nat, reduceIte, Nat.reduceEqDiff, Nat.reduceAdd, Nat.reduceLeDiff, reduceCtorEq, Nat.reduceBEq, Nat.reduceLT, List.forall_mem_cons, t_szAw, tk_map, dp_map, toNat_pred, appE, rowsOf, List.take_length, List.length_cons, List.length_nil, Nat.zero_add, srow, irow, un_s, un_i, Pt.row, Pt_eta, Aw.row, Aw_eta, Blk.row, Blk_eta, Sec.row, Sec_eta, Rw.row, Rw_eta, Sky.row, Sky_eta, un_Pt, un_Aw, un_Blk, un_Sec, un_Rw, un_Sky, List.take_zero, List.foldl_nil]
  have hz : szOf a l.length = if a - l.length < 0 then -1 else a - l.length := rfl
  refine ⟨by omega, fun h1 => ?_, fun h1 => ?_⟩
  · unfold szS
    rw [(fold_meas meas_Aw l _ (by omega) (by omega)).2.1 (by omega)]
  have e0 : szOf a l.length = a - l.length := if_neg h1
  refine loop_st (fun i : Nat => [(1, .int .i64 ((l.take i).foldl (fun a x => x.sz a) (a - l.length))), (5, .int .i64 i)]) (fun _ => []) (fun i => i ≤ l.length ∧ 0 ≤ (l.take i).foldl (fun a x => x.sz a) (a - l.length)) (fun i => l.length - i) (0) (by simp only [u_E0, u_E1, u_M0, u_M1, w_setE0, w_setE1, w_setM0, w_setM1, reduceIte, Nat.reduceEqDiff]; exact ⟨by repeat' (first | exact trivial | refine ⟨.inr rfl, ?_⟩), by repeat' (first | exact trivial | refine ⟨rfl, ?_⟩), by first | rfl | simp [closedB, refsIn, refsInL, refsInO, dom, refsInL_nr, *], by first | rfl | simp [keepB, dom]⟩) ?_ ?_
  · simp only [List.take_zero, List.foldl_nil]; omega
  intro i hi NX hN
  have hm := (fold_meas meas_Aw (l.take i) (a - l.length) (by omega) (by omega)).2.2
  have hg : i < l.length → (l.getD i default).fitp := fun h => hl.2 _ (getD_mem' h)
  have hn : i < l.length → (l.take (i + 1)).foldl (fun a x => x.sz a) (a - l.length) = (l.getD i default).sz ((l.take i).foldl (fun a x => x.sz a) (a - l.length)) := fun h => fold_take (f := Aw.sz) h
  have hs : i < l.length → (l.getD i default).sz ((l.take i).foldl (fun a x => x.sz a) (a - l.length)) < 0 → szS Aw.sz l a = -1 := fun h h2 => by unfold szS; rw [e0]; exact fold_stop meas_Aw h (by omega) (by omega) h2
  unfold l_laws_szSkyAirwayS_0; simp (config := { maxSteps := 2000000 }) only [bitvec_to_nat, reduceIte, Nat.reduceEqDiff, Nat.reduceAdd, Nat.reduceLeDiff, reduceCtorEq, Nat.reduceBEq, Nat.reduceLT, List.forall_mem_cons, t_szAw, tk_map, dp_map, toNat_pred, appE, rowsOf, List.take_length, List.length_cons, List.length_nil, Nat.zero_add, srow, irow, un_s, un_i, Pt.row, Pt_eta, Aw.row, Aw_eta, Blk.row, Blk_eta, Sec.row, Sec_eta, Rw.row, Rw_eta, Sky.row, Sky_eta, un_Pt, un_Aw, un_Blk, un_Sec, un_Rw, un_Sky, List.take_zero, List.foldl_nil]
  refine ⟨fun h2 => ⟨by omega, by omega, ⟨⟨by omega, by omega⟩, hg (by omega)⟩, fun h3 => by rw [hs (by omega) h3], fun h3 => ⟨by omega, ?_⟩⟩, fun h2 => ?_⟩
  · have e := hn (by omega)
    refine hN (i + 1) _ (by simp only [e, List.length_append, List.length_cons, List.length_nil, Nat.zero_add, List.map_append, List.map_cons, List.map_nil, u_E0, u_E1, u_M0, u_M1, w_setE0, w_setE1, w_setM0, w_setM1, reduceIte, Nat.reduceEqDiff]; exact ⟨by repeat' (first | exact trivial | refine ⟨.inr rfl, ?_⟩), by repeat' (first | exact trivial | refine ⟨rfl, ?_⟩), by first | rfl | simp [closedB, refsIn, refsInL, refsInO, dom, refsInL_nr, *], by first | rfl | simp [keepB, dom]⟩) ?_ ?_
    · exact ⟨by omega, by rw [e]; omega⟩
    · omega
  · have e : i = l.length := by omega
    subst e
    simp only [List.take_length]; unfold szS; rw [e0]
def t_szAwS : List AV → Option (Prop × AV)
  | [.sl lt 2 lx, .int .i64 b] => some ((((lx.map unAw).map (Aw.row 1) = lx)) ∧ ((0 ≤ b ∧ b ≤ 1048576) ∧ ((lx.map unAw).length ≤ 9223372036854775807 ∧ ∀ y ∈ (lx.map unAw), Aw.fitp y)), .int .i64 (szS Aw.sz (lx.map unAw) b))
  | _ => none
theorem h_szAwS : ∀ args p v, t_szAwS args = some (p, v) → p → Contract P 61 args [] v [] ∧ noref v = true ∧ No99 v := by
  intro args p v h1 h2
  unfold t_szAwS at h1
  split at h1
  · rename_i lt lx b
    cases h1
    obtain ⟨e0, HP⟩ := h2
    have := c_szAwS lt (lx.map unAw) b HP.1 HP.2
    exact ⟨by simpa only [e0] using this, rfl, trivial⟩
  · cases h1
theorem c_szSec (s : Sec) (a : Int) (ha : 0 ≤ a ∧ a ≤ 1048576) (hs : s.fitp) : Contract P 120 [.agg (s.row 1), .int .i64 a] [] (.int .i64 (s.sz a)) [] := by
  unfold Sec.fitp at hs
  simp only [Sec.row]
  refine fn_sound ((Env.nil P).add 157 t_szBlkS h_szBlkS) hm k_laws_szSkySector (Nat.le_of_ble_eq_true rfl) rfl ?_; unfold s_laws_szSkySector; simp (config := { maxSteps := 2000000 }) only [bitvec_to_nat, reduceIte, Nat.reduceEqDiff, Nat.reduceAdd, Nat.reduceLeDiff, reduceCtorEq, Nat.reduceBEq, Nat.reduceLT, List.forall_mem_cons, t_szBlkS, tk_map, dp_map, toNat_pred, appE, rowsOf, List.take_length, List.length_cons, List.length_nil, Nat.zero_add, srow, irow, un_s, un_i, Pt.row, Pt_eta, Aw.row, Aw_eta, Blk.row, Blk_eta, Sec.row, Sec_eta, Rw.row, Rw_eta, Sky.row, Sky_eta, un_Pt, un_Aw, un_Blk, un_Sec, un_Rw, un_Sky]
  unfold Sec.sz
  have qbl : (szOf (a - (s.nm.toList.length : Nat)) s.bl.length) ≤ max (a - (s.nm.toList.length : Nat)) (-1) := by unfold szOf; split <;> omega
  repeat' (first | with_reducible apply And.intro | with_reducible intro _)
  all_goals first | omega | (exact hs) | (exact hs.1) | (exact hs.2.1) | (exact hs.2.2) | (exact hs.2.2.1) | (exact hs.2.2.2) | (exact hs.2.2.2.1) | (exact hs.2.2.2.2) | (exact hs.1.1) | (exact hs.1.2) | (exact hs.2.1.1) | (exact hs.2.1.2) | (unfold chk; grind) | grind
def t_szSec : List AV → Option (Prop × AV)
  | [.agg [.str s_nm, .sl 1 6 s_bl], .int .i64 b] => some ((((s_bl.map unBlk).map Blk.row = s_bl)) ∧ ((0 ≤ b ∧ b ≤ 1048576) ∧ (Sec.fitp (Sec.mk s_nm (s_bl.map unBlk)))), .int .i64 (Sec.sz (Sec.mk s_nm (s_bl.map unBlk)) b))
  | _ => none
theorem h_szSec : ∀ args p v, t_szSec args = some (p, v) → p → Contract P 120 args [] v [] ∧ noref v = true ∧ No99 v := by
  intro args p v h1 h2
  unfold t_szSec at h1
  split at h1
  · rename_i s_nm s_bl b
    cases h1
    obtain ⟨e0, HP⟩ := h2
    have := c_szSec (Sec.mk s_nm (s_bl.map unBlk)) b HP.1 HP.2
    exact ⟨by simpa only [e0, Sec.row] using this, rfl, trivial⟩
  · cases h1
theorem c_szSecS (t : Nat) (l : List Sec) (a : Int) (ha : 0 ≤ a ∧ a ≤ 1048576) (hl : l.length ≤ 9223372036854775807 ∧ ∀ y ∈ l, y.fitp) : Contract P 62 [.sl t 2 (l.map (Sec.row 1)), .int .i64 a] [] (.int .i64 (szS Sec.sz l a)) [] := by
  refine fn_sound ((Env.nil P).add 120 t_szSec h_szSec) hm k_laws_szSkySectorS (Nat.le_of_ble_eq_true rfl) rfl ?_; unfold s_laws_szSkySectorS; simp (config := { maxSteps := 2000000 }) only [bitvec_to_nat, reduceIte, Nat.reduceEqDiff, Nat.reduceAdd, Nat.reduceLeDiff, reduceCtorEq, Nat.reduceBEq, Nat.reduceLT, List.forall_mem_cons, t_szSec, tk_map, dp_map, toNat_pred, appE, rowsOf, List.take_length, List.length_cons, List.length_nil, Nat.zero_add, srow, irow, un_s, un_i, Pt.row, Pt_eta, Aw.row, Aw_eta, Blk.row, Blk_eta, Sec.row, Sec_eta, Rw.row, Rw_eta, Sky.row, Sky_eta, un_Pt, un_Aw, un_Blk, un_Sec, un_Rw, un_Sky, List.take_zero, List.foldl_nil]
  have hz : szOf a l.length = if a - l.length < 0 then -1 else a - l.length := rfl
  refine ⟨by omega, fun h1 => ?_, fun h1 => ?_⟩
  · unfold szS
    rw [(fold_meas meas_Sec l _ (by omega) (by omega)).2.1 (by omega)]
  have e0 : szOf a l.length = a - l.length := if_neg h1
  refine loop_st (fun i : Nat => [(1, .int .i64 ((l.take i).foldl (fun a x => x.sz a) (a - l.length))), (5, .int .i64 i)]) (fun _ => []) (fun i => i ≤ l.length ∧ 0 ≤ (l.take i).foldl (fun a x => x.sz a) (a - l.length)) (fun i => l.length - i) (0) (by simp only [u_E0, u_E1, u_M0, u_M1, w_setE0, w_setE1, w_setM0, w_setM1, reduceIte, Nat.reduceEqDiff]; exact ⟨by repeat' (first | exact trivial | refine ⟨.inr rfl, ?_⟩), by repeat' (first | exact trivial | refine ⟨rfl, ?_⟩), by first | rfl | simp [closedB, refsIn, refsInL, refsInO, dom, refsInL_nr, *], by first | rfl | simp [keepB, dom]⟩) ?_ ?_
  · simp only [List.take_zero, List.foldl_nil]; omega
  intro i hi NX hN
  have hm := (fold_meas meas_Sec (l.take i) (a - l.length) (by omega) (by omega)).2.2
  have hg : i < l.length → (l.getD i default).fitp := fun h => hl.2 _ (getD_mem' h)
  have hn : i < l.length → (l.take (i + 1)).foldl (fun a x => x.sz a) (a - l.length) = (l.getD i default).sz ((l.take i).foldl (fun a x => x.sz a) (a - l.length)) := fun h => fold_take (f := Sec.sz) h
  have hs : i < l.length → (l.getD i default).sz ((l.take i).foldl (fun a x => x.sz a) (a - l.length)) < 0 → szS Sec.sz l a = -1 := fun h h2 => by unfold szS; rw [e0]; exact fold_stop meas_Sec h (by omega) (by omega) h2
  unfold l_laws_szSkySectorS_0; simp (config := { maxSteps := 2000000 }) only [bitvec_to_nat, reduceIte, Nat.reduceEqDiff, Nat.reduceAdd, Nat.reduceLeDiff, reduceCtorEq, Nat.reduceBEq, Nat.reduceLT, List.forall_mem_cons, t_szSec, tk_map, dp_map, toNat_pred, appE, rowsOf, List.take_length, List.length_cons, List.length_nil, Nat.zero_add, srow, irow, un_s, un_i, Pt.row, Pt_eta, Aw.row, Aw_eta, Blk.row, Blk_eta, Sec.row, Sec_eta, Rw.row, Rw_eta, Sky.row, Sky_eta, un_Pt, un_Aw, un_Blk, un_Sec, un_Rw, un_Sky, List.take_zero, List.foldl_nil]
  refine ⟨fun h2 => ⟨by omega, by omega, ⟨⟨by omega, by omega⟩, hg (by omega)⟩, fun h3 => by rw [hs (by omega) h3], fun h3 => ⟨by omega, ?_⟩⟩, fun h2 => ?_⟩
  · have e := hn (by omega)
    refine hN (i + 1) _ (by simp only [e, List.length_append, List.length_cons, List.length_nil, Nat.zero_add, List.map_append, List.map_cons, List.map_nil, u_E0, u_E1, u_M0, u_M1, w_setE0, w_setE1, w_setM0, w_setM1, reduceIte, Nat.reduceEqDiff]; exact ⟨by repeat' (first | exact trivial | refine ⟨.inr rfl, ?_⟩), by repeat' (first | exact trivial | refine ⟨rfl, ?_⟩), by first | rfl | simp [closedB, refsIn, refsInL, refsInO, dom, refsInL_nr, *], by first | rfl | simp [keepB, dom]⟩) ?_ ?_
    · exact ⟨by omega, by rw [e]; omega⟩
    · omega
  · have e : i = l.length := by omega
    subst e
    simp only [List.take_length]; unfold szS; rw [e0]
def t_szSecS : List AV → Option (Prop × AV)
  | [.sl lt 2 lx, .int .i64 b] => some ((((lx.map unSec).map (Sec.row 1) = lx)) ∧ ((0 ≤ b ∧ b ≤ 1048576) ∧ ((lx.map unSec).length ≤ 9223372036854775807 ∧ ∀ y ∈ (lx.map unSec), Sec.fitp y)), .int .i64 (szS Sec.sz (lx.map unSec) b))
  | _ => none
theorem h_szSecS : ∀ args p v, t_szSecS args = some (p, v) → p → Contract P 62 args [] v [] ∧ noref v = true ∧ No99 v := by
  intro args p v h1 h2
  unfold t_szSecS at h1
  split at h1
  · rename_i lt lx b
    cases h1
    obtain ⟨e0, HP⟩ := h2
    have := c_szSecS lt (lx.map unSec) b HP.1 HP.2
    exact ⟨by simpa only [e0] using this, rfl, trivial⟩
  · cases h1
theorem c_szSky (s : Sky) (a : Int) (ha : 0 ≤ a ∧ a ≤ 1048576) (hs : s.fitp) : Contract P 12 [.agg (s.row 1), .int .i64 a] [] (.int .i64 (s.sz a)) [] := by
  unfold Sky.fitp at hs
  simp only [Sky.row]
  refine fn_sound (((((Env.nil P).add 61 t_szAwS h_szAwS).add 60 t_szPtS h_szPtS).add 63 t_szRwS h_szRwS).add 62 t_szSecS h_szSecS) hm k_laws_szSky (Nat.le_of_ble_eq_true rfl) rfl ?_; unfold s_laws_szSky; simp (config := { maxSteps := 2000000 }) only [bitvec_to_nat, reduceIte, Nat.reduceEqDiff, Nat.reduceAdd, Nat.reduceLeDiff, reduceCtorEq, Nat.reduceBEq, Nat.reduceLT, List.forall_mem_cons, t_szAwS, t_szPtS, t_szRwS, t_szSecS, tk_map, dp_map, toNat_pred, appE, rowsOf, List.take_length, List.length_cons, List.length_nil, Nat.zero_add, srow, irow, un_s, un_i, Pt.row, Pt_eta, Aw.row, Aw_eta, Blk.row, Blk_eta, Sec.row, Sec_eta, Rw.row, Rw_eta, Sky.row, Sky_eta, un_Pt, un_Aw, un_Blk, un_Sec, un_Rw, un_Sky]
  unfold Sky.sz
  have qpts : (szS Pt.sz s.pts a) ≤ max a (-1) := (meas_szS meas_Pt s.pts a (by omega)).2.2
  have qaws : (szS Aw.sz s.aws (szS Pt.sz s.pts a)) ≤ max (szS Pt.sz s.pts a) (-1) := (meas_szS meas_Aw s.aws (szS Pt.sz s.pts a) (by omega)).2.2
  have qsecs : (szS Sec.sz s.secs (szS Aw.sz s.aws (szS Pt.sz s.pts a))) ≤ max (szS Aw.sz s.aws (szS Pt.sz s.pts a)) (-1) := (meas_szS meas_Sec s.secs (szS Aw.sz s.aws (szS Pt.sz s.pts a)) (by omega)).2.2
  have qrws : (szS Rw.sz s.rws (szS Sec.sz s.secs (szS Aw.sz s.aws (szS Pt.sz s.pts a)))) ≤ max (szS Sec.sz s.secs (szS Aw.sz s.aws (szS Pt.sz s.pts a))) (-1) := (meas_szS meas_Rw s.rws (szS Sec.sz s.secs (szS Aw.sz s.aws (szS Pt.sz s.pts a))) (by omega)).2.2
  repeat' (first | with_reducible apply And.intro | with_reducible intro _)
  all_goals first | omega | (exact hs) | (exact hs.1) | (exact hs.2.1) | (exact hs.2.2) | (exact hs.2.2.1) | (exact hs.2.2.2) | (exact hs.2.2.2.1) | (exact hs.2.2.2.2) | (exact hs.1.1) | (exact hs.1.2) | (exact hs.2.1.1) | (exact hs.2.1.2) | (unfold chk; grind) | grind
def t_szSky : List AV → Option (Prop × AV)
  | [.agg [.int .i64 s_w, .int .i64 s_h, .int .i64 s_lv, .sl 1 3 s_pts, .sl 1 2 s_aws, .sl 1 2 s_secs, .sl 1 4 s_rws], .int .i64 b] => some ((((s_pts.map unPt).map Pt.row = s_pts) ∧ ((s_aws.map unAw).map (Aw.row 1) = s_aws) ∧ ((s_secs.map unSec).map (Sec.row 1) = s_secs) ∧ ((s_rws.map unRw).map Rw.row = s_rws)) ∧ ((0 ≤ b ∧ b ≤ 1048576) ∧ (Sky.fitp (Sky.mk s_w s_h s_lv (s_pts.map unPt) (s_aws.map unAw) (s_secs.map unSec) (s_rws.map unRw)))), .int .i64 (Sky.sz (Sky.mk s_w s_h s_lv (s_pts.map unPt) (s_aws.map unAw) (s_secs.map unSec) (s_rws.map unRw)) b))
  | _ => none
theorem h_szSky : ∀ args p v, t_szSky args = some (p, v) → p → Contract P 12 args [] v [] ∧ noref v = true ∧ No99 v := by
  intro args p v h1 h2
  unfold t_szSky at h1
  split at h1
  · rename_i s_w s_h s_lv s_pts s_aws s_secs s_rws b
    cases h1
    obtain ⟨⟨e0, e1, e2, e3⟩, HP⟩ := h2
    have := c_szSky (Sky.mk s_w s_h s_lv (s_pts.map unPt) (s_aws.map unAw) (s_secs.map unSec) (s_rws.map unRw)) b HP.1 HP.2
    exact ⟨by simpa only [e0, e1, e2, e3, Sky.row] using this, rfl, trivial⟩
  · cases h1
end
end Go.Ve

namespace Go.Ve
noncomputable section
open Go.Proofs
set_option linter.unusedSimpArgs false
set_option linter.unusedVariables false
set_option maxRecDepth 100000
theorem set_ByteArray {lst : List ByteArray} {idx : Nat} {v : ByteArray} : (lst.map srow).set idx (setSeg ((lst.map srow).getD idx []) 0 [.str v]) = (lst.set idx v).map srow :=
  set_rows (α := ByteArray) (f := srow) (fun s => v) fun x => by simp [srow, setSeg]
def to_ByteArray (a : List ByteArray) (i : Nat) : List ByteArray := a.take i ++ List.replicate (a.length - i) ⟨#[]⟩
theorem to_ByteArray_st {a : List ByteArray} {i : Nat} (h : i < a.length) : (to_ByteArray a i).set i (a.getD i default) = to_ByteArray a (i + 1) := by
  refine List.ext_getElem (by simp [to_ByteArray]; omega) fun j h1 h2 => ?_
  by_cases e : j = i
  · subst e
    simp [to_ByteArray, List.getElem_append, h]
    intro h9; omega
  · simp only [List.getElem_set_ne (Ne.symm e)]
    simp only [to_ByteArray, List.getElem_append, List.length_take, List.getElem_take, List.getElem_replicate]
    split <;> split <;> first | rfl | omega
theorem c_toByteArrayS (t : Nat) (a : List ByteArray) (ha : a.length ≤ 1048576) : Contract P 41 [.sl t 1 (a.map srow)] [] (.sl 0 1 (a.map srow)) [] := by
  refine fn_sound (Env.nil P) hm k_laws_toStringS (Nat.le_of_ble_eq_true rfl) rfl ?_; unfold s_laws_toStringS; simp (config := { maxSteps := 2000000 }) only [bitvec_to_nat, reduceIte, Nat.reduceEqDiff, Nat.reduceAdd, Nat.reduceLeDiff, reduceCtorEq, Nat.reduceBEq, Nat.reduceLT, List.forall_mem_cons, tk_map, dp_map, toNat_pred, appE, rowsOf, List.take_length, List.length_cons, List.length_nil, Nat.zero_add, srow, irow, un_s, un_i, Pt.row, Pt_eta, Aw.row, Aw_eta, Blk.row, Blk_eta, Sec.row, Sec_eta, Rw.row, Rw_eta, Sky.row, Sky_eta, un_Pt, un_Aw, un_Blk, un_Sec, un_Rw, un_Sky, set_ByteArray, Nat.sub_zero]
  have m0 : List.replicate a.length [.str ⟨#[]⟩] = (to_ByteArray a 0).map srow := by simp [to_ByteArray, srow]
  refine ⟨by omega, ?_⟩
  refine loop_st (fun i : Nat => [(4, .int .i64 i)]) (fun i => [(107, .arr 9 0 1 ((to_ByteArray a i).map srow))]) (fun i => i ≤ a.length) (fun i => a.length - i) 0 (by simp only [u_E0, u_E1, u_M0, u_M1, w_setE0, w_setE1, w_setM0, w_setM1, reduceIte, Nat.reduceEqDiff]; exact ⟨by repeat' (first | exact trivial | refine ⟨.inr rfl, ?_⟩), ⟨congrArg (fun g => some (AObj.arr 9 0 1 g)) m0, trivial⟩, rfl, rfl⟩) (Nat.zero_le _) ?_
  intro i hi NX hN
  skip
  unfold l_laws_toStringS_0; simp (config := { maxSteps := 2000000 }) only [bitvec_to_nat, reduceIte, Nat.reduceEqDiff, Nat.reduceAdd, Nat.reduceLeDiff, reduceCtorEq, Nat.reduceBEq, Nat.reduceLT, List.forall_mem_cons, tk_map, dp_map, toNat_pred, appE, rowsOf, List.take_length, List.length_cons, List.length_nil, Nat.zero_add, srow, irow, un_s, un_i, Pt.row, Pt_eta, Aw.row, Aw_eta, Blk.row, Blk_eta, Sec.row, Sec_eta, Rw.row, Rw_eta, Sky.row, Sky_eta, un_Pt, un_Aw, un_Blk, un_Sec, un_Rw, un_Sky, set_ByteArray, Nat.sub_zero]
  refine ⟨fun h => ?_, fun h => ?_⟩
  · repeat' (first | with_reducible apply And.intro | with_reducible intro _)
    all_goals first
      | omega
      | rfl
      | exact hs2 (by omega)
      | (have e := to_ByteArray_st (a := a) (i := i) (by omega)
         try simp only [srow] at *
         refine hN (i + 1) _ ⟨by repeat' (first | exact trivial | refine ⟨.inr rfl, ?_⟩), ⟨congrArg (fun g => some (AObj.arr 9 0 1 (List.map srow g))) e, trivial⟩, rfl, rfl⟩ ?_ ?_ <;> omega)
  · have e : i = a.length := by omega
    subst e
    simp only [to_ByteArray, List.take_length, Nat.sub_self, List.replicate_zero, List.append_nil]
    try rw [List.take_of_length_le (by simp)]
def t_toStringS : List AV → Option (Prop × AV)
  | [.sl st 1 sx] => some ((((sx.map unS).map srow = sx)) ∧ ((sx.map unS).length ≤ 1048576), .sl 0 1 ((sx.map unS).map srow))
  | _ => none
theorem h_toStringS : ∀ args p v, t_toStringS args = some (p, v) → p → Contract P 41 args [] v [] ∧ noref v = true ∧ No99 v := by
  intro args p v h1 h2
  unfold t_toStringS at h1
  split at h1
  · rename_i st sx
    cases h1
    obtain ⟨e0, HP⟩ := h2
    have := c_toByteArrayS st (sx.map unS) HP
    exact ⟨by simpa only [e0] using this, rfl, by simp [No99, No99L, no99_box, no99_i, no99_str, no99_Pt, no99_Aw, no99_Blk, no99_Sec, no99_Rw, no99_Sky, -List.map_map]⟩
  · cases h1
theorem c_eqByteArrayS (t t' : Nat) (p q : List ByteArray) (hp : p.length ≤ 4611686018427387904) : Contract P 44 [.sl t 1 (p.map srow), .sl t' 1 (q.map srow)] [] (.bool (decide (p = q))) [] := by
  refine fn_sound (Env.nil P) hm k_laws_eqStringS (Nat.le_of_ble_eq_true rfl) rfl ?_; unfold s_laws_eqStringS; simp (config := { maxSteps := 2000000 }) only [bitvec_to_nat, reduceIte, Nat.reduceEqDiff, Nat.reduceAdd, Nat.reduceLeDiff, reduceCtorEq, Nat.reduceBEq, Nat.reduceLT, List.forall_mem_cons, tk_map, dp_map, toNat_pred, appE, rowsOf, List.take_length, List.length_cons, List.length_nil, Nat.zero_add, srow, irow, un_s, un_i, Pt.row, Pt_eta, Aw.row, Aw_eta, Blk.row, Blk_eta, Sec.row, Sec_eta, Rw.row, Rw_eta, Sky.row, Sky_eta, un_Pt, un_Aw, un_Blk, un_Sec, un_Rw, un_Sky]
  refine ⟨fun h1 h => h1 (by rw [h]), fun h1 => ?_⟩
  refine loop_st (fun i : Nat => [(5, .int .i64 i)]) (fun _ => []) (fun i => i ≤ p.length ∧ ∀ j, j < i → p.getD j default = q.getD j default) (fun i => p.length - i) (0) (by simp only [u_E0, u_E1, u_M0, u_M1, w_setE0, w_setE1, w_setM0, w_setM1, reduceIte, Nat.reduceEqDiff]; exact ⟨by repeat' (first | exact trivial | refine ⟨.inr rfl, ?_⟩), by repeat' (first | exact trivial | refine ⟨rfl, ?_⟩), by first | rfl | simp [closedB, refsIn, refsInL, refsInO, dom, refsInL_nr, *], by first | rfl | simp [keepB, dom]⟩) ?_ ?_
  · exact ⟨Nat.zero_le _, by intro j hj; omega⟩
  intro i hi NX hN
  unfold l_laws_eqStringS_0; simp (config := { maxSteps := 2000000 }) only [bitvec_to_nat, reduceIte, Nat.reduceEqDiff, Nat.reduceAdd, Nat.reduceLeDiff, reduceCtorEq, Nat.reduceBEq, Nat.reduceLT, List.forall_mem_cons, tk_map, dp_map, toNat_pred, appE, rowsOf, List.take_length, List.length_cons, List.length_nil, Nat.zero_add, srow, irow, un_s, un_i, Pt.row, Pt_eta, Aw.row, Aw_eta, Blk.row, Blk_eta, Sec.row, Sec_eta, Rw.row, Rw_eta, Sky.row, Sky_eta, un_Pt, un_Aw, un_Blk, un_Sec, un_Rw, un_Sky]
  skip
  repeat' (first | with_reducible apply And.intro | with_reducible intro _)
  all_goals first
    | omega
    | (refine hN (i + 1) _ (by simp only [u_E0, u_E1, u_M0, u_M1, w_setE0, w_setE1, w_setM0, w_setM1, reduceIte, Nat.reduceEqDiff]; exact ⟨by repeat' (first | exact trivial | refine ⟨.inr rfl, ?_⟩), by repeat' (first | exact trivial | refine ⟨rfl, ?_⟩), by first | rfl | simp [closedB, refsIn, refsInL, refsInO, dom, refsInL_nr, *], by first | rfl | simp [keepB, dom]⟩) ?_ ?_
       · exact ⟨by omega, all_snoc hi.2 (by with_reducible assumption)⟩
       · omega)
    | (intro h; subst h; exact absurd rfl (by with_reducible assumption))
    | (exact ext_of (by omega) fun j hj => hi.2 j (by omega))
    | grind
def t_eqStringS : List AV → Option (Prop × AV)
  | [.sl ct 1 cx, .sl dt 1 dx] => some ((((cx.map unS).map srow = cx) ∧ ((dx.map unS).map srow = dx)) ∧ ((cx.map unS).length ≤ 4611686018427387904), .bool (decide ((cx.map unS) = (dx.map unS))))
  | _ => none
theorem h_eqStringS : ∀ args p v, t_eqStringS args = some (p, v) → p → Contract P 44 args [] v [] ∧ noref v = true ∧ No99 v := by
  intro args p v h1 h2
  unfold t_eqStringS at h1
  split at h1
  · rename_i ct cx dt dx
    cases h1
    obtain ⟨⟨e0, e1⟩, HP⟩ := h2
    have := c_eqByteArrayS ct dt (cx.map unS) (dx.map unS) HP
    exact ⟨by simpa only [e0, e1] using this, rfl, trivial⟩
  · cases h1
theorem c_toPt (s : Pt) : Contract P 129 [.agg (s.row)] [] (.agg (s.row)) [] := by
  simp only [Pt.row]
  refine fn_sound (Env.nil P) hm k_laws_toSkyPoint (Nat.le_of_ble_eq_true rfl) rfl ?_; unfold s_laws_toSkyPoint; simp (config := { maxSteps := 2000000 }) only [bitvec_to_nat, reduceIte, Nat.reduceEqDiff, Nat.reduceAdd, Nat.reduceLeDiff, reduceCtorEq, Nat.reduceBEq, Nat.reduceLT, List.forall_mem_cons, tk_map, dp_map, toNat_pred, appE, rowsOf, List.take_length, List.length_cons, List.length_nil, Nat.zero_add, srow, irow, un_s, un_i, Pt.row, Pt_eta, Aw.row, Aw_eta, Blk.row, Blk_eta, Sec.row, Sec_eta, Rw.row, Rw_eta, Sky.row, Sky_eta, un_Pt, un_Aw, un_Blk, un_Sec, un_Rw, un_Sky]
  all_goals trivial
def t_toPt : List AV → Option (Prop × AV)
  | [.agg [.str s_nm, .int .i64 s_x, .int .i64 s_y]] => some ((True) ∧ (True), .agg (Pt.row (Pt.mk s_nm s_x s_y)))
  | _ => none
theorem h_toPt : ∀ args p v, t_toPt args = some (p, v) → p → Contract P 129 args [] v [] ∧ noref v = true ∧ No99 v := by
  intro args p v h1 h2
  unfold t_toPt at h1
  split at h1
  · rename_i s_nm s_x s_y
    cases h1
    obtain ⟨_, HP⟩ := h2
    have := c_toPt (Pt.mk s_nm s_x s_y)
    exact ⟨by simpa only [Pt.row] using this, rfl, by simp [Pt.row, No99, No99L, no99_box, no99_i, no99_str, no99_Pt, no99_Aw, no99_Blk, no99_Sec, no99_Rw, no99_Sky, -List.map_map]⟩
  · cases h1
theorem set_Pt {lst : List Pt} {idx : Nat} {vnm : ByteArray} {vx : Int} {vy : Int} : (lst.map Pt.row).set idx (setSeg ((lst.map Pt.row).getD idx []) 0 [.str vnm, .int .i64 vx, .int .i64 vy]) = (lst.set idx (Pt.mk vnm vx vy)).map Pt.row :=
  set_rows (α := Pt) (f := Pt.row) (fun s => (Pt.mk vnm vx vy)) fun x => by simp [Pt.row, setSeg]
def to_Pt (a : List Pt) (i : Nat) : List Pt := a.take i ++ List.replicate (a.length - i) ⟨⟨#[]⟩, 0, 0⟩
theorem to_Pt_st {a : List Pt} {i : Nat} (h : i < a.length) : (to_Pt a i).set i (a.getD i default) = to_Pt a (i + 1) := by
  refine List.ext_getElem (by simp [to_Pt]; omega) fun j h1 h2 => ?_
  by_cases e : j = i
  · subst e
    simp [to_Pt, List.getElem_append, h]
    intro h9; omega
  · simp only [List.getElem_set_ne (Ne.symm e)]
    simp only [to_Pt, List.getElem_append, List.length_take, List.getElem_take, List.getElem_replicate]
    split <;> split <;> first | rfl | omega
theorem c_toPtS (t : Nat) (a : List Pt) (ha : a.length ≤ 1048576) : Contract P 70 [.sl t 3 (a.map Pt.row)] [] (.sl 0 3 (a.map Pt.row)) [] := by
  refine fn_sound ((Env.nil P).add 129 t_toPt h_toPt) hm k_laws_toSkyPointS (Nat.le_of_ble_eq_true rfl) rfl ?_; unfold s_laws_toSkyPointS; simp (config := { maxSteps := 2000000 }) only [bitvec_to_nat, reduceIte, Nat.reduceEqDiff, Nat.reduceAdd, Nat.reduceLeDiff, reduceCtorEq, Nat.reduceBEq, Nat.reduceLT, List.forall_mem_cons, t_toPt, tk_map, dp_map, toNat_pred, appE, rowsOf, List.take_length, List.length_cons, List.length_nil, Nat.zero_add, srow, irow, un_s, un_i, Pt.row, Pt_eta, Aw.row, Aw_eta, Blk.row, Blk_eta, Sec.row, Sec_eta, Rw.row, Rw_eta, Sky.row, Sky_eta, un_Pt, un_Aw, un_Blk, un_Sec, un_Rw, un_Sky, set_Pt, Nat.sub_zero]
  have m0 : List.replicate a.length [.str ⟨#[]⟩, .int .i64 0, .int .i64 0] = (to_Pt a 0).map Pt.row := by simp [to_Pt, Pt.row]
  refine ⟨by omega, ?_⟩
  refine loop_st (fun i : Nat => [(4, .int .i64 i)]) (fun i => [(107, .arr 103 0 3 ((to_Pt a i).map Pt.row))]) (fun i => i ≤ a.length) (fun i => a.length - i) 0 (by simp only [u_E0, u_E1, u_M0, u_M1, w_setE0, w_setE1, w_setM0, w_setM1, reduceIte, Nat.reduceEqDiff]; exact ⟨by repeat' (first | exact trivial | refine ⟨.inr rfl, ?_⟩), ⟨congrArg (fun g => some (AObj.arr 103 0 3 g)) m0, trivial⟩, rfl, rfl⟩) (Nat.zero_le _) ?_
  intro i hi NX hN
  skip
  unfold l_laws_toSkyPointS_0; simp (config := { maxSteps := 2000000 }) only [bitvec_to_nat, reduceIte, Nat.reduceEqDiff, Nat.reduceAdd, Nat.reduceLeDiff, reduceCtorEq, Nat.reduceBEq, Nat.reduceLT, List.forall_mem_cons, t_toPt, tk_map, dp_map, toNat_pred, appE, rowsOf, List.take_length, List.length_cons, List.length_nil, Nat.zero_add, srow, irow, un_s, un_i, Pt.row, Pt_eta, Aw.row, Aw_eta, Blk.row, Blk_eta, Sec.row, Sec_eta, Rw.row, Rw_eta, Sky.row, Sky_eta, un_Pt, un_Aw, un_Blk, un_Sec, un_Rw, un_Sky, set_Pt, Nat.sub_zero]
  refine ⟨fun h => ?_, fun h => ?_⟩
  · repeat' (first | with_reducible apply And.intro | with_reducible intro _)
    all_goals first
      | omega
      | rfl
      | exact hs2 (by omega)
      | (have e := to_Pt_st (a := a) (i := i) (by omega)
         try simp only [Pt.row] at *
         refine hN (i + 1) _ ⟨by repeat' (first | exact trivial | refine ⟨.inr rfl, ?_⟩), ⟨congrArg (fun g => some (AObj.arr 103 0 3 (List.map Pt.row g))) e, trivial⟩, rfl, rfl⟩ ?_ ?_ <;> omega)
  · have e : i = a.length := by omega
    subst e
    simp only [to_Pt, List.take_length, Nat.sub_self, List.replicate_zero, List.append_nil]
    try rw [List.take_of_length_le (by simp)]
def t_toPtS : List AV → Option (Prop × AV)
  | [.sl st 3 sx] => some ((((sx.map unPt).map Pt.row = sx)) ∧ ((sx.map unPt).length ≤ 1048576), .sl 0 3 ((sx.map unPt).map Pt.row))
  | _ => none
theorem h_toPtS : ∀ args p v, t_toPtS args = some (p, v) → p → Contract P 70 args [] v [] ∧ noref v = true ∧ No99 v := by
  intro args p v h1 h2
  unfold t_toPtS at h1
  split at h1
  · rename_i st sx
    cases h1
    obtain ⟨e0, HP⟩ := h2
    have := c_toPtS st (sx.map unPt) HP
    exact ⟨by simpa only [e0] using this, rfl, by simp [No99, No99L, no99_box, no99_i, no99_str, no99_Pt, no99_Aw, no99_Blk, no99_Sec, no99_Rw, no99_Sky, -List.map_map]⟩
  · cases h1
theorem c_eqPt (c d : Pt)  : Contract P 133 [.agg (c.row), .agg (d.row)] [] (.bool (decide (c = d))) [] := by
  obtain ⟨c_nm, c_x, c_y⟩ := c
  obtain ⟨d_nm, d_x, d_y⟩ := d
  simp only [Pt.row]
  refine fn_sound (Env.nil P) hm k_laws_eqSkyPoint (Nat.le_of_ble_eq_true rfl) rfl ?_; unfold s_laws_eqSkyPoint; simp (config := { maxSteps := 2000000 }) only [bitvec_to_nat, reduceIte, Nat.reduceEqDiff, Nat.reduceAdd, Nat.reduceLeDiff, reduceCtorEq, Nat.reduceBEq, Nat.reduceLT, List.forall_mem_cons, tk_map, dp_map, toNat_pred, appE, rowsOf, List.take_length, List.length_cons, List.length_nil, Nat.zero_add, srow, irow, un_s, un_i, Pt.row, Pt_eta, Aw.row, Aw_eta, Blk.row, Blk_eta, Sec.row, Sec_eta, Rw.row, Rw_eta, Sky.row, Sky_eta, un_Pt, un_Aw, un_Blk, un_Sec, un_Rw, un_Sky]
  simp only [Pt.mk.injEq]
  repeat' (first | with_reducible apply And.intro | with_reducible intro _)
  all_goals first | omega | (simp_all; done) | grind
def t_eqPt : List AV → Option (Prop × AV)
  | [.agg [.str c_nm, .int .i64 c_x, .int .i64 c_y], .agg [.str d_nm, .int .i64 d_x, .int .i64 d_y]] => some ((True) ∧ (True), .bool (decide ((Pt.mk c_nm c_x c_y) = (Pt.mk d_nm d_x d_y))))
  | _ => none
theorem h_eqPt : ∀ args p v, t_eqPt args = some (p, v) → p → Contract P 133 args [] v [] ∧ noref v = true ∧ No99 v := by
  intro args p v h1 h2
  unfold t_eqPt at h1
  split at h1
  · rename_i c_nm c_x c_y d_nm d_x d_y
    cases h1
    obtain ⟨_, HP⟩ := h2
    have := c_eqPt (Pt.mk c_nm c_x c_y) (Pt.mk d_nm d_x d_y)
    exact ⟨by simpa only [Pt.row, Pt.row] using this, rfl, trivial⟩
  · cases h1
theorem c_eqPtS (t t' : Nat) (p q : List Pt) (hp : p.length ≤ 4611686018427387904) : Contract P 82 [.sl t 3 (p.map Pt.row), .sl t' 3 (q.map Pt.row)] [] (.bool (decide (p = q))) [] := by
  refine fn_sound ((Env.nil P).add 133 t_eqPt h_eqPt) hm k_laws_eqSkyPointS (Nat.le_of_ble_eq_true rfl) rfl ?_; unfold s_laws_eqSkyPointS; simp (config := { maxSteps := 2000000 }) only [bitvec_to_nat, reduceIte, Nat.reduceEqDiff, Nat.reduceAdd, Nat.reduceLeDiff, reduceCtorEq, Nat.reduceBEq, Nat.reduceLT, List.forall_mem_cons, t_eqPt, tk_map, dp_map, toNat_pred, appE, rowsOf, List.take_length, List.length_cons, List.length_nil, Nat.zero_add, srow, irow, un_s, un_i, Pt.row, Pt_eta, Aw.row, Aw_eta, Blk.row, Blk_eta, Sec.row, Sec_eta, Rw.row, Rw_eta, Sky.row, Sky_eta, un_Pt, un_Aw, un_Blk, un_Sec, un_Rw, un_Sky]
  refine ⟨fun h1 h => h1 (by rw [h]), fun h1 => ?_⟩
  refine loop_st (fun i : Nat => [(5, .int .i64 i)]) (fun _ => []) (fun i => i ≤ p.length ∧ ∀ j, j < i → p.getD j default = q.getD j default) (fun i => p.length - i) (0) (by simp only [u_E0, u_E1, u_M0, u_M1, w_setE0, w_setE1, w_setM0, w_setM1, reduceIte, Nat.reduceEqDiff]; exact ⟨by repeat' (first | exact trivial | refine ⟨.inr rfl, ?_⟩), by repeat' (first | exact trivial | refine ⟨rfl, ?_⟩), by first | rfl | simp [closedB, refsIn, refsInL, refsInO, dom, refsInL_nr, *], by first | rfl | simp [keepB, dom]⟩) ?_ ?_
  · exact ⟨Nat.zero_le _, by intro j hj; omega⟩
  intro i hi NX hN
  unfold l_laws_eqSkyPointS_0; simp (config := { maxSteps := 2000000 }) only [bitvec_to_nat, reduceIte, Nat.reduceEqDiff, Nat.reduceAdd, Nat.reduceLeDiff, reduceCtorEq, Nat.reduceBEq, Nat.reduceLT, List.forall_mem_cons, t_eqPt, tk_map, dp_map, toNat_pred, appE, rowsOf, List.take_length, List.length_cons, List.length_nil, Nat.zero_add, srow, irow, un_s, un_i, Pt.row, Pt_eta, Aw.row, Aw_eta, Blk.row, Blk_eta, Sec.row, Sec_eta, Rw.row, Rw_eta, Sky.row, Sky_eta, un_Pt, un_Aw, un_Blk, un_Sec, un_Rw, un_Sky]
  skip
  repeat' (first | with_reducible apply And.intro | with_reducible intro _)
  all_goals first
    | omega
    | (refine hN (i + 1) _ (by simp only [u_E0, u_E1, u_M0, u_M1, w_setE0, w_setE1, w_setM0, w_setM1, reduceIte, Nat.reduceEqDiff]; exact ⟨by repeat' (first | exact trivial | refine ⟨.inr rfl, ?_⟩), by repeat' (first | exact trivial | refine ⟨rfl, ?_⟩), by first | rfl | simp [closedB, refsIn, refsInL, refsInO, dom, refsInL_nr, *], by first | rfl | simp [keepB, dom]⟩) ?_ ?_
       · exact ⟨by omega, all_snoc hi.2 (by with_reducible assumption)⟩
       · omega)
    | (intro h; subst h; exact absurd rfl (by with_reducible assumption))
    | (exact ext_of (by omega) fun j hj => hi.2 j (by omega))
    | grind
def t_eqPtS : List AV → Option (Prop × AV)
  | [.sl ct 3 cx, .sl dt 3 dx] => some ((((cx.map unPt).map Pt.row = cx) ∧ ((dx.map unPt).map Pt.row = dx)) ∧ ((cx.map unPt).length ≤ 4611686018427387904), .bool (decide ((cx.map unPt) = (dx.map unPt))))
  | _ => none
theorem h_eqPtS : ∀ args p v, t_eqPtS args = some (p, v) → p → Contract P 82 args [] v [] ∧ noref v = true ∧ No99 v := by
  intro args p v h1 h2
  unfold t_eqPtS at h1
  split at h1
  · rename_i ct cx dt dx
    cases h1
    obtain ⟨⟨e0, e1⟩, HP⟩ := h2
    have := c_eqPtS ct dt (cx.map unPt) (dx.map unPt) HP
    exact ⟨by simpa only [e0, e1] using this, rfl, trivial⟩
  · cases h1
theorem c_toBlk (s : Blk) : Contract P 169 [.agg (s.row)] [] (.agg (s.row)) [] := by
  simp only [Blk.row]
  refine fn_sound (Env.nil P) hm k_laws_toSkyBlock (Nat.le_of_ble_eq_true rfl) rfl ?_; unfold s_laws_toSkyBlock; simp (config := { maxSteps := 2000000 }) only [bitvec_to_nat, reduceIte, Nat.reduceEqDiff, Nat.reduceAdd, Nat.reduceLeDiff, reduceCtorEq, Nat.reduceBEq, Nat.reduceLT, List.forall_mem_cons, tk_map, dp_map, toNat_pred, appE, rowsOf, List.take_length, List.length_cons, List.length_nil, Nat.zero_add, srow, irow, un_s, un_i, Pt.row, Pt_eta, Aw.row, Aw_eta, Blk.row, Blk_eta, Sec.row, Sec_eta, Rw.row, Rw_eta, Sky.row, Sky_eta, un_Pt, un_Aw, un_Blk, un_Sec, un_Rw, un_Sky]
  all_goals trivial
def t_toBlk : List AV → Option (Prop × AV)
  | [.agg [.int .i64 s_x0, .int .i64 s_y0, .int .i64 s_x1, .int .i64 s_y1, .int .i64 s_lo, .int .i64 s_hi]] => some ((True) ∧ (True), .agg (Blk.row (Blk.mk s_x0 s_y0 s_x1 s_y1 s_lo s_hi)))
  | _ => none
theorem h_toBlk : ∀ args p v, t_toBlk args = some (p, v) → p → Contract P 169 args [] v [] ∧ noref v = true ∧ No99 v := by
  intro args p v h1 h2
  unfold t_toBlk at h1
  split at h1
  · rename_i s_x0 s_y0 s_x1 s_y1 s_lo s_hi
    cases h1
    obtain ⟨_, HP⟩ := h2
    have := c_toBlk (Blk.mk s_x0 s_y0 s_x1 s_y1 s_lo s_hi)
    exact ⟨by simpa only [Blk.row] using this, rfl, by simp [Blk.row, No99, No99L, no99_box, no99_i, no99_str, no99_Pt, no99_Aw, no99_Blk, no99_Sec, no99_Rw, no99_Sky, -List.map_map]⟩
  · cases h1
theorem set_Blk {lst : List Blk} {idx : Nat} {vx0 : Int} {vy0 : Int} {vx1 : Int} {vy1 : Int} {vlo : Int} {vhi : Int} : (lst.map Blk.row).set idx (setSeg ((lst.map Blk.row).getD idx []) 0 [.int .i64 vx0, .int .i64 vy0, .int .i64 vx1, .int .i64 vy1, .int .i64 vlo, .int .i64 vhi]) = (lst.set idx (Blk.mk vx0 vy0 vx1 vy1 vlo vhi)).map Blk.row :=
  set_rows (α := Blk) (f := Blk.row) (fun s => (Blk.mk vx0 vy0 vx1 vy1 vlo vhi)) fun x => by simp [Blk.row, setSeg]
def to_Blk (a : List Blk) (i : Nat) : List Blk := a.take i ++ List.replicate (a.length - i) ⟨0, 0, 0, 0, 0, 0⟩
theorem to_Blk_st {a : List Blk} {i : Nat} (h : i < a.length) : (to_Blk a i).set i (a.getD i default) = to_Blk a (i + 1) := by
  refine List.ext_getElem (by simp [to_Blk]; omega) fun j h1 h2 => ?_
  by_cases e : j = i
  · subst e
    simp [to_Blk, List.getElem_append, h]
    intro h9; omega
  · simp only [List.getElem_set_ne (Ne.symm e)]
    simp only [to_Blk, List.getElem_append, List.length_take, List.getElem_take, List.getElem_replicate]
    split <;> split <;> first | rfl | omega
theorem c_toBlkS (t : Nat) (a : List Blk) (ha : a.length ≤ 1048576) : Contract P 158 [.sl t 6 (a.map Blk.row)] [] (.sl 0 6 (a.map Blk.row)) [] := by
  refine fn_sound ((Env.nil P).add 169 t_toBlk h_toBlk) hm k_laws_toSkyBlockS (Nat.le_of_ble_eq_true rfl) rfl ?_; unfold s_laws_toSkyBlockS; simp (config := { maxSteps := 2000000 }) only [bitvec_to_nat, reduceIte, Nat.reduceEqDiff, Nat.reduceAdd, Nat.reduceLeDiff, reduceCtorEq, Nat.reduceBEq, Nat.reduceLT, List.forall_mem_cons, t_toBlk, tk_map, dp_map, toNat_pred, appE, rowsOf, List.take_length, List.length_cons, List.length_nil, Nat.zero_add, srow, irow, un_s, un_i, Pt.row, Pt_eta, Aw.row, Aw_eta, Blk.row, Blk_eta, Sec.row, Sec_eta, Rw.row, Rw_eta, Sky.row, Sky_eta, un_Pt, un_Aw, un_Blk, un_Sec, un_Rw, un_Sky, set_Blk, Nat.sub_zero]
  have m0 : List.replicate a.length [.int .i64 0, .int .i64 0, .int .i64 0, .int .i64 0, .int .i64 0, .int .i64 0] = (to_Blk a 0).map Blk.row := by simp [to_Blk, Blk.row]
  refine ⟨by omega, ?_⟩
  refine loop_st (fun i : Nat => [(4, .int .i64 i)]) (fun i => [(107, .arr 113 0 6 ((to_Blk a i).map Blk.row))]) (fun i => i ≤ a.length) (fun i => a.length - i) 0 (by simp only [u_E0, u_E1, u_M0, u_M1, w_setE0, w_setE1, w_setM0, w_setM1, reduceIte, Nat.reduceEqDiff]; exact ⟨by repeat' (first | exact trivial | refine ⟨.inr rfl, ?_⟩), ⟨congrArg (fun g => some (AObj.arr 113 0 6 g)) m0, trivial⟩, rfl, rfl⟩) (Nat.zero_le _) ?_
  intro i hi NX hN
  skip
  unfold l_laws_toSkyBlockS_0; simp (config := { maxSteps := 2000000 }) only [bitvec_to_nat, reduceIte, Nat.reduceEqDiff, Nat.reduceAdd, Nat.reduceLeDiff, reduceCtorEq, Nat.reduceBEq, Nat.reduceLT, List.forall_mem_cons, t_toBlk, tk_map, dp_map, toNat_pred, appE, rowsOf, List.take_length, List.length_cons, List.length_nil, Nat.zero_add, srow, irow, un_s, un_i, Pt.row, Pt_eta, Aw.row, Aw_eta, Blk.row, Blk_eta, Sec.row, Sec_eta, Rw.row, Rw_eta, Sky.row, Sky_eta, un_Pt, un_Aw, un_Blk, un_Sec, un_Rw, un_Sky, set_Blk, Nat.sub_zero]
  refine ⟨fun h => ?_, fun h => ?_⟩
  · repeat' (first | with_reducible apply And.intro | with_reducible intro _)
    all_goals first
      | omega
      | rfl
      | exact hs2 (by omega)
      | (have e := to_Blk_st (a := a) (i := i) (by omega)
         try simp only [Blk.row] at *
         refine hN (i + 1) _ ⟨by repeat' (first | exact trivial | refine ⟨.inr rfl, ?_⟩), ⟨congrArg (fun g => some (AObj.arr 113 0 6 (List.map Blk.row g))) e, trivial⟩, rfl, rfl⟩ ?_ ?_ <;> omega)
  · have e : i = a.length := by omega
    subst e
    simp only [to_Blk, List.take_length, Nat.sub_self, List.replicate_zero, List.append_nil]
    try rw [List.take_of_length_le (by simp)]
def t_toBlkS : List AV → Option (Prop × AV)
  | [.sl st 6 sx] => some ((((sx.map unBlk).map Blk.row = sx)) ∧ ((sx.map unBlk).length ≤ 1048576), .sl 0 6 ((sx.map unBlk).map Blk.row))
  | _ => none
theorem h_toBlkS : ∀ args p v, t_toBlkS args = some (p, v) → p → Contract P 158 args [] v [] ∧ noref v = true ∧ No99 v := by
  intro args p v h1 h2
  unfold t_toBlkS at h1
  split at h1
  · rename_i st sx
    cases h1
    obtain ⟨e0, HP⟩ := h2
    have := c_toBlkS st (sx.map unBlk) HP
    exact ⟨by simpa only [e0] using this, rfl, by simp [No99, No99L, no99_box, no99_i, no99_str, no99_Pt, no99_Aw, no99_Blk, no99_Sec, no99_Rw, no99_Sky, -List.map_map]⟩
  · cases h1
theorem c_eqBlk (c d : Blk)  : Contract P 170 [.agg (c.row), .agg (d.row)] [] (.bool (decide (c = d))) [] := by
  obtain ⟨c_x0, c_y0, c_x1, c_y1, c_lo, c_hi⟩ := c
  obtain ⟨d_x0, d_y0, d_x1, d_y1, d_lo, d_hi⟩ := d
  simp only [Blk.row]
  refine fn_sound (Env.nil P) hm k_laws_eqSkyBlock (Nat.le_of_ble_eq_true rfl) rfl ?_; unfold s_laws_eqSkyBlock; simp (config := { maxSteps := 2000000 }) only [bitvec_to_nat, reduceIte, Nat.reduceEqDiff, Nat.reduceAdd, Nat.reduceLeDiff, reduceCtorEq, Nat.reduceBEq, Nat.reduceLT, List.forall_mem_cons, tk_map, dp_map, toNat_pred, appE, rowsOf, List.take_length, List.length_cons, List.length_nil, Nat.zero_add, srow, irow, un_s, un_i, Pt.row, Pt_eta, Aw.row, Aw_eta, Blk.row, Blk_eta, Sec.row, Sec_eta, Rw.row, Rw_eta, Sky.row, Sky_eta, un_Pt, un_Aw, un_Blk, un_Sec, un_Rw, un_Sky]
  simp only [Blk.mk.injEq]
  repeat' (first | with_reducible apply And.intro | with_reducible intro _)
  all_goals first | omega | (simp_all; done) | grind
def t_eqBlk : List AV → Option (Prop × AV)
  | [.agg [.int .i64 c_x0, .int .i64 c_y0, .int .i64 c_x1, .int .i64 c_y1, .int .i64 c_lo, .int .i64 c_hi], .agg [.int .i64 d_x0, .int .i64 d_y0, .int .i64 d_x1, .int .i64 d_y1, .int .i64 d_lo, .int .i64 d_hi]] => some ((True) ∧ (True), .bool (decide ((Blk.mk c_x0 c_y0 c_x1 c_y1 c_lo c_hi) = (Blk.mk d_x0 d_y0 d_x1 d_y1 d_lo d_hi))))
  | _ => none
theorem h_eqBlk : ∀ args p v, t_eqBlk args = some (p, v) → p → Contract P 170 args [] v [] ∧ noref v = true ∧ No99 v := by
  intro args p v h1 h2
  unfold t_eqBlk at h1
  split at h1
  · rename_i c_x0 c_y0 c_x1 c_y1 c_lo c_hi d_x0 d_y0 d_x1 d_y1 d_lo d_hi
    cases h1
    obtain ⟨_, HP⟩ := h2
    have := c_eqBlk (Blk.mk c_x0 c_y0 c_x1 c_y1 c_lo c_hi) (Blk.mk d_x0 d_y0 d_x1 d_y1 d_lo d_hi)
    exact ⟨by simpa only [Blk.row, Blk.row] using this, rfl, trivial⟩
  · cases h1
theorem c_eqBlkS (t t' : Nat) (p q : List Blk) (hp : p.length ≤ 4611686018427387904) : Contract P 159 [.sl t 6 (p.map Blk.row), .sl t' 6 (q.map Blk.row)] [] (.bool (decide (p = q))) [] := by
  refine fn_sound ((Env.nil P).add 170 t_eqBlk h_eqBlk) hm k_laws_eqSkyBlockS (Nat.le_of_ble_eq_true rfl) rfl ?_; unfold s_laws_eqSkyBlockS; simp (config := { maxSteps := 2000000 }) only [bitvec_to_nat, reduceIte, Nat.reduceEqDiff, Nat.reduceAdd, Nat.reduceLeDiff, reduceCtorEq, Nat.reduceBEq, Nat.reduceLT, List.forall_mem_cons, t_eqBlk, tk_map, dp_map, toNat_pred, appE, rowsOf, List.take_length, List.length_cons, List.length_nil, Nat.zero_add, srow, irow, un_s, un_i, Pt.row, Pt_eta, Aw.row, Aw_eta, Blk.row, Blk_eta, Sec.row, Sec_eta, Rw.row, Rw_eta, Sky.row, Sky_eta, un_Pt, un_Aw, un_Blk, un_Sec, un_Rw, un_Sky]
  refine ⟨fun h1 h => h1 (by rw [h]), fun h1 => ?_⟩
  refine loop_st (fun i : Nat => [(5, .int .i64 i)]) (fun _ => []) (fun i => i ≤ p.length ∧ ∀ j, j < i → p.getD j default = q.getD j default) (fun i => p.length - i) (0) (by simp only [u_E0, u_E1, u_M0, u_M1, w_setE0, w_setE1, w_setM0, w_setM1, reduceIte, Nat.reduceEqDiff]; exact ⟨by repeat' (first | exact trivial | refine ⟨.inr rfl, ?_⟩), by repeat' (first | exact trivial | refine ⟨rfl, ?_⟩), by first | rfl | simp [closedB, refsIn, refsInL, refsInO, dom, refsInL_nr, *], by first | rfl | simp [keepB, dom]⟩) ?_ ?_
  · exact ⟨Nat.zero_le _, by intro j hj; omega⟩
  intro i hi NX hN
  unfold l_laws_eqSkyBlockS_0; simp (config := { maxSteps := 2000000 }) only [bitvec_to_nat, reduceIte, Nat.reduceEqDiff, Nat.reduceAdd, Nat.reduceLeDiff, reduceCtorEq, Nat.reduceBEq, Nat.reduceLT, List.forall_mem_cons, t_eqBlk, tk_map, dp_map, toNat_pred, appE, rowsOf, List.take_length, List.length_cons, List.length_nil, Nat.zero_add, srow, irow, un_s, un_i, Pt.row, Pt_eta, Aw.row, Aw_eta, Blk.row, Blk_eta, Sec.row, Sec_eta, Rw.row, Rw_eta, Sky.row, Sky_eta, un_Pt, un_Aw, un_Blk, un_Sec, un_Rw, un_Sky]
  skip
  repeat' (first | with_reducible apply And.intro | with_reducible intro _)
  all_goals first
    | omega
    | (refine hN (i + 1) _ (by simp only [u_E0, u_E1, u_M0, u_M1, w_setE0, w_setE1, w_setM0, w_setM1, reduceIte, Nat.reduceEqDiff]; exact ⟨by repeat' (first | exact trivial | refine ⟨.inr rfl, ?_⟩), by repeat' (first | exact trivial | refine ⟨rfl, ?_⟩), by first | rfl | simp [closedB, refsIn, refsInL, refsInO, dom, refsInL_nr, *], by first | rfl | simp [keepB, dom]⟩) ?_ ?_
       · exact ⟨by omega, all_snoc hi.2 (by with_reducible assumption)⟩
       · omega)
    | (intro h; subst h; exact absurd rfl (by with_reducible assumption))
    | (exact ext_of (by omega) fun j hj => hi.2 j (by omega))
    | grind
def t_eqBlkS : List AV → Option (Prop × AV)
  | [.sl ct 6 cx, .sl dt 6 dx] => some ((((cx.map unBlk).map Blk.row = cx) ∧ ((dx.map unBlk).map Blk.row = dx)) ∧ ((cx.map unBlk).length ≤ 4611686018427387904), .bool (decide ((cx.map unBlk) = (dx.map unBlk))))
  | _ => none
theorem h_eqBlkS : ∀ args p v, t_eqBlkS args = some (p, v) → p → Contract P 159 args [] v [] ∧ noref v = true ∧ No99 v := by
  intro args p v h1 h2
  unfold t_eqBlkS at h1
  split at h1
  · rename_i ct cx dt dx
    cases h1
    obtain ⟨⟨e0, e1⟩, HP⟩ := h2
    have := c_eqBlkS ct dt (cx.map unBlk) (dx.map unBlk) HP
    exact ⟨by simpa only [e0, e1] using this, rfl, trivial⟩
  · cases h1
theorem c_toRw (s : Rw) : Contract P 132 [.agg (s.row)] [] (.agg (s.row)) [] := by
  simp only [Rw.row]
  refine fn_sound (Env.nil P) hm k_laws_toSkyRunway (Nat.le_of_ble_eq_true rfl) rfl ?_; unfold s_laws_toSkyRunway; simp (config := { maxSteps := 2000000 }) only [bitvec_to_nat, reduceIte, Nat.reduceEqDiff, Nat.reduceAdd, Nat.reduceLeDiff, reduceCtorEq, Nat.reduceBEq, Nat.reduceLT, List.forall_mem_cons, tk_map, dp_map, toNat_pred, appE, rowsOf, List.take_length, List.length_cons, List.length_nil, Nat.zero_add, srow, irow, un_s, un_i, Pt.row, Pt_eta, Aw.row, Aw_eta, Blk.row, Blk_eta, Sec.row, Sec_eta, Rw.row, Rw_eta, Sky.row, Sky_eta, un_Pt, un_Aw, un_Blk, un_Sec, un_Rw, un_Sky]
  all_goals trivial
def t_toRw : List AV → Option (Prop × AV)
  | [.agg [.str s_nm, .int .i64 s_x, .int .i64 s_y, .int .i64 s_tn]] => some ((True) ∧ (True), .agg (Rw.row (Rw.mk s_nm s_x s_y s_tn)))
  | _ => none
theorem h_toRw : ∀ args p v, t_toRw args = some (p, v) → p → Contract P 132 args [] v [] ∧ noref v = true ∧ No99 v := by
  intro args p v h1 h2
  unfold t_toRw at h1
  split at h1
  · rename_i s_nm s_x s_y s_tn
    cases h1
    obtain ⟨_, HP⟩ := h2
    have := c_toRw (Rw.mk s_nm s_x s_y s_tn)
    exact ⟨by simpa only [Rw.row] using this, rfl, by simp [Rw.row, No99, No99L, no99_box, no99_i, no99_str, no99_Pt, no99_Aw, no99_Blk, no99_Sec, no99_Rw, no99_Sky, -List.map_map]⟩
  · cases h1
theorem set_Rw {lst : List Rw} {idx : Nat} {vnm : ByteArray} {vx : Int} {vy : Int} {vtn : Int} : (lst.map Rw.row).set idx (setSeg ((lst.map Rw.row).getD idx []) 0 [.str vnm, .int .i64 vx, .int .i64 vy, .int .i64 vtn]) = (lst.set idx (Rw.mk vnm vx vy vtn)).map Rw.row :=
  set_rows (α := Rw) (f := Rw.row) (fun s => (Rw.mk vnm vx vy vtn)) fun x => by simp [Rw.row, setSeg]
def to_Rw (a : List Rw) (i : Nat) : List Rw := a.take i ++ List.replicate (a.length - i) ⟨⟨#[]⟩, 0, 0, 0⟩
theorem to_Rw_st {a : List Rw} {i : Nat} (h : i < a.length) : (to_Rw a i).set i (a.getD i default) = to_Rw a (i + 1) := by
  refine List.ext_getElem (by simp [to_Rw]; omega) fun j h1 h2 => ?_
  by_cases e : j = i
  · subst e
    simp [to_Rw, List.getElem_append, h]
    intro h9; omega
  · simp only [List.getElem_set_ne (Ne.symm e)]
    simp only [to_Rw, List.getElem_append, List.length_take, List.getElem_take, List.getElem_replicate]
    split <;> split <;> first | rfl | omega
theorem c_toRwS (t : Nat) (a : List Rw) (ha : a.length ≤ 1048576) : Contract P 73 [.sl t 4 (a.map Rw.row)] [] (.sl 0 4 (a.map Rw.row)) [] := by
  refine fn_sound ((Env.nil P).add 132 t_toRw h_toRw) hm k_laws_toSkyRunwayS (Nat.le_of_ble_eq_true rfl) rfl ?_; unfold s_laws_toSkyRunwayS; simp (config := { maxSteps := 2000000 }) only [bitvec_to_nat, reduceIte, Nat.reduceEqDiff, Nat.reduceAdd, Nat.reduceLeDiff, reduceCtorEq, Nat.reduceBEq, Nat.reduceLT, List.forall_mem_cons, t_toRw, tk_map, dp_map, toNat_pred, appE, rowsOf, List.take_length, List.length_cons, List.length_nil, Nat.zero_add, srow, irow, un_s, un_i, Pt.row, Pt_eta, Aw.row, Aw_eta, Blk.row, Blk_eta, Sec.row, Sec_eta, Rw.row, Rw_eta, Sky.row, Sky_eta, un_Pt, un_Aw, un_Blk, un_Sec, un_Rw, un_Sky, set_Rw, Nat.sub_zero]
  have m0 : List.replicate a.length [.str ⟨#[]⟩, .int .i64 0, .int .i64 0, .int .i64 0] = (to_Rw a 0).map Rw.row := by simp [to_Rw, Rw.row]
  refine ⟨by omega, ?_⟩
  refine loop_st (fun i : Nat => [(4, .int .i64 i)]) (fun i => [(107, .arr 118 0 4 ((to_Rw a i).map Rw.row))]) (fun i => i ≤ a.length) (fun i => a.length - i) 0 (by simp only [u_E0, u_E1, u_M0, u_M1, w_setE0, w_setE1, w_setM0, w_setM1, reduceIte, Nat.reduceEqDiff]; exact ⟨by repeat' (first | exact trivial | refine ⟨.inr rfl, ?_⟩), ⟨congrArg (fun g => some (AObj.arr 118 0 4 g)) m0, trivial⟩, rfl, rfl⟩) (Nat.zero_le _) ?_
  intro i hi NX hN
  skip
  unfold l_laws_toSkyRunwayS_0; simp (config := { maxSteps := 2000000 }) only [bitvec_to_nat, reduceIte, Nat.reduceEqDiff, Nat.reduceAdd, Nat.reduceLeDiff, reduceCtorEq, Nat.reduceBEq, Nat.reduceLT, List.forall_mem_cons, t_toRw, tk_map, dp_map, toNat_pred, appE, rowsOf, List.take_length, List.length_cons, List.length_nil, Nat.zero_add, srow, irow, un_s, un_i, Pt.row, Pt_eta, Aw.row, Aw_eta, Blk.row, Blk_eta, Sec.row, Sec_eta, Rw.row, Rw_eta, Sky.row, Sky_eta, un_Pt, un_Aw, un_Blk, un_Sec, un_Rw, un_Sky, set_Rw, Nat.sub_zero]
  refine ⟨fun h => ?_, fun h => ?_⟩
  · repeat' (first | with_reducible apply And.intro | with_reducible intro _)
    all_goals first
      | omega
      | rfl
      | exact hs2 (by omega)
      | (have e := to_Rw_st (a := a) (i := i) (by omega)
         try simp only [Rw.row] at *
         refine hN (i + 1) _ ⟨by repeat' (first | exact trivial | refine ⟨.inr rfl, ?_⟩), ⟨congrArg (fun g => some (AObj.arr 118 0 4 (List.map Rw.row g))) e, trivial⟩, rfl, rfl⟩ ?_ ?_ <;> omega)
  · have e : i = a.length := by omega
    subst e
    simp only [to_Rw, List.take_length, Nat.sub_self, List.replicate_zero, List.append_nil]
    try rw [List.take_of_length_le (by simp)]
def t_toRwS : List AV → Option (Prop × AV)
  | [.sl st 4 sx] => some ((((sx.map unRw).map Rw.row = sx)) ∧ ((sx.map unRw).length ≤ 1048576), .sl 0 4 ((sx.map unRw).map Rw.row))
  | _ => none
theorem h_toRwS : ∀ args p v, t_toRwS args = some (p, v) → p → Contract P 73 args [] v [] ∧ noref v = true ∧ No99 v := by
  intro args p v h1 h2
  unfold t_toRwS at h1
  split at h1
  · rename_i st sx
    cases h1
    obtain ⟨e0, HP⟩ := h2
    have := c_toRwS st (sx.map unRw) HP
    exact ⟨by simpa only [e0] using this, rfl, by simp [No99, No99L, no99_box, no99_i, no99_str, no99_Pt, no99_Aw, no99_Blk, no99_Sec, no99_Rw, no99_Sky, -List.map_map]⟩
  · cases h1
theorem c_eqRw (c d : Rw)  : Contract P 136 [.agg (c.row), .agg (d.row)] [] (.bool (decide (c = d))) [] := by
  obtain ⟨c_nm, c_x, c_y, c_tn⟩ := c
  obtain ⟨d_nm, d_x, d_y, d_tn⟩ := d
  simp only [Rw.row]
  refine fn_sound (Env.nil P) hm k_laws_eqSkyRunway (Nat.le_of_ble_eq_true rfl) rfl ?_; unfold s_laws_eqSkyRunway; simp (config := { maxSteps := 2000000 }) only [bitvec_to_nat, reduceIte, Nat.reduceEqDiff, Nat.reduceAdd, Nat.reduceLeDiff, reduceCtorEq, Nat.reduceBEq, Nat.reduceLT, List.forall_mem_cons, tk_map, dp_map, toNat_pred, appE, rowsOf, List.take_length, List.length_cons, List.length_nil, Nat.zero_add, srow, irow, un_s, un_i, Pt.row, Pt_eta, Aw.row, Aw_eta, Blk.row, Blk_eta, Sec.row, Sec_eta, Rw.row, Rw_eta, Sky.row, Sky_eta, un_Pt, un_Aw, un_Blk, un_Sec, un_Rw, un_Sky]
  simp only [Rw.mk.injEq]
  repeat' (first | with_reducible apply And.intro | with_reducible intro _)
  all_goals first | omega | (simp_all; done) | grind
def t_eqRw : List AV → Option (Prop × AV)
  | [.agg [.str c_nm, .int .i64 c_x, .int .i64 c_y, .int .i64 c_tn], .agg [.str d_nm, .int .i64 d_x, .int .i64 d_y, .int .i64 d_tn]] => some ((True) ∧ (True), .bool (decide ((Rw.mk c_nm c_x c_y c_tn) = (Rw.mk d_nm d_x d_y d_tn))))
  | _ => none
theorem h_eqRw : ∀ args p v, t_eqRw args = some (p, v) → p → Contract P 136 args [] v [] ∧ noref v = true ∧ No99 v := by
  intro args p v h1 h2
  unfold t_eqRw at h1
  split at h1
  · rename_i c_nm c_x c_y c_tn d_nm d_x d_y d_tn
    cases h1
    obtain ⟨_, HP⟩ := h2
    have := c_eqRw (Rw.mk c_nm c_x c_y c_tn) (Rw.mk d_nm d_x d_y d_tn)
    exact ⟨by simpa only [Rw.row, Rw.row] using this, rfl, trivial⟩
  · cases h1
theorem c_eqRwS (t t' : Nat) (p q : List Rw) (hp : p.length ≤ 4611686018427387904) : Contract P 85 [.sl t 4 (p.map Rw.row), .sl t' 4 (q.map Rw.row)] [] (.bool (decide (p = q))) [] := by
  refine fn_sound ((Env.nil P).add 136 t_eqRw h_eqRw) hm k_laws_eqSkyRunwayS (Nat.le_of_ble_eq_true rfl) rfl ?_; unfold s_laws_eqSkyRunwayS; simp (config := { maxSteps := 2000000 }) only [bitvec_to_nat, reduceIte, Nat.reduceEqDiff, Nat.reduceAdd, Nat.reduceLeDiff, reduceCtorEq, Nat.reduceBEq, Nat.reduceLT, List.forall_mem_cons, t_eqRw, tk_map, dp_map, toNat_pred, appE, rowsOf, List.take_length, List.length_cons, List.length_nil, Nat.zero_add, srow, irow, un_s, un_i, Pt.row, Pt_eta, Aw.row, Aw_eta, Blk.row, Blk_eta, Sec.row, Sec_eta, Rw.row, Rw_eta, Sky.row, Sky_eta, un_Pt, un_Aw, un_Blk, un_Sec, un_Rw, un_Sky]
  refine ⟨fun h1 h => h1 (by rw [h]), fun h1 => ?_⟩
  refine loop_st (fun i : Nat => [(5, .int .i64 i)]) (fun _ => []) (fun i => i ≤ p.length ∧ ∀ j, j < i → p.getD j default = q.getD j default) (fun i => p.length - i) (0) (by simp only [u_E0, u_E1, u_M0, u_M1, w_setE0, w_setE1, w_setM0, w_setM1, reduceIte, Nat.reduceEqDiff]; exact ⟨by repeat' (first | exact trivial | refine ⟨.inr rfl, ?_⟩), by repeat' (first | exact trivial | refine ⟨rfl, ?_⟩), by first | rfl | simp [closedB, refsIn, refsInL, refsInO, dom, refsInL_nr, *], by first | rfl | simp [keepB, dom]⟩) ?_ ?_
  · exact ⟨Nat.zero_le _, by intro j hj; omega⟩
  intro i hi NX hN
  unfold l_laws_eqSkyRunwayS_0; simp (config := { maxSteps := 2000000 }) only [bitvec_to_nat, reduceIte, Nat.reduceEqDiff, Nat.reduceAdd, Nat.reduceLeDiff, reduceCtorEq, Nat.reduceBEq, Nat.reduceLT, List.forall_mem_cons, t_eqRw, tk_map, dp_map, toNat_pred, appE, rowsOf, List.take_length, List.length_cons, List.length_nil, Nat.zero_add, srow, irow, un_s, un_i, Pt.row, Pt_eta, Aw.row, Aw_eta, Blk.row, Blk_eta, Sec.row, Sec_eta, Rw.row, Rw_eta, Sky.row, Sky_eta, un_Pt, un_Aw, un_Blk, un_Sec, un_Rw, un_Sky]
  skip
  repeat' (first | with_reducible apply And.intro | with_reducible intro _)
  all_goals first
    | omega
    | (refine hN (i + 1) _ (by simp only [u_E0, u_E1, u_M0, u_M1, w_setE0, w_setE1, w_setM0, w_setM1, reduceIte, Nat.reduceEqDiff]; exact ⟨by repeat' (first | exact trivial | refine ⟨.inr rfl, ?_⟩), by repeat' (first | exact trivial | refine ⟨rfl, ?_⟩), by first | rfl | simp [closedB, refsIn, refsInL, refsInO, dom, refsInL_nr, *], by first | rfl | simp [keepB, dom]⟩) ?_ ?_
       · exact ⟨by omega, all_snoc hi.2 (by with_reducible assumption)⟩
       · omega)
    | (intro h; subst h; exact absurd rfl (by with_reducible assumption))
    | (exact ext_of (by omega) fun j hj => hi.2 j (by omega))
    | grind
def t_eqRwS : List AV → Option (Prop × AV)
  | [.sl ct 4 cx, .sl dt 4 dx] => some ((((cx.map unRw).map Rw.row = cx) ∧ ((dx.map unRw).map Rw.row = dx)) ∧ ((cx.map unRw).length ≤ 4611686018427387904), .bool (decide ((cx.map unRw) = (dx.map unRw))))
  | _ => none
theorem h_eqRwS : ∀ args p v, t_eqRwS args = some (p, v) → p → Contract P 85 args [] v [] ∧ noref v = true ∧ No99 v := by
  intro args p v h1 h2
  unfold t_eqRwS at h1
  split at h1
  · rename_i ct cx dt dx
    cases h1
    obtain ⟨⟨e0, e1⟩, HP⟩ := h2
    have := c_eqRwS ct dt (cx.map unRw) (dx.map unRw) HP
    exact ⟨by simpa only [e0, e1] using this, rfl, trivial⟩
  · cases h1
theorem c_toAw (s : Aw) (hs : s.small) : Contract P 130 [.agg (s.row 1)] [] (.agg (s.row 0)) [] := by
  unfold Aw.small at hs
  simp only [Aw.row]
  refine fn_sound ((Env.nil P).add 41 t_toStringS h_toStringS) hm k_laws_toSkyAirway (Nat.le_of_ble_eq_true rfl) rfl ?_; unfold s_laws_toSkyAirway; simp (config := { maxSteps := 2000000 }) only [bitvec_to_nat, reduceIte, Nat.reduceEqDiff, Nat.reduceAdd, Nat.reduceLeDiff, reduceCtorEq, Nat.reduceBEq, Nat.reduceLT, List.forall_mem_cons, t_toStringS, tk_map, dp_map, toNat_pred, appE, rowsOf, List.take_length, List.length_cons, List.length_nil, Nat.zero_add, srow, irow, un_s, un_i, Pt.row, Pt_eta, Aw.row, Aw_eta, Blk.row, Blk_eta, Sec.row, Sec_eta, Rw.row, Rw_eta, Sky.row, Sky_eta, un_Pt, un_Aw, un_Blk, un_Sec, un_Rw, un_Sky]
  repeat' (first | with_reducible apply And.intro | with_reducible intro _)
  all_goals first | omega | grind | grind [Aw.small, Sec.small, Sky.small]
def t_toAw : List AV → Option (Prop × AV)
  | [.agg [.str s_nm, .sl 1 1 s_pts]] => some ((((s_pts.map unS).map srow = s_pts)) ∧ (Aw.small (Aw.mk s_nm (s_pts.map unS))), .agg (Aw.row 0 (Aw.mk s_nm (s_pts.map unS))))
  | _ => none
theorem h_toAw : ∀ args p v, t_toAw args = some (p, v) → p → Contract P 130 args [] v [] ∧ noref v = true ∧ No99 v := by
  intro args p v h1 h2
  unfold t_toAw at h1
  split at h1
  · rename_i s_nm s_pts
    cases h1
    obtain ⟨e0, HP⟩ := h2
    have := c_toAw (Aw.mk s_nm (s_pts.map unS)) HP
    exact ⟨by simpa only [e0, Aw.row] using this, rfl, by simp [Aw.row, No99, No99L, no99_box, no99_i, no99_str, no99_Pt, no99_Aw, no99_Blk, no99_Sec, no99_Rw, no99_Sky, -List.map_map]⟩
  · cases h1
theorem set_Aw {lst : List Aw} {idx : Nat} {vnm : ByteArray} {vpts : List ByteArray} : (lst.map (Aw.row 0)).set idx (setSeg ((lst.map (Aw.row 0)).getD idx []) 0 [.str vnm, .sl 0 1 (vpts.map srow)]) = (lst.set idx (Aw.mk vnm vpts)).map (Aw.row 0) :=
  set_rows (α := Aw) (f := (Aw.row 0)) (fun s => (Aw.mk vnm vpts)) fun x => by simp [Aw.row, setSeg]
def to_Aw (a : List Aw) (i : Nat) : List Aw := a.take i ++ List.replicate (a.length - i) ⟨⟨#[]⟩, []⟩
theorem to_Aw_st {a : List Aw} {i : Nat} (h : i < a.length) : (to_Aw a i).set i (a.getD i default) = to_Aw a (i + 1) := by
  refine List.ext_getElem (by simp [to_Aw]; omega) fun j h1 h2 => ?_
  by_cases e : j = i
  · subst e
    simp [to_Aw, List.getElem_append, h]
    intro h9; omega
  · simp only [List.getElem_set_ne (Ne.symm e)]
    simp only [to_Aw, List.getElem_append, List.length_take, List.getElem_take, List.getElem_replicate]
    split <;> split <;> first | rfl | omega
theorem c_toAwS (t : Nat) (a : List Aw) (ha : a.length ≤ 1048576) (hs : ∀ x ∈ a, x.small) : Contract P 71 [.sl t 2 (a.map (Aw.row 1))] [] (.sl 0 2 (a.map (Aw.row 0))) [] := by
  refine fn_sound ((Env.nil P).add 130 t_toAw h_toAw) hm k_laws_toSkyAirwayS (Nat.le_of_ble_eq_true rfl) rfl ?_; unfold s_laws_toSkyAirwayS; simp (config := { maxSteps := 2000000 }) only [bitvec_to_nat, reduceIte, Nat.reduceEqDiff, Nat.reduceAdd, Nat.reduceLeDiff, reduceCtorEq, Nat.reduceBEq, Nat.reduceLT, List.forall_mem_cons, t_toAw, tk_map, dp_map, toNat_pred, appE, rowsOf, List.take_length, List.length_cons, List.length_nil, Nat.zero_add, srow, irow, un_s, un_i, Pt.row, Pt_eta, Aw.row, Aw_eta, Blk.row, Blk_eta, Sec.row, Sec_eta, Rw.row, Rw_eta, Sky.row, Sky_eta, un_Pt, un_Aw, un_Blk, un_Sec, un_Rw, un_Sky, set_Aw, Nat.sub_zero]
  have m0 : List.replicate a.length [.str ⟨#[]⟩, .sl 0 1 []] = (to_Aw a 0).map (Aw.row 0) := by simp [to_Aw, Aw.row]
  refine ⟨by omega, ?_⟩
  refine loop_st (fun i : Nat => [(4, .int .i64 i)]) (fun i => [(107, .arr 108 0 2 ((to_Aw a i).map (Aw.row 0)))]) (fun i => i ≤ a.length) (fun i => a.length - i) 0 (by simp only [u_E0, u_E1, u_M0, u_M1, w_setE0, w_setE1, w_setM0, w_setM1, reduceIte, Nat.reduceEqDiff]; exact ⟨by repeat' (first | exact trivial | refine ⟨.inr rfl, ?_⟩), ⟨congrArg (fun g => some (AObj.arr 108 0 2 g)) m0, trivial⟩, rfl, rfl⟩) (Nat.zero_le _) ?_
  intro i hi NX hN
  have hs2 : i < a.length → (a.getD i default).small := fun h => hs _ (getD_mem' h)
  unfold l_laws_toSkyAirwayS_0; simp (config := { maxSteps := 2000000 }) only [bitvec_to_nat, reduceIte, Nat.reduceEqDiff, Nat.reduceAdd, Nat.reduceLeDiff, reduceCtorEq, Nat.reduceBEq, Nat.reduceLT, List.forall_mem_cons, t_toAw, tk_map, dp_map, toNat_pred, appE, rowsOf, List.take_length, List.length_cons, List.length_nil, Nat.zero_add, srow, irow, un_s, un_i, Pt.row, Pt_eta, Aw.row, Aw_eta, Blk.row, Blk_eta, Sec.row, Sec_eta, Rw.row, Rw_eta, Sky.row, Sky_eta, un_Pt, un_Aw, un_Blk, un_Sec, un_Rw, un_Sky, set_Aw, Nat.sub_zero]
  refine ⟨fun h => ?_, fun h => ?_⟩
  · repeat' (first | with_reducible apply And.intro | with_reducible intro _)
    all_goals first
      | omega
      | rfl
      | exact hs2 (by omega)
      | (have e := to_Aw_st (a := a) (i := i) (by omega)
         try simp only [Aw.row] at *
         refine hN (i + 1) _ ⟨by repeat' (first | exact trivial | refine ⟨.inr rfl, ?_⟩), ⟨congrArg (fun g => some (AObj.arr 108 0 2 (List.map (Aw.row 0) g))) e, trivial⟩, rfl, rfl⟩ ?_ ?_ <;> omega)
  · have e : i = a.length := by omega
    subst e
    simp only [to_Aw, List.take_length, Nat.sub_self, List.replicate_zero, List.append_nil]
    try rw [List.take_of_length_le (by simp)]
def t_toAwS : List AV → Option (Prop × AV)
  | [.sl st 2 sx] => some ((((sx.map unAw).map (Aw.row 1) = sx)) ∧ ((sx.map unAw).length ≤ 1048576 ∧ ∀ x ∈ (sx.map unAw), x.small), .sl 0 2 ((sx.map unAw).map (Aw.row 0)))
  | _ => none
theorem h_toAwS : ∀ args p v, t_toAwS args = some (p, v) → p → Contract P 71 args [] v [] ∧ noref v = true ∧ No99 v := by
  intro args p v h1 h2
  unfold t_toAwS at h1
  split at h1
  · rename_i st sx
    cases h1
    obtain ⟨e0, HP⟩ := h2
    have := c_toAwS st (sx.map unAw) HP.1 HP.2
    exact ⟨by simpa only [e0] using this, rfl, by simp [No99, No99L, no99_box, no99_i, no99_str, no99_Pt, no99_Aw, no99_Blk, no99_Sec, no99_Rw, no99_Sky, -List.map_map]⟩
  · cases h1
theorem c_eqAw (c d : Aw) (hl : c.pts.length ≤ 4611686018427387904) : Contract P 134 [.agg (c.row 0), .agg (d.row 0)] [] (.bool (decide (c = d))) [] := by
  obtain ⟨c_nm, c_pts⟩ := c
  obtain ⟨d_nm, d_pts⟩ := d
  simp only [Aw.row]
  refine fn_sound ((Env.nil P).add 44 t_eqStringS h_eqStringS) hm k_laws_eqSkyAirway (Nat.le_of_ble_eq_true rfl) rfl ?_; unfold s_laws_eqSkyAirway; simp (config := { maxSteps := 2000000 }) only [bitvec_to_nat, reduceIte, Nat.reduceEqDiff, Nat.reduceAdd, Nat.reduceLeDiff, reduceCtorEq, Nat.reduceBEq, Nat.reduceLT, List.forall_mem_cons, t_eqStringS, tk_map, dp_map, toNat_pred, appE, rowsOf, List.take_length, List.length_cons, List.length_nil, Nat.zero_add, srow, irow, un_s, un_i, Pt.row, Pt_eta, Aw.row, Aw_eta, Blk.row, Blk_eta, Sec.row, Sec_eta, Rw.row, Rw_eta, Sky.row, Sky_eta, un_Pt, un_Aw, un_Blk, un_Sec, un_Rw, un_Sky]
  simp only [Aw.mk.injEq]
  repeat' (first | with_reducible apply And.intro | with_reducible intro _)
  all_goals first | omega | (simp_all; done) | grind | grind [Aw.small, Sec.small, Sky.small]
def t_eqAw : List AV → Option (Prop × AV)
  | [.agg [.str c_nm, .sl 0 1 c_pts], .agg [.str d_nm, .sl 0 1 d_pts]] => some ((((c_pts.map unS).map srow = c_pts) ∧ ((d_pts.map unS).map srow = d_pts)) ∧ ((Aw.mk c_nm (c_pts.map unS)).pts.length ≤ 4611686018427387904), .bool (decide ((Aw.mk c_nm (c_pts.map unS)) = (Aw.mk d_nm (d_pts.map unS)))))
  | _ => none
theorem h_eqAw : ∀ args p v, t_eqAw args = some (p, v) → p → Contract P 134 args [] v [] ∧ noref v = true ∧ No99 v := by
  intro args p v h1 h2
  unfold t_eqAw at h1
  split at h1
  · rename_i c_nm c_pts d_nm d_pts
    cases h1
    obtain ⟨⟨e0, e1⟩, HP⟩ := h2
    have := c_eqAw (Aw.mk c_nm (c_pts.map unS)) (Aw.mk d_nm (d_pts.map unS)) HP
    exact ⟨by simpa only [e0, e1, Aw.row, Aw.row] using this, rfl, trivial⟩
  · cases h1
theorem c_eqAwS (t t' : Nat) (p q : List Aw) (hp : p.length ≤ 4611686018427387904) (hx : ∀ x ∈ p, x.pts.length ≤ 4611686018427387904) : Contract P 83 [.sl t 2 (p.map (Aw.row 0)), .sl t' 2 (q.map (Aw.row 0))] [] (.bool (decide (p = q))) [] := by
  refine fn_sound ((Env.nil P).add 134 t_eqAw h_eqAw) hm k_laws_eqSkyAirwayS (Nat.le_of_ble_eq_true rfl) rfl ?_; unfold s_laws_eqSkyAirwayS; simp (config := { maxSteps := 2000000 }) only [bitvec_to_nat, reduceIte, Nat.reduceEqDiff, Nat.reduceAdd, Nat.reduceLeDiff, reduceCtorEq, Nat.reduceBEq, Nat.reduceLT, List.forall_mem_cons, t_eqAw, tk_map, dp_map, toNat_pred, appE, rowsOf, List.take_length, List.length_cons, List.length_nil, Nat.zero_add, srow, irow, un_s, un_i, Pt.row, Pt_eta, Aw.row, Aw_eta, Blk.row, Blk_eta, Sec.row, Sec_eta, Rw.row, Rw_eta, Sky.row, Sky_eta, un_Pt, un_Aw, un_Blk, un_Sec, un_Rw, un_Sky]
  refine ⟨fun h1 h => h1 (by rw [h]), fun h1 => ?_⟩
  refine loop_st (fun i : Nat => [(5, .int .i64 i)]) (fun _ => []) (fun i => i ≤ p.length ∧ ∀ j, j < i → p.getD j default = q.getD j default) (fun i => p.length - i) (0) (by simp only [u_E0, u_E1, u_M0, u_M1, w_setE0, w_setE1, w_setM0, w_setM1, reduceIte, Nat.reduceEqDiff]; exact ⟨by repeat' (first | exact trivial | refine ⟨.inr rfl, ?_⟩), by repeat' (first | exact trivial | refine ⟨rfl, ?_⟩), by first | rfl | simp [closedB, refsIn, refsInL, refsInO, dom, refsInL_nr, *], by first | rfl | simp [keepB, dom]⟩) ?_ ?_
  · exact ⟨Nat.zero_le _, by intro j hj; omega⟩
  intro i hi NX hN
  unfold l_laws_eqSkyAirwayS_0; simp (config := { maxSteps := 2000000 }) only [bitvec_to_nat, reduceIte, Nat.reduceEqDiff, Nat.reduceAdd, Nat.reduceLeDiff, reduceCtorEq, Nat.reduceBEq, Nat.reduceLT, List.forall_mem_cons, t_eqAw, tk_map, dp_map, toNat_pred, appE, rowsOf, List.take_length, List.length_cons, List.length_nil, Nat.zero_add, srow, irow, un_s, un_i, Pt.row, Pt_eta, Aw.row, Aw_eta, Blk.row, Blk_eta, Sec.row, Sec_eta, Rw.row, Rw_eta, Sky.row, Sky_eta, un_Pt, un_Aw, un_Blk, un_Sec, un_Rw, un_Sky]
  have hx2 : i < p.length → _ := fun h => hx _ (getD_mem' h)
  repeat' (first | with_reducible apply And.intro | with_reducible intro _)
  all_goals first
    | omega
    | (refine hN (i + 1) _ (by simp only [u_E0, u_E1, u_M0, u_M1, w_setE0, w_setE1, w_setM0, w_setM1, reduceIte, Nat.reduceEqDiff]; exact ⟨by repeat' (first | exact trivial | refine ⟨.inr rfl, ?_⟩), by repeat' (first | exact trivial | refine ⟨rfl, ?_⟩), by first | rfl | simp [closedB, refsIn, refsInL, refsInO, dom, refsInL_nr, *], by first | rfl | simp [keepB, dom]⟩) ?_ ?_
       · exact ⟨by omega, all_snoc hi.2 (by with_reducible assumption)⟩
       · omega)
    | (intro h; subst h; exact absurd rfl (by with_reducible assumption))
    | (exact ext_of (by omega) fun j hj => hi.2 j (by omega))
    | grind
def t_eqAwS : List AV → Option (Prop × AV)
  | [.sl ct 2 cx, .sl dt 2 dx] => some ((((cx.map unAw).map (Aw.row 0) = cx) ∧ ((dx.map unAw).map (Aw.row 0) = dx)) ∧ ((cx.map unAw).length ≤ 4611686018427387904 ∧ ∀ x ∈ (cx.map unAw), x.pts.length ≤ 4611686018427387904), .bool (decide ((cx.map unAw) = (dx.map unAw))))
  | _ => none
theorem h_eqAwS : ∀ args p v, t_eqAwS args = some (p, v) → p → Contract P 83 args [] v [] ∧ noref v = true ∧ No99 v := by
  intro args p v h1 h2
  unfold t_eqAwS at h1
  split at h1
  · rename_i ct cx dt dx
    cases h1
    obtain ⟨⟨e0, e1⟩, HP⟩ := h2
    have := c_eqAwS ct dt (cx.map unAw) (dx.map unAw) HP.1 HP.2
    exact ⟨by simpa only [e0, e1] using this, rfl, trivial⟩
  · cases h1
theorem c_toSec (s : Sec) (hs : s.small) : Contract P 131 [.agg (s.row 1)] [] (.agg (s.row 0)) [] := by
  unfold Sec.small at hs
  simp only [Sec.row]
  refine fn_sound ((Env.nil P).add 158 t_toBlkS h_toBlkS) hm k_laws_toSkySector (Nat.le_of_ble_eq_true rfl) rfl ?_; unfold s_laws_toSkySector; simp (config := { maxSteps := 2000000 }) only [bitvec_to_nat, reduceIte, Nat.reduceEqDiff, Nat.reduceAdd, Nat.reduceLeDiff, reduceCtorEq, Nat.reduceBEq, Nat.reduceLT, List.forall_mem_cons, t_toBlkS, tk_map, dp_map, toNat_pred, appE, rowsOf, List.take_length, List.length_cons, List.length_nil, Nat.zero_add, srow, irow, un_s, un_i, Pt.row, Pt_eta, Aw.row, Aw_eta, Blk.row, Blk_eta, Sec.row, Sec_eta, Rw.row, Rw_eta, Sky.row, Sky_eta, un_Pt, un_Aw, un_Blk, un_Sec, un_Rw, un_Sky]
  repeat' (first | with_reducible apply And.intro | with_reducible intro _)
  all_goals first | omega | grind | grind [Aw.small, Sec.small, Sky.small]
def t_toSec : List AV → Option (Prop × AV)
  | [.agg [.str s_nm, .sl 1 6 s_bl]] => some ((((s_bl.map unBlk).map Blk.row = s_bl)) ∧ (Sec.small (Sec.mk s_nm (s_bl.map unBlk))), .agg (Sec.row 0 (Sec.mk s_nm (s_bl.map unBlk))))
  | _ => none
theorem h_toSec : ∀ args p v, t_toSec args = some (p, v) → p → Contract P 131 args [] v [] ∧ noref v = true ∧ No99 v := by
  intro args p v h1 h2
  unfold t_toSec at h1
  split at h1
  · rename_i s_nm s_bl
    cases h1
    obtain ⟨e0, HP⟩ := h2
    have := c_toSec (Sec.mk s_nm (s_bl.map unBlk)) HP
    exact ⟨by simpa only [e0, Sec.row] using this, rfl, by simp [Sec.row, No99, No99L, no99_box, no99_i, no99_str, no99_Pt, no99_Aw, no99_Blk, no99_Sec, no99_Rw, no99_Sky, -List.map_map]⟩
  · cases h1
theorem set_Sec {lst : List Sec} {idx : Nat} {vnm : ByteArray} {vbl : List Blk} : (lst.map (Sec.row 0)).set idx (setSeg ((lst.map (Sec.row 0)).getD idx []) 0 [.str vnm, .sl 0 6 (vbl.map Blk.row)]) = (lst.set idx (Sec.mk vnm vbl)).map (Sec.row 0) :=
  set_rows (α := Sec) (f := (Sec.row 0)) (fun s => (Sec.mk vnm vbl)) fun x => by simp [Sec.row, setSeg]
def to_Sec (a : List Sec) (i : Nat) : List Sec := a.take i ++ List.replicate (a.length - i) ⟨⟨#[]⟩, []⟩
theorem to_Sec_st {a : List Sec} {i : Nat} (h : i < a.length) : (to_Sec a i).set i (a.getD i default) = to_Sec a (i + 1) := by
  refine List.ext_getElem (by simp [to_Sec]; omega) fun j h1 h2 => ?_
  by_cases e : j = i
  · subst e
    simp [to_Sec, List.getElem_append, h]
    intro h9; omega
  · simp only [List.getElem_set_ne (Ne.symm e)]
    simp only [to_Sec, List.getElem_append, List.length_take, List.getElem_take, List.getElem_replicate]
    split <;> split <;> first | rfl | omega
theorem c_toSecS (t : Nat) (a : List Sec) (ha : a.length ≤ 1048576) (hs : ∀ x ∈ a, x.small) : Contract P 72 [.sl t 2 (a.map (Sec.row 1))] [] (.sl 0 2 (a.map (Sec.row 0))) [] := by
  refine fn_sound ((Env.nil P).add 131 t_toSec h_toSec) hm k_laws_toSkySectorS (Nat.le_of_ble_eq_true rfl) rfl ?_; unfold s_laws_toSkySectorS; simp (config := { maxSteps := 2000000 }) only [bitvec_to_nat, reduceIte, Nat.reduceEqDiff, Nat.reduceAdd, Nat.reduceLeDiff, reduceCtorEq, Nat.reduceBEq, Nat.reduceLT, List.forall_mem_cons, t_toSec, tk_map, dp_map, toNat_pred, appE, rowsOf, List.take_length, List.length_cons, List.length_nil, Nat.zero_add, srow, irow, un_s, un_i, Pt.row, Pt_eta, Aw.row, Aw_eta, Blk.row, Blk_eta, Sec.row, Sec_eta, Rw.row, Rw_eta, Sky.row, Sky_eta, un_Pt, un_Aw, un_Blk, un_Sec, un_Rw, un_Sky, set_Sec, Nat.sub_zero]
  have m0 : List.replicate a.length [.str ⟨#[]⟩, .sl 0 6 []] = (to_Sec a 0).map (Sec.row 0) := by simp [to_Sec, Sec.row]
  refine ⟨by omega, ?_⟩
  refine loop_st (fun i : Nat => [(4, .int .i64 i)]) (fun i => [(107, .arr 111 0 2 ((to_Sec a i).map (Sec.row 0)))]) (fun i => i ≤ a.length) (fun i => a.length - i) 0 (by simp only [u_E0, u_E1, u_M0, u_M1, w_setE0, w_setE1, w_setM0, w_setM1, reduceIte, Nat.reduceEqDiff]; exact ⟨by repeat' (first | exact trivial | refine ⟨.inr rfl, ?_⟩), ⟨congrArg (fun g => some (AObj.arr 111 0 2 g)) m0, trivial⟩, rfl, rfl⟩) (Nat.zero_le _) ?_
  intro i hi NX hN
  have hs2 : i < a.length → (a.getD i default).small := fun h => hs _ (getD_mem' h)
  unfold l_laws_toSkySectorS_0; simp (config := { maxSteps := 2000000 }) only [bitvec_to_nat, reduceIte, Nat.reduceEqDiff, Nat.reduceAdd, Nat.reduceLeDiff, reduceCtorEq, Nat.reduceBEq, Nat.reduceLT, List.forall_mem_cons, t_toSec, tk_map, dp_map, toNat_pred, appE, rowsOf, List.take_length, List.length_cons, List.length_nil, Nat.zero_add, srow, irow, un_s, un_i, Pt.row, Pt_eta, Aw.row, Aw_eta, Blk.row, Blk_eta, Sec.row, Sec_eta, Rw.row, Rw_eta, Sky.row, Sky_eta, un_Pt, un_Aw, un_Blk, un_Sec, un_Rw, un_Sky, set_Sec, Nat.sub_zero]
  refine ⟨fun h => ?_, fun h => ?_⟩
  · repeat' (first | with_reducible apply And.intro | with_reducible intro _)
    all_goals first
      | omega
      | rfl
      | exact hs2 (by omega)
      | (have e := to_Sec_st (a := a) (i := i) (by omega)
         try simp only [Sec.row] at *
         refine hN (i + 1) _ ⟨by repeat' (first | exact trivial | refine ⟨.inr rfl, ?_⟩), ⟨congrArg (fun g => some (AObj.arr 111 0 2 (List.map (Sec.row 0) g))) e, trivial⟩, rfl, rfl⟩ ?_ ?_ <;> omega)
  · have e : i = a.length := by omega
    subst e
    simp only [to_Sec, List.take_length, Nat.sub_self, List.replicate_zero, List.append_nil]
    try rw [List.take_of_length_le (by simp)]
def t_toSecS : List AV → Option (Prop × AV)
  | [.sl st 2 sx] => some ((((sx.map unSec).map (Sec.row 1) = sx)) ∧ ((sx.map unSec).length ≤ 1048576 ∧ ∀ x ∈ (sx.map unSec), x.small), .sl 0 2 ((sx.map unSec).map (Sec.row 0)))
  | _ => none
theorem h_toSecS : ∀ args p v, t_toSecS args = some (p, v) → p → Contract P 72 args [] v [] ∧ noref v = true ∧ No99 v := by
  intro args p v h1 h2
  unfold t_toSecS at h1
  split at h1
  · rename_i st sx
    cases h1
    obtain ⟨e0, HP⟩ := h2
    have := c_toSecS st (sx.map unSec) HP.1 HP.2
    exact ⟨by simpa only [e0] using this, rfl, by simp [No99, No99L, no99_box, no99_i, no99_str, no99_Pt, no99_Aw, no99_Blk, no99_Sec, no99_Rw, no99_Sky, -List.map_map]⟩
  · cases h1
theorem c_eqSec (c d : Sec) (hl : c.bl.length ≤ 4611686018427387904) : Contract P 135 [.agg (c.row 0), .agg (d.row 0)] [] (.bool (decide (c = d))) [] := by
  obtain ⟨c_nm, c_bl⟩ := c
  obtain ⟨d_nm, d_bl⟩ := d
  simp only [Sec.row]
  refine fn_sound ((Env.nil P).add 159 t_eqBlkS h_eqBlkS) hm k_laws_eqSkySector (Nat.le_of_ble_eq_true rfl) rfl ?_; unfold s_laws_eqSkySector; simp (config := { maxSteps := 2000000 }) only [bitvec_to_nat, reduceIte, Nat.reduceEqDiff, Nat.reduceAdd, Nat.reduceLeDiff, reduceCtorEq, Nat.reduceBEq, Nat.reduceLT, List.forall_mem_cons, t_eqBlkS, tk_map, dp_map, toNat_pred, appE, rowsOf, List.take_length, List.length_cons, List.length_nil, Nat.zero_add, srow, irow, un_s, un_i, Pt.row, Pt_eta, Aw.row, Aw_eta, Blk.row, Blk_eta, Sec.row, Sec_eta, Rw.row, Rw_eta, Sky.row, Sky_eta, un_Pt, un_Aw, un_Blk, un_Sec, un_Rw, un_Sky]
  simp only [Sec.mk.injEq]
  repeat' (first | with_reducible apply And.intro | with_reducible intro _)
  all_goals first | omega | (simp_all; done) | grind | grind [Aw.small, Sec.small, Sky.small]
def t_eqSec : List AV → Option (Prop × AV)
  | [.agg [.str c_nm, .sl 0 6 c_bl], .agg [.str d_nm, .sl 0 6 d_bl]] => some ((((c_bl.map unBlk).map Blk.row = c_bl) ∧ ((d_bl.map unBlk).map Blk.row = d_bl)) ∧ ((Sec.mk c_nm (c_bl.map unBlk)).bl.length ≤ 4611686018427387904), .bool (decide ((Sec.mk c_nm (c_bl.map unBlk)) = (Sec.mk d_nm (d_bl.map unBlk)))))
  | _ => none
theorem h_eqSec : ∀ args p v, t_eqSec args = some (p, v) → p → Contract P 135 args [] v [] ∧ noref v = true ∧ No99 v := by
  intro args p v h1 h2
  unfold t_eqSec at h1
  split at h1
  · rename_i c_nm c_bl d_nm d_bl
    cases h1
    obtain ⟨⟨e0, e1⟩, HP⟩ := h2
    have := c_eqSec (Sec.mk c_nm (c_bl.map unBlk)) (Sec.mk d_nm (d_bl.map unBlk)) HP
    exact ⟨by simpa only [e0, e1, Sec.row, Sec.row] using this, rfl, trivial⟩
  · cases h1
theorem c_eqSecS (t t' : Nat) (p q : List Sec) (hp : p.length ≤ 4611686018427387904) (hx : ∀ x ∈ p, x.bl.length ≤ 4611686018427387904) : Contract P 84 [.sl t 2 (p.map (Sec.row 0)), .sl t' 2 (q.map (Sec.row 0))] [] (.bool (decide (p = q))) [] := by
  refine fn_sound ((Env.nil P).add 135 t_eqSec h_eqSec) hm k_laws_eqSkySectorS (Nat.le_of_ble_eq_true rfl) rfl ?_; unfold s_laws_eqSkySectorS; simp (config := { maxSteps := 2000000 }) only [bitvec_to_nat, reduceIte, Nat.reduceEqDiff, Nat.reduceAdd, Nat.reduceLeDiff, reduceCtorEq, Nat.reduceBEq, Nat.reduceLT, List.forall_mem_cons, t_eqSec, tk_map, dp_map, toNat_pred, appE, rowsOf, List.take_length, List.length_cons, List.length_nil, Nat.zero_add, srow, irow, un_s, un_i, Pt.row, Pt_eta, Aw.row, Aw_eta, Blk.row, Blk_eta, Sec.row, Sec_eta, Rw.row, Rw_eta, Sky.row, Sky_eta, un_Pt, un_Aw, un_Blk, un_Sec, un_Rw, un_Sky]
  refine ⟨fun h1 h => h1 (by rw [h]), fun h1 => ?_⟩
  refine loop_st (fun i : Nat => [(5, .int .i64 i)]) (fun _ => []) (fun i => i ≤ p.length ∧ ∀ j, j < i → p.getD j default = q.getD j default) (fun i => p.length - i) (0) (by simp only [u_E0, u_E1, u_M0, u_M1, w_setE0, w_setE1, w_setM0, w_setM1, reduceIte, Nat.reduceEqDiff]; exact ⟨by repeat' (first | exact trivial | refine ⟨.inr rfl, ?_⟩), by repeat' (first | exact trivial | refine ⟨rfl, ?_⟩), by first | rfl | simp [closedB, refsIn, refsInL, refsInO, dom, refsInL_nr, *], by first | rfl | simp [keepB, dom]⟩) ?_ ?_
  · exact ⟨Nat.zero_le _, by intro j hj; omega⟩
  intro i hi NX hN
  unfold l_laws_eqSkySectorS_0; simp (config := { maxSteps := 2000000 }) only [bitvec_to_nat, reduceIte, Nat.reduceEqDiff, Nat.reduceAdd, Nat.reduceLeDiff, reduceCtorEq, Nat.reduceBEq, Nat.reduceLT, List.forall_mem_cons, t_eqSec, tk_map, dp_map, toNat_pred, appE, rowsOf, List.take_length, List.length_cons, List.length_nil, Nat.zero_add, srow, irow, un_s, un_i, Pt.row, Pt_eta, Aw.row, Aw_eta, Blk.row, Blk_eta, Sec.row, Sec_eta, Rw.row, Rw_eta, Sky.row, Sky_eta, un_Pt, un_Aw, un_Blk, un_Sec, un_Rw, un_Sky]
  have hx2 : i < p.length → _ := fun h => hx _ (getD_mem' h)
  repeat' (first | with_reducible apply And.intro | with_reducible intro _)
  all_goals first
    | omega
    | (refine hN (i + 1) _ (by simp only [u_E0, u_E1, u_M0, u_M1, w_setE0, w_setE1, w_setM0, w_setM1, reduceIte, Nat.reduceEqDiff]; exact ⟨by repeat' (first | exact trivial | refine ⟨.inr rfl, ?_⟩), by repeat' (first | exact trivial | refine ⟨rfl, ?_⟩), by first | rfl | simp [closedB, refsIn, refsInL, refsInO, dom, refsInL_nr, *], by first | rfl | simp [keepB, dom]⟩) ?_ ?_
       · exact ⟨by omega, all_snoc hi.2 (by with_reducible assumption)⟩
       · omega)
    | (intro h; subst h; exact absurd rfl (by with_reducible assumption))
    | (exact ext_of (by omega) fun j hj => hi.2 j (by omega))
    | grind
def t_eqSecS : List AV → Option (Prop × AV)
  | [.sl ct 2 cx, .sl dt 2 dx] => some ((((cx.map unSec).map (Sec.row 0) = cx) ∧ ((dx.map unSec).map (Sec.row 0) = dx)) ∧ ((cx.map unSec).length ≤ 4611686018427387904 ∧ ∀ x ∈ (cx.map unSec), x.bl.length ≤ 4611686018427387904), .bool (decide ((cx.map unSec) = (dx.map unSec))))
  | _ => none
theorem h_eqSecS : ∀ args p v, t_eqSecS args = some (p, v) → p → Contract P 84 args [] v [] ∧ noref v = true ∧ No99 v := by
  intro args p v h1 h2
  unfold t_eqSecS at h1
  split at h1
  · rename_i ct cx dt dx
    cases h1
    obtain ⟨⟨e0, e1⟩, HP⟩ := h2
    have := c_eqSecS ct dt (cx.map unSec) (dx.map unSec) HP.1 HP.2
    exact ⟨by simpa only [e0, e1] using this, rfl, trivial⟩
  · cases h1
theorem c_toSky (s : Sky) (hs : s.small) : Contract P 14 [.agg (s.row 1)] [] (.agg (s.row 0)) [] := by
  unfold Sky.small at hs
  simp only [Sky.row]
  refine fn_sound (((((Env.nil P).add 71 t_toAwS h_toAwS).add 70 t_toPtS h_toPtS).add 73 t_toRwS h_toRwS).add 72 t_toSecS h_toSecS) hm k_laws_toSky (Nat.le_of_ble_eq_true rfl) rfl ?_; unfold s_laws_toSky; simp (config := { maxSteps := 2000000 }) only [bitvec_to_nat, reduceIte, Nat.reduceEqDiff, Nat.reduceAdd, Nat.reduceLeDiff, reduceCtorEq, Nat.reduceBEq, Nat.reduceLT, List.forall_mem_cons, t_toAwS, t_toPtS, t_toRwS, t_toSecS, tk_map, dp_map, toNat_pred, appE, rowsOf, List.take_length, List.length_cons, List.length_nil, Nat.zero_add, srow, irow, un_s, un_i, Pt.row, Pt_eta, Aw.row, Aw_eta, Blk.row, Blk_eta, Sec.row, Sec_eta, Rw.row, Rw_eta, Sky.row, Sky_eta, un_Pt, un_Aw, un_Blk, un_Sec, un_Rw, un_Sky]
  repeat' (first | with_reducible apply And.intro | with_reducible intro _)
  all_goals first | omega | grind | grind [Aw.small, Sec.small, Sky.small]
def t_toSky : List AV → Option (Prop × AV)
  | [.agg [.int .i64 s_w, .int .i64 s_h, .int .i64 s_lv, .sl 1 3 s_pts, .sl 1 2 s_aws, .sl 1 2 s_secs, .sl 1 4 s_rws]] => some ((((s_pts.map unPt).map Pt.row = s_pts) ∧ ((s_aws.map unAw).map (Aw.row 1) = s_aws) ∧ ((s_secs.map unSec).map (Sec.row 1) = s_secs) ∧ ((s_rws.map unRw).map Rw.row = s_rws)) ∧ (Sky.small (Sky.mk s_w s_h s_lv (s_pts.map unPt) (s_aws.map unAw) (s_secs.map unSec) (s_rws.map unRw))), .agg (Sky.row 0 (Sky.mk s_w s_h s_lv (s_pts.map unPt) (s_aws.map unAw) (s_secs.map unSec) (s_rws.map unRw))))
  | _ => none
theorem h_toSky : ∀ args p v, t_toSky args = some (p, v) → p → Contract P 14 args [] v [] ∧ noref v = true ∧ No99 v := by
  intro args p v h1 h2
  unfold t_toSky at h1
  split at h1
  · rename_i s_w s_h s_lv s_pts s_aws s_secs s_rws
    cases h1
    obtain ⟨⟨e0, e1, e2, e3⟩, HP⟩ := h2
    have := c_toSky (Sky.mk s_w s_h s_lv (s_pts.map unPt) (s_aws.map unAw) (s_secs.map unSec) (s_rws.map unRw)) HP
    exact ⟨by simpa only [e0, e1, e2, e3, Sky.row] using this, rfl, by simp [Sky.row, No99, No99L, no99_box, no99_i, no99_str, no99_Pt, no99_Aw, no99_Blk, no99_Sec, no99_Rw, no99_Sky, -List.map_map]⟩
  · cases h1
theorem c_eqSky (c d : Sky) (hl : c.pts.length ≤ 4611686018427387904 ∧ c.aws.length ≤ 4611686018427387904 ∧ c.secs.length ≤ 4611686018427387904 ∧ c.rws.length ≤ 4611686018427387904 ∧ (∀ x ∈ c.aws, x.small) ∧ (∀ x ∈ c.secs, x.small)) : Contract P 16 [.agg (c.row 0), .agg (d.row 0)] [] (.bool (decide (c = d))) [] := by
  obtain ⟨c_w, c_h, c_lv, c_pts, c_aws, c_secs, c_rws⟩ := c
  obtain ⟨d_w, d_h, d_lv, d_pts, d_aws, d_secs, d_rws⟩ := d
  simp only [Sky.row]
  refine fn_sound (((((Env.nil P).add 83 t_eqAwS h_eqAwS).add 82 t_eqPtS h_eqPtS).add 85 t_eqRwS h_eqRwS).add 84 t_eqSecS h_eqSecS) hm k_laws_eqSky (Nat.le_of_ble_eq_true rfl) rfl ?_; unfold s_laws_eqSky; simp (config := { maxSteps := 2000000 }) only [bitvec_to_nat, reduceIte, Nat.reduceEqDiff, Nat.reduceAdd, Nat.reduceLeDiff, reduceCtorEq, Nat.reduceBEq, Nat.reduceLT, List.forall_mem_cons, t_eqAwS, t_eqPtS, t_eqRwS, t_eqSecS, tk_map, dp_map, toNat_pred, appE, rowsOf, List.take_length, List.length_cons, List.length_nil, Nat.zero_add, srow, irow, un_s, un_i, Pt.row, Pt_eta, Aw.row, Aw_eta, Blk.row, Blk_eta, Sec.row, Sec_eta, Rw.row, Rw_eta, Sky.row, Sky_eta, un_Pt, un_Aw, un_Blk, un_Sec, un_Rw, un_Sky]
  simp only [Sky.mk.injEq]
  repeat' (first | with_reducible apply And.intro | with_reducible intro _)
  all_goals first | omega | (simp_all; done) | grind | grind [Aw.small, Sec.small, Sky.small]
def t_eqSky : List AV → Option (Prop × AV)
  | [.agg [.int .i64 c_w, .int .i64 c_h, .int .i64 c_lv, .sl 0 3 c_pts, .sl 0 2 c_aws, .sl 0 2 c_secs, .sl 0 4 c_rws], .agg [.int .i64 d_w, .int .i64 d_h, .int .i64 d_lv, .sl 0 3 d_pts, .sl 0 2 d_aws, .sl 0 2 d_secs, .sl 0 4 d_rws]] => some ((((c_pts.map unPt).map Pt.row = c_pts) ∧ ((c_aws.map unAw).map (Aw.row 0) = c_aws) ∧ ((c_secs.map unSec).map (Sec.row 0) = c_secs) ∧ ((c_rws.map unRw).map Rw.row = c_rws) ∧ ((d_pts.map unPt).map Pt.row = d_pts) ∧ ((d_aws.map unAw).map (Aw.row 0) = d_aws) ∧ ((d_secs.map unSec).map (Sec.row 0) = d_secs) ∧ ((d_rws.map unRw).map Rw.row = d_rws)) ∧ ((Sky.mk c_w c_h c_lv (c_pts.map unPt) (c_aws.map unAw) (c_secs.map unSec) (c_rws.map unRw)).pts.length ≤ 4611686018427387904 ∧ (Sky.mk c_w c_h c_lv (c_pts.map unPt) (c_aws.map unAw) (c_secs.map unSec) (c_rws.map unRw)).aws.length ≤ 4611686018427387904 ∧ (Sky.mk c_w c_h c_lv (c_pts.map unPt) (c_aws.map unAw) (c_secs.map unSec) (c_rws.map unRw)).secs.length ≤ 4611686018427387904 ∧ (Sky.mk c_w c_h c_lv (c_pts.map unPt) (c_aws.map unAw) (c_secs.map unSec) (c_rws.map unRw)).rws.length ≤ 4611686018427387904 ∧ (∀ x ∈ (Sky.mk c_w c_h c_lv (c_pts.map unPt) (c_aws.map unAw) (c_secs.map unSec) (c_rws.map unRw)).aws, x.small) ∧ (∀ x ∈ (Sky.mk c_w c_h c_lv (c_pts.map unPt) (c_aws.map unAw) (c_secs.map unSec) (c_rws.map unRw)).secs, x.small)), .bool (decide ((Sky.mk c_w c_h c_lv (c_pts.map unPt) (c_aws.map unAw) (c_secs.map unSec) (c_rws.map unRw)) = (Sky.mk d_w d_h d_lv (d_pts.map unPt) (d_aws.map unAw) (d_secs.map unSec) (d_rws.map unRw)))))
  | _ => none
theorem h_eqSky : ∀ args p v, t_eqSky args = some (p, v) → p → Contract P 16 args [] v [] ∧ noref v = true ∧ No99 v := by
  intro args p v h1 h2
  unfold t_eqSky at h1
  split at h1
  · rename_i c_w c_h c_lv c_pts c_aws c_secs c_rws d_w d_h d_lv d_pts d_aws d_secs d_rws
    cases h1
    obtain ⟨⟨e0, e1, e2, e3, e4, e5, e6, e7⟩, HP⟩ := h2
    have := c_eqSky (Sky.mk c_w c_h c_lv (c_pts.map unPt) (c_aws.map unAw) (c_secs.map unSec) (c_rws.map unRw)) (Sky.mk d_w d_h d_lv (d_pts.map unPt) (d_aws.map unAw) (d_secs.map unSec) (d_rws.map unRw)) HP
    exact ⟨by simpa only [e0, e1, e2, e3, e4, e5, e6, e7, Sky.row, Sky.row] using this, rfl, trivial⟩
  · cases h1
end
end Go.Ve

namespace Go.Ve
noncomputable section
open Go.Proofs
set_option linter.unusedSimpArgs false
set_option linter.unusedVariables false
set_option maxRecDepth 100000
open Go.ChangeShapes Go.WideShapes
theorem fit_rows {α : Type} {f : α → List AV} {rs : List LSh} (h : ∀ r, fitsL rs r → ∃ x : α, r = f x) : ∀ {rows : List (List AV)}, (∀ r ∈ rows, fitsL rs r) → ∃ l : List α, rows = l.map f
  | [], _ => ⟨[], rfl⟩
  | r :: rows, k => by
    obtain ⟨x, rfl⟩ := h r (k r (by simp))
    obtain ⟨l, rfl⟩ := fit_rows h (rows := rows) fun r' h' => k r' (by simp [h'])
    exact ⟨x :: l, rfl⟩
def sh_ByteArray : List LSh := [.str]
theorem fit_ByteArray (r : List AV) (h : fitsL sh_ByteArray r) : ∃ x : ByteArray, r = srow x ∧ x.toList.length ≤ 9223372036854775807 := by
  simp only [sh_ByteArray, fitsL, fits] at h
  obtain ⟨_, _, rfl, ⟨n, rfl, h⟩, rfl⟩ := h
  exact ⟨n, rfl, by rw [← toList_size]; unfold maxLen at h; omega⟩
def sh_Pt : List LSh := [.str, .int .i64, .int .i64]
theorem fit_Pt (r : List AV) (h : fitsL sh_Pt r) : ∃ x : Pt, r = Pt.row x ∧ x.fitp := by
  simp only [sh_Pt, fitsL, fits] at h
  obtain ⟨_, _, rfl, ⟨nm, rfl, h_nm⟩, _, _, rfl, ⟨x, rfl, _⟩, _, _, rfl, ⟨y, rfl, _⟩, rfl⟩ := h

  exact ⟨⟨nm, x, y⟩, rfl, (by have e := toList_size nm; unfold maxLen at h_nm; show nm.toList.length ≤ _; omega)⟩
def sh_Blk : List LSh := [.int .i64, .int .i64, .int .i64, .int .i64, .int .i64, .int .i64]
theorem fit_Blk (r : List AV) (h : fitsL sh_Blk r) : ∃ x : Blk, r = Blk.row x := by
  simp only [sh_Blk, fitsL, fits] at h
  obtain ⟨_, _, rfl, ⟨x0, rfl, _⟩, _, _, rfl, ⟨y0, rfl, _⟩, _, _, rfl, ⟨x1, rfl, _⟩, _, _, rfl, ⟨y1, rfl, _⟩, _, _, rfl, ⟨lo, rfl, _⟩, _, _, rfl, ⟨hi, rfl, _⟩, rfl⟩ := h

  exact ⟨⟨x0, y0, x1, y1, lo, hi⟩, rfl⟩
def sh_Rw : List LSh := [.str, .int .i64, .int .i64, .int .i64]
theorem fit_Rw (r : List AV) (h : fitsL sh_Rw r) : ∃ x : Rw, r = Rw.row x ∧ x.fitp := by
  simp only [sh_Rw, fitsL, fits] at h
  obtain ⟨_, _, rfl, ⟨nm, rfl, h_nm⟩, _, _, rfl, ⟨x, rfl, _⟩, _, _, rfl, ⟨y, rfl, _⟩, _, _, rfl, ⟨tn, rfl, _⟩, rfl⟩ := h

  exact ⟨⟨nm, x, y, tn⟩, rfl, (by have e := toList_size nm; unfold maxLen at h_nm; show nm.toList.length ≤ _; omega)⟩
def sh_Aw : List LSh := [.str, .sl sh_ByteArray]
theorem fit_Aw (r : List AV) (h : fitsL sh_Aw r) : ∃ x : Aw, r = (Aw.row 1) x ∧ x.fitp := by
  simp only [sh_Aw, fitsL, fits] at h
  obtain ⟨_, _, rfl, ⟨nm, rfl, h_nm⟩, _, _, rfl, ⟨pts, rfl, h_pts, r_pts⟩, rfl⟩ := h
  obtain ⟨pts, rfl, p_pts⟩ := fit_rows2 fit_ByteArray r_pts
  rw [List.length_map] at h_pts
  exact ⟨⟨nm, pts⟩, rfl, ⟨(by have e := toList_size nm; unfold maxLen at h_nm; show nm.toList.length ≤ _; omega), ⟨(by unfold maxLen at h_pts; omega), p_pts⟩⟩⟩
def sh_Sec : List LSh := [.str, .sl sh_Blk]
theorem fit_Sec (r : List AV) (h : fitsL sh_Sec r) : ∃ x : Sec, r = (Sec.row 1) x ∧ x.fitp := by
  simp only [sh_Sec, fitsL, fits] at h
  obtain ⟨_, _, rfl, ⟨nm, rfl, h_nm⟩, _, _, rfl, ⟨bl, rfl, h_bl, r_bl⟩, rfl⟩ := h
  obtain ⟨bl, rfl⟩ := fit_rows fit_Blk r_bl
  rw [List.length_map] at h_bl
  exact ⟨⟨nm, bl⟩, rfl, ⟨(by have e := toList_size nm; unfold maxLen at h_nm; show nm.toList.length ≤ _; omega), (by unfold maxLen at h_bl; omega)⟩⟩
def sh_Sky : List LSh := [.int .i64, .int .i64, .int .i64, .sl sh_Pt, .sl sh_Aw, .sl sh_Sec, .sl sh_Rw]
theorem fit_Sky (r : List AV) (h : fitsL sh_Sky r) : ∃ x : Sky, r = (Sky.row 1) x ∧ x.fitp := by
  simp only [sh_Sky, fitsL, fits] at h
  obtain ⟨_, _, rfl, ⟨w, rfl, _⟩, _, _, rfl, ⟨h, rfl, _⟩, _, _, rfl, ⟨lv, rfl, _⟩, _, _, rfl, ⟨pts, rfl, h_pts, r_pts⟩, _, _, rfl, ⟨aws, rfl, h_aws, r_aws⟩, _, _, rfl, ⟨secs, rfl, h_secs, r_secs⟩, _, _, rfl, ⟨rws, rfl, h_rws, r_rws⟩, rfl⟩ := h
  obtain ⟨pts, rfl, p_pts⟩ := fit_rows2 fit_Pt r_pts
  rw [List.length_map] at h_pts
  obtain ⟨aws, rfl, p_aws⟩ := fit_rows2 fit_Aw r_aws
  rw [List.length_map] at h_aws
  obtain ⟨secs, rfl, p_secs⟩ := fit_rows2 fit_Sec r_secs
  rw [List.length_map] at h_secs
  obtain ⟨rws, rfl, p_rws⟩ := fit_rows2 fit_Rw r_rws
  rw [List.length_map] at h_rws
  exact ⟨⟨w, h, lv, pts, aws, secs, rws⟩, rfl, ⟨⟨(by unfold maxLen at h_pts; omega), p_pts⟩, ⟨(by unfold maxLen at h_aws; omega), p_aws⟩, ⟨(by unfold maxLen at h_secs; omega), p_secs⟩, ⟨(by unfold maxLen at h_rws; omega), p_rws⟩⟩⟩
end
end Go.Ve

namespace Go.Ve
noncomputable section
open Go.Proofs
set_option linter.unusedSimpArgs false
set_option linter.unusedVariables false
set_option maxRecDepth 100000
open Go.ChangeShapes Go.WideShapes
theorem c_FnExactSkyTouch (s : Sky) (a b : ByteArray) (hf : s.fitp) : Contract P 5 [.agg (s.row 1), .str a, .str b] [] (.bool true) [] := by
  have z3 : 0 ≤ Sky.sz s 1048576 → s.small := fun h => Sky.sz_ok (by omega) h
  simp only [Sky.row]
  refine fn_sound ((((((Env.nil P).add 12 t_szSky h_szSky).add 20 t_sSkyTouch h_sSkyTouch).add 14 t_toSky h_toSky).add 21 t_iSkyTouch h_iSkyTouch).add 16 t_eqSky h_eqSky) hm k_laws_FnExactSkyTouch (Nat.le_of_ble_eq_true rfl) rfl ?_; unfold s_laws_FnExactSkyTouch; simp (config := { maxSteps := 2000000 }) only [bitvec_to_nat, reduceIte, Nat.reduceEqDiff, Nat.reduceAdd, Nat.reduceLeDiff, reduceCtorEq, Nat.reduceBEq, Nat.reduceLT, List.forall_mem_cons, t_szSky, t_sSkyTouch, t_toSky, t_iSkyTouch, t_eqSky, tk_map, dp_map, toNat_pred, appE, rowsOf, List.take_length, List.length_cons, List.length_nil, Nat.zero_add, srow, irow, un_s, un_i, Zone.row, Zone_eta, un_Zone, Pt.row, Pt_eta, un_Pt, Aw.row, Aw_eta, un_Aw, Blk.row, Blk_eta, un_Blk, Sec.row, Sec_eta, un_Sec, Rw.row, Rw_eta, un_Rw, Sky_eta, Sky.row]
  generalize Sky.sz s 1048576 = n1 at *
  repeat' (first | with_reducible apply And.intro | with_reducible intro _)
  all_goals first
    | omega
    | with_reducible assumption
    | exact trivial
    | exact z3 (by omega)
    | (have hs := z3 (by omega); unfold Sky.small at hs; omega)
    | exact (z3 (by omega)).2.1.2 _ (by assumption)
    | exact (z3 (by omega)).2.2.1.2 _ (by assumption)
end
end Go.Ve

