/- Part 2 of the proof: laws and contracts of functions, each proved; they are joined in the last part. No conditions beyond those that the theorems state. -/
import Derived.Below
import Derived.Carry
import Derived.ChangeOld
import Derived.Deep.Slices
import Derived.Handed
import Derived.JoinedOf
import Derived.OpenVars
import Derived.RowKit
import Derived.Scope
import Derived.Test.YtppifjfappcbgaaGreatHe1
set_option linter.all false
namespace Go.Ve
open Go.RowKit

/-! Regions that draw their order: an operation's slots and objects, and that two that are apart may change places. -/

def oX : Option SX → List SX | some x => [x] | none => []
def SOp.xs : SOp → List SX
  | .mv x | .neg x | .not x | .conv _ x | .box _ x | .load1 x | .loadN _ x | .nilck x | .faddr _ x | .field1 _ x | .fieldN _ _ x | .lenS x | .lenL x | .ext _ x | .mk _ _ _ _ x | .mvfrz x | .b2s x => [x]
  | .newnil .. | .alloc .. | .mkmap .. => []
  | .look _ _ _ m k => [m, k]
  | .mset _ m k x => [m, k, x]
  | .idx _ x i | .idxN _ _ x i | .iaddrA _ _ x i => [x, i]
  | .isnil _ x => [x]
  | .pick c a b => [c, a, b]
  | .bin _ x y | .binN _ x y | .eqB _ x y | .eqS _ _ x y | .store _ x y | .iaddr _ x y | .istr x y | .mx x y | .mn x y | .app _ _ _ x y | .appN _ _ _ x y => [x, y]
  | .slStr x lo hi | .slSl _ x lo hi => x :: (oX lo ++ oX hi)
  | .build _ ps => ps.map (·.2.2)
  | .lit _ _ ps | .litOwn _ _ _ ps => ps
  | .call _ args => args
  | .clos _ caps => caps
  | .callV x args => x :: args
def rdL : List SX → List Nat
  | [] => []
  | .v k :: r => k :: rdL r
  | .c _ :: r => rdL r
  | .g _ :: r => rdL r
def SOper.reads (s : SOper) : List Nat := (match s.g with | some (t, _) => [t] | none => []) ++ rdL s.op.xs
/-- 0: looks at no object; 1: looks; 2: may write. -/
def SOp.cls : SOp → Nat
  | .load1 .. | .loadN .. | .nilck .. | .faddr .. | .slSl .. | .lenL .. | .iaddr .. | .b2s .. | .look .. | .iaddrA .. | .isnil .. => 1
  | .newnil .. | .alloc .. | .box .. | .store .. | .litOwn .. | .app .. | .appN .. | .mk .. | .mvfrz .. | .call .. | .callV .. | .mkmap .. | .mset .. => 2
  | _ => 0
mutual
def refs : AV → List Nat
  | .agg ls => K7 ls
  | .tup ls => K7 ls
  | .fn _ a b => K7 a ++ K7 b
  | .own o .. | .ptr o .. | .elt o .. => [o]
  | _ => []
def K7 : List AV → List Nat
  | [] => []
  | x :: xs => refs x ++ K7 xs
end
def fpX (E : Nat → AV) : List SX → List Nat
  | [] => []
  | x :: r => refs (ev E x) ++ fpX E r
def Qg9 (s : SOp) (E : Nat → AV) (ups : List (Nat × AObj)) : List Nat := fpX E s.xs ++ dom ups

theorem Qk9 {E E' : Nat → AV} {l : List SX} (h : ∀ k ∈ rdL l, E' k = E k) : ∀ x ∈ l, ev E' x = ev E x := by
  induction l with
  | nil => intro x hx; cases hx
  | cons y r ih =>
    intro x hx
    cases y with
    | v k =>
      rcases List.mem_cons.1 hx with rfl | hx
      · exact h k (by simp [rdL])
      · exact ih (fun k hk => h k (by simp [rdL, hk])) x hx
    | c v =>
      rcases List.mem_cons.1 hx with rfl | hx
      · rfl
      · exact ih (fun k hk => h k (by simpa [rdL] using hk)) x hx
    | g v =>
      rcases List.mem_cons.1 hx with rfl | hx
      · rfl
      · exact ih (fun k hk => h k (by simpa [rdL] using hk)) x hx
theorem QnB {E E' : Nat → AV} {l : List SX} (h : ∀ x ∈ l, ev E' x = ev E x) : fpX E' l = fpX E l := by
  induction l with
  | nil => rfl
  | cons y r ih => simp only [fpX, h y (by simp), ih fun x hx => h x (by simp [hx])]
theorem QrJ {E : Nat → AV} {l : List SX} {x : SX} (hx : x ∈ l) {o : Nat} (ho : o ∈ refs (ev E x)) : o ∈ fpX E l := by
  induction l with
  | nil => cases hx
  | cons y r ih =>
    simp only [fpX, List.mem_append]
    rcases List.mem_cons.1 hx with rfl | hx
    · exact .inl ho
    · exact .inr (ih hx)

theorem Zg {E E' : Nat → AV} (d : Int) {o : Option SX} (h : ∀ x ∈ oX o, ev E' x = ev E x) : QiL E' d o = QiL E d o := by
  cases o with
  | none => rfl
  | some x => simp only [QiL, h x (by simp [oX])]
theorem Ql1 {s : SOp} {E E' : Nat → AV} {M : Nat → Option AObj} (h : ∀ x ∈ s.xs, ev E' x = ev E x) : eff s E' M = eff s E M := by
  cases s
  case slStr x lo hi =>
    simp only [SOp.xs, List.mem_cons, List.mem_append] at h
    simp only [eff, h x (by simp)]
    split
    · rw [Zg 0 fun y hy => h y (.inr (.inl hy)), Zg _ fun y hy => h y (.inr (.inr hy))]
    · rfl
  case slSl sz x lo hi =>
    simp only [SOp.xs, List.mem_cons, List.mem_append] at h
    simp only [eff, h x (by simp)]
    split
    · rw [Zg 0 fun y hy => h y (.inr (.inl hy)), Zg _ fun y hy => h y (.inr (.inr hy))]
    · split
      · rw [Zg 0 fun y hy => h y (.inr (.inl hy)), Zg _ fun y hy => h y (.inr (.inr hy))]
      · rfl
    · rfl
  case clos f caps =>
    simp only [SOp.xs] at h
    simp only [eff]
    rw [List.map_congr_left h]
  case build zs ps =>
    simp only [SOp.xs] at h
    have h1 : ∀ p ∈ ps, ev E' p.2.2 = ev E p.2.2 := fun p hp => h _ (List.mem_map.2 ⟨p, hp, rfl⟩)
    simp only [eff, Eff.mk.injEq, and_true]
    refine ⟨propext (forall_congr' fun p => forall_congr' fun hp => by rw [h1 p hp]), ?_⟩
    congr 1
    clear h
    induction ps generalizing zs with
    | nil => rfl
    | cons p ps ih =>
      simp only [List.foldl_cons, h1 p (by simp)]
      exact ih _ fun q hq => h1 q (by simp [hq])
  case lit e sz ps =>
    simp only [SOp.xs] at h
    simp only [eff, Eff.mk.injEq, and_true]
    exact ⟨propext (forall_congr' fun p => forall_congr' fun hp => by rw [h p hp]), by rw [List.map_congr_left fun p hp => by rw [h p hp]]⟩
  case litOwn o e sz ps =>
    simp only [SOp.xs] at h
    simp only [eff, Eff.mk.injEq, true_and]
    exact ⟨by rw [propext (forall_congr' fun p => forall_congr' fun hp => by rw [h p hp])], by rw [List.map_congr_left fun p hp => by rw [h p hp]]⟩
  case app o e sz x y =>
    simp only [SOp.xs, List.mem_cons, List.not_mem_nil, or_false, forall_eq_or_imp, forall_eq] at h
    simp only [eff, h.2]
    unfold QfU
    cases x with
    | v k => have := h.1; simp only [ev] at this; simp only [this]
    | c x => cases x <;> rfl
    | g x => rfl
  case appN o e sz x y =>
    simp only [SOp.xs, List.mem_cons, List.not_mem_nil, or_false, forall_eq_or_imp, forall_eq] at h
    simp only [eff, h.2]
    unfold QfU
    cases x with
    | v k => have := h.1; simp only [ev] at this; simp only [this]
    | c x => cases x <;> rfl
    | g x => rfl
  all_goals (simp only [SOp.xs, List.mem_cons, List.not_mem_nil, or_false, forall_eq_or_imp, forall_eq] at h; simp only [eff, h])

theorem Qf8 {M M' : Nat → Option AObj} {x : AV} {k : List AV → Eff} (h : ∀ o ∈ refs x, M' o = M o) : Y7 M' x k = Y7 M x k := by
  cases x <;> simp only [Y7] <;> first | rfl | (simp only [refs, List.mem_singleton, forall_eq] at h; simp only [h])
theorem QeU {M M' : Nat → Option AObj} {x : AV} {sz : Nat} (h : ∀ o ∈ refs x, M' o = M o) : Y0 M' sz x = Y0 M sz x := by
  cases x <;> simp only [Y0] <;> first | rfl | (simp only [refs, List.mem_singleton, forall_eq] at h; simp only [h])
theorem Qkc {M M' : Nat → Option AObj} {x : AV} {sz : Nat} (h : ∀ o ∈ refs x, M' o = M o) : Y5 M' sz x = Y5 M sz x := by
  cases x <;> simp only [Y5] <;> first | rfl | (simp only [refs, List.mem_singleton, forall_eq] at h; simp only [h])
theorem QpB {s : SOp} (hs : s.cls = 0) {E : Nat → AV} {M M' : Nat → Option AObj} : eff s E M' = eff s E M := by
  cases s <;> simp [SOp.cls] at hs <;> rfl
theorem QpC {s : SOp} (hs : s.cls ≤ 1) {E : Nat → AV} {M : Nat → Option AObj} : (eff s E M).ups = [] := by
  cases s <;> simp [SOp.cls] at hs <;> simp only [eff, Kr, JW, Y7, KL, Kw, Qbs, QjW, ok1, bad] <;> (repeat' split) <;> rfl

theorem Ql2 {s : SOp} {E : Nat → AV} {M M' : Nat → Option AObj} (hp : (eff s E M).pre) (h : ∀ o ∈ Qg9 s E (eff s E M).ups, M' o = M o) : eff s E M' = eff s E M := by
  have hx : ∀ x ∈ s.xs, ∀ o ∈ refs (ev E x), M' o = M o := fun x hx o ho => h o (List.mem_append_left _ (QrJ hx ho))
  have hu : ∀ o ∈ dom (eff s E M).ups, M' o = M o := fun o ho => h o (List.mem_append_right _ ho)
  clear h
  cases s
  case load1 x => simp only [SOp.xs, List.mem_singleton, forall_eq] at hx; simp only [eff, Qf8 hx]
  case loadN n x => simp only [SOp.xs, List.mem_singleton, forall_eq] at hx; simp only [eff, Qf8 hx]
  case nilck x =>
    simp only [SOp.xs, List.mem_singleton, forall_eq] at hx
    simp only [eff]
    generalize ev E x = y at hx
    cases y <;> first | rfl | (simp only [refs, List.mem_singleton, forall_eq] at hx; simp only [hx])
  case faddr off x =>
    simp only [SOp.xs, List.mem_singleton, forall_eq] at hx
    simp only [eff, Kw]
    generalize ev E x = y at hx
    cases y <;> first | rfl | (simp only [refs, List.mem_singleton, forall_eq] at hx; simp only [hx])
  case lenL x =>
    simp only [SOp.xs, List.mem_singleton, forall_eq] at hx
    simp only [eff]
    generalize ev E x = y at hx
    cases y <;> first | rfl | (simp only [refs, List.mem_singleton, forall_eq] at hx; simp only [hx])
  case mvfrz x =>
    simp only [SOp.xs, List.mem_singleton, forall_eq] at hx
    simp only [eff]
    generalize ev E x = y at hx
    cases y <;> first | rfl | (simp only [refs, List.mem_singleton, forall_eq] at hx; simp only [hx])
  case iaddr sz x i =>
    simp only [SOp.xs, List.mem_cons, List.not_mem_nil, or_false, forall_eq_or_imp, forall_eq] at hx
    have hx := hx.1
    simp only [eff, Qbs]
    generalize ev E x = y at hx
    split
    · cases y <;> first | rfl | (simp only [refs, List.mem_singleton, forall_eq] at hx; simp only [hx])
    · rfl
  case iaddrA n sz x i =>
    simp only [SOp.xs, List.mem_cons, List.not_mem_nil, or_false, forall_eq_or_imp, forall_eq] at hx
    have hx := hx.1
    simp only [eff, Kw]
    generalize ev E x = y at hx
    split
    · cases y <;> first | rfl | (simp only [refs, List.mem_singleton, forall_eq] at hx; simp only [hx])
    · rfl
  case isnil neg x =>
    simp only [SOp.xs, List.mem_singleton, forall_eq] at hx
    simp only [eff]
    generalize ev E x = y at hx
    cases y <;> first | rfl | (simp only [refs, List.mem_singleton, forall_eq] at hx; simp only [hx])
  case slSl sz x lo hi =>
    have hx := hx x (by simp [SOp.xs])
    simp only [eff]
    generalize ev E x = y at hx
    cases y <;> first | rfl | (simp only [refs, List.mem_singleton, forall_eq] at hx; simp only [hx])
  case store n x y =>
    have hx := hx x (by simp [SOp.xs])
    simp only [eff]
    generalize ev E x = z at hx
    cases z <;> first | rfl | (simp only [refs, List.mem_singleton, forall_eq] at hx; simp only [hx])
  case app o e sz x y =>
    have hy := hx y (by simp [SOp.xs])
    have hx := hx x (by simp [SOp.xs])
    simp only [eff, QeU hy] at hu hp ⊢
    cases x with
    | v k =>
      simp only [ev] at hx
      simp only [QfU] at hp ⊢
      generalize E k = z at hx hp
      cases z <;> try rfl
      rename_i o' ver lo hi
      simp only [refs, List.mem_singleton, forall_eq] at hx
      have : o = o' := by
        simp only at hp
        split at hp
        · exact hp.1
        · exact hp.elim
      subst this
      simp only [hx]
    | c z =>
      cases z <;> simp only [QfU] at hu ⊢
      rw [hu o (by simp [dom])]
    | g z => rfl
  case appN o e sz x y =>
    have hy := hx y (by simp [SOp.xs])
    have hx := hx x (by simp [SOp.xs])
    simp only [eff, Qkc hy] at hu hp ⊢
    cases x with
    | v k =>
      simp only [ev] at hx
      simp only [QfU] at hp ⊢
      generalize E k = z at hx hp
      cases z <;> try rfl
      rename_i o' ver lo hi
      simp only [refs, List.mem_singleton, forall_eq] at hx
      have : o = o' := by
        simp only at hp
        split at hp
        · exact hp.1
        · exact hp.elim
      subst this
      simp only [hx]
    | c z =>
      cases z <;> simp only [QfU] at hu ⊢
      rw [hu o (by simp [dom])]
    | g z => rfl
  case b2s x =>
    have hx := hx x (by simp [SOp.xs])
    simp only [eff, QeU hx]
  case look ok kk z m k =>
    have hx := hx m (by simp [SOp.xs])
    simp only [eff]
    generalize ev E m = y at hx
    cases y <;> simp only [QjW] <;> first | rfl | (simp only [refs, List.mem_singleton, forall_eq] at hx; simp only [hx])
  case mset kk m k x =>
    have hx := hx m (by simp [SOp.xs])
    simp only [eff]
    generalize ev E m = y at hx
    cases y <;> simp only [QjX] <;> first | rfl | (simp only [refs, List.mem_singleton, forall_eq] at hx; simp only [hx])
  case mkmap o kk => simp only [eff] at hu ⊢; rw [hu o (by simp [dom])]
  case newnil o e sz => simp only [eff] at hu ⊢; rw [hu o (by simp [dom])]
  case alloc o zs => simp only [eff] at hu ⊢; rw [hu o (by simp [dom])]
  case box o x => simp only [eff] at hu ⊢; rw [hu o (by simp [dom])]
  case litOwn o e sz ps => simp only [eff] at hu ⊢; rw [hu o (by simp [dom])]
  case mk o e sz zs n =>
    simp only [eff] at hu ⊢
    split
    · rename_i k n' hn
      simp only [hn] at hu
      rw [hu o (by simp [dom])]
    · rfl
  all_goals rfl

theorem QhG {M M' : Nat → Option AObj} : ∀ (l : List AV), (∀ o ∈ K7 l, M' o = M o) → W5 M' l = W5 M l := by
  suffices h : (∀ (x : AV), (∀ o ∈ refs x, M' o = M o) → pur M' x = pur M x) from by
    intro l
    induction l with
    | nil => intro _; simp [W5]
    | cons x xs ih =>
      intro hl
      simp only [K7, List.mem_append] at hl
      simp only [W5, h x fun o ho => hl o (.inl ho), ih fun o ho => hl o (.inr ho)]
  intro x
  exact AV.rec (motive_1 := fun x => (∀ o ∈ refs x, M' o = M o) → pur M' x = pur M x) (motive_2 := fun l => (∀ o ∈ K7 l, M' o = M o) → W5 M' l = W5 M l) (motive_3 := fun _ => True)
    (fun _ _ _ => by simp [pur]) (fun _ _ => by simp [pur]) (fun _ _ => by simp [pur]) (fun ls ih hl => by simp only [refs] at hl; simp only [pur, ih hl]) (fun _ _ _ => by simp [pur])
    (fun _ _ _ _ _ => by simp [pur]) (fun o ver lo hi hl => by simp only [pur, hl o (by simp [refs])]) (fun _ _ _ => by simp [pur]) (fun _ _ _ _ _ => by simp [pur]) (fun _ _ _ _ => by simp [pur])
    (fun _ _ _ _ _ _ => by simp [pur]) (fun _ => by simp [pur]) (fun _ => by simp [W5])
    (fun x xs ih1 ih2 hl => by simp only [K7, List.mem_append] at hl; simp only [W5, ih1 fun o ho => hl o (.inl ho), ih2 fun o ho => hl o (.inr ho)]) trivial (fun _ _ _ _ => trivial) x

theorem Qkd {M M' K : Nat → Option AObj} : ∀ (l : List AV), (∀ o ∈ K7 l, M' o = M o) → UP M' K l = UP M K l := by
  suffices h : (∀ (x : AV), (∀ o ∈ refs x, M' o = M o) → UO M' K x = UO M K x) from by
    intro l
    induction l with
    | nil => intro _; simp [UP]
    | cons x xs ih =>
      intro hl
      simp only [K7, List.mem_append] at hl
      simp only [UP, h x fun o ho => hl o (.inl ho), ih fun o ho => hl o (.inr ho)]
  intro x
  exact AV.rec (motive_1 := fun x => (∀ o ∈ refs x, M' o = M o) → UO M' K x = UO M K x) (motive_2 := fun l => (∀ o ∈ K7 l, M' o = M o) → UP M' K l = UP M K l) (motive_3 := fun _ => True)
    (fun _ _ _ => by simp [UO]) (fun _ _ => by simp [UO]) (fun _ _ => by simp [UO]) (fun ls ih hl => by simp only [refs] at hl; simp only [UO, ih hl]) (fun _ _ _ => by simp [UO])
    (fun _ _ _ _ _ => by simp [UO]) (fun o ver lo hi hl => by simp only [UO, hl o (by simp [refs])]) (fun _ _ _ => by simp [UO]) (fun _ _ _ _ _ => by simp [UO]) (fun _ _ _ _ => by simp [UO])
    (fun _ _ _ _ _ _ => by simp [UO]) (fun _ => by simp [UO]) (fun _ => by simp [UP])
    (fun x xs ih1 ih2 hl => by simp only [K7, List.mem_append] at hl; simp only [UP, ih1 fun o ho => hl o (.inl ho), ih2 fun o ho => hl o (.inr ho)]) trivial (fun _ _ _ _ => trivial) x

theorem Qi3 {E : Nat → AV} (l : List SX) : K7 (l.map (ev E)) = fpX E l := by
  induction l with
  | nil => simp [K7, fpX]
  | cons x xs ih => simp only [List.map_cons, K7, fpX, ih]

theorem QbM {l : List (Nat × AObj)} {p : Nat × AObj} (h : p ∈ l) : p.1 ∈ dom l := List.mem_map.2 ⟨p, h, rfl⟩

variable {P : Program}
theorem Qf9 {f : FuncId} {args : List AV} {M M' : Nat → Option AObj} {v : AV} {ups : List (Nat × AObj)} (h : ∀ o ∈ K7 args ++ dom ups, M' o = M o) (hc : QbK P f args M v ups) : QbK P f args M' v ups := by
  rcases hc with ⟨pre, h1, h2, h3, h4, h5, h6, h7, h8⟩ | ⟨h1, args', h2, h3⟩ | ⟨args', h1, h2, h3, h4⟩ | ⟨args', keep, news, rfl, hk, h1, h2, h3, h4⟩
  · refine .inl ⟨pre, h1, fun p hp => ?_, fun p hp => ?_, h4, h5, h6, h7, h8⟩
    · rw [h p.1, h2 p hp]
      refine List.mem_append_right _ ?_
      rw [List.all_eq_true] at h4
      simpa using h4 p.1 (QbM hp)
    · rw [h p.1 (List.mem_append_right _ (QbM hp))]
      exact h3 p hp
  · exact .inr (.inl ⟨h1, args', by rw [QhG args fun o ho => h o (List.mem_append_left _ ho)]; exact h2, h3⟩)
  · exact .inr (.inr (.inl ⟨args', by rw [QhG args fun o ho => h o (List.mem_append_left _ ho)]; exact h1, h2, fun p hp => by rw [h p.1 (List.mem_append_right _ (QbM hp))]; exact h3 p hp, h4⟩))
  · exact .inr (.inr (.inr ⟨args', keep, news, rfl, fun p hp => by rw [h p.1 (List.mem_append_right _ (QbM (List.mem_append_right _ hp)))]; exact hk p hp,
      by rw [Qkd args fun o ho => h o (List.mem_append_left _ ho)]; exact h1, h2, fun p hp => by rw [h p.1 (List.mem_append_right _ (QbM (List.mem_append_left _ hp)))]; exact h3 p hp, h4⟩))

theorem Qi4 (a b : List AV) : K7 (a ++ b) = K7 a ++ K7 b := by
  induction a with
  | nil => simp [K7]
  | cons x xs ih => simp only [List.cons_append, K7, ih, List.append_assoc]
/-- One operation's run. -/
def Qhf (P : Program) (s : SOp) (E : Nat → AV) (M : Nat → Option AObj) (v : AV) (ups : List (Nat × AObj)) : Prop :=
  match s with
  | .call f args => QbK P f (args.map (ev E)) M v ups
  | .callV x args => match ev E x with
    | .fn f a b => Wj P f = true ∧ QbK P f (a ++ (args.map (ev E) ++ b)) M v ups
    | _ => False
  | s => (eff s E M).pre ∧ v = (eff s E M).v ∧ ups = (eff s E M).ups

theorem Ql3 {f : FuncId} {args : List SX} {E : Nat → AV} {M : Nat → Option AObj} {v : AV} {ups : List (Nat × AObj)} : Qhf P (.call f args) E M v ups = QbK P f (args.map (ev E)) M v ups := rfl
theorem QbN {x : SX} {args : List SX} {E : Nat → AV} {M : Nat → Option AObj} {v : AV} {ups : List (Nat × AObj)} : Qhf P (.callV x args) E M v ups = (match ev E x with
    | .fn f a b => Wj P f = true ∧ QbK P f (a ++ (args.map (ev E) ++ b)) M v ups
    | _ => False) := rfl
theorem QfB {s : SOp} (hs : ∀ f args, s ≠ .call f args) (hs2 : ∀ x args, s ≠ .callV x args) {E : Nat → AV} {M : Nat → Option AObj} {v : AV} {ups : List (Nat × AObj)} : Qhf P s E M v ups = ((eff s E M).pre ∧ v = (eff s E M).v ∧ ups = (eff s E M).ups) := by
  unfold Qhf
  split
  · exact absurd rfl (hs _ _)
  · exact absurd rfl (hs2 _ _)
  · rfl
theorem Qla {X : Env P} {s : SOp} {st : St} {K : AV → List (Nat × AObj) → Prop} (h : YQ X s st K) : ∃ v ups, Qhf P s (getE st.E) (getM st.M) v ups ∧ K v ups := by
  unfold YQ at h
  split at h
  · exact QaY h
  · rename_i x args
    unfold Qdk at h
    split at h
    · rename_i f a b hf
      obtain ⟨h0, h⟩ := h
      obtain ⟨v, ups, h1, h2⟩ := QaY h
      exact ⟨v, ups, by rw [QbN, hf]; exact ⟨h0, h1⟩, h2⟩
    · exact h.elim
  · rename_i hs hs2
    obtain ⟨h1, h2⟩ := h
    exact ⟨_, _, by rw [QfB hs hs2]; exact ⟨h1, rfl, rfl⟩, h2⟩
theorem QnC {f : FuncId} {args : List AV} {M : Nat → Option AObj} {K : AV → List (Nat × AObj) → Prop} {v : AV} {ups : List (Nat × AObj)} (h : QbK P f args M v ups) (hk : K v ups) : QeT (Env.nil P) f args M K := by
  show Qi1 P (Env.nil P) f args M K (W5 M args)
  cases W5 M args <;> exact ⟨v, ups, h, hk⟩
theorem QpD {s : SOp} {st : St} {v : AV} {ups : List (Nat × AObj)} (h : Qhf P s (getE st.E) (getM st.M) v ups) : YQ (Env.nil P) s st fun v' ups' => v' = v ∧ ups' = ups := by
  unfold YQ
  split
  · exact QnC h ⟨rfl, rfl⟩
  · rw [QbN] at h
    unfold Qdk
    split at h
    · rename_i f a b hf
      rw [hf]
      exact ⟨h.1, QnC h.2 ⟨rfl, rfl⟩⟩
    · exact h.elim
  · rename_i hs hs2
    rw [QfB hs hs2] at h
    exact ⟨h.1, h.2.1.symm, h.2.2.symm⟩

theorem Qke {s : SOp} {E E' : Nat → AV} {M M' : Nat → Option AObj} {v : AV} {ups : List (Nat × AObj)} (hE : ∀ x ∈ s.xs, ev E' x = ev E x) (hM : s.cls = 0 ∨ ∀ o ∈ Qg9 s E ups, M' o = M o) (h : Qhf P s E M v ups) : Qhf P s E' M' v ups := by
  by_cases hs2 : ∃ x args, s = .callV x args
  · obtain ⟨x, args, rfl⟩ := hs2
    rw [QbN] at h ⊢
    rcases hM with hM | hM
    · simp [SOp.cls] at hM
    have hx : ev E' x = ev E x := hE x (by simp [SOp.xs])
    have ha : args.map (ev E') = args.map (ev E) := List.map_congr_left fun y hy => hE y (by simp [SOp.xs, hy])
    rw [hx, ha]
    split at h
    · rename_i f a b hf
      refine ⟨h.1, Qf9 (fun o ho => hM o ?_) h.2⟩
      simp only [Qg9, SOp.xs, fpX, hf, refs, List.mem_append] at ho ⊢
      rw [Qi4, Qi4, Qi3] at ho
      simp only [List.mem_append] at ho
      rcases ho with (h1 | h1 | h1) | h1
      · exact .inl (.inl (.inl h1))
      · exact .inl (.inr h1)
      · exact .inl (.inl (.inr h1))
      · exact .inr h1
    · exact h
  have hs2 : ∀ x args, s ≠ .callV x args := fun x args e => hs2 ⟨x, args, e⟩
  by_cases hs : ∀ f args, s ≠ .call f args
  · rw [QfB hs hs2] at h ⊢
    have h1 : eff s E' M' = eff s E M := by
      rw [Ql1 hE]
      rcases hM with hM | hM
      · exact QpB hM
      · exact Ql2 h.1 (by rw [← h.2.2]; exact hM)
    rw [h1]; exact h
  · have hs : ∃ f args, s = .call f args := Classical.byContradiction fun hn => hs fun f args e => hn ⟨f, args, e⟩
    obtain ⟨f, args, rfl⟩ := hs
    rw [Ql3] at h ⊢
    rcases hM with hM | hM
    · simp [SOp.cls] at hM
    rw [List.map_congr_left (l := args) (f := ev E') (g := ev E) hE]
    exact Qf9 (by rw [Qi3]; exact hM) h
theorem QnD {s : SOp} {E : Nat → AV} {M : Nat → Option AObj} {v : AV} {ups : List (Nat × AObj)} (h : Qhf P s E M v ups) (hs : s.cls ≤ 1) : ups = [] := by
  have hs' : ∀ f args, s ≠ .call f args := by rintro f args rfl; simp [SOp.cls] at hs
  have hs2 : ∀ x args, s ≠ .callV x args := by rintro f args rfl; simp [SOp.cls] at hs
  rw [QfB hs' hs2] at h
  rw [h.2.2, QpC hs]
end Go.Ve

namespace Go.Ve
open Go.RowKit

structure Eqv (s t : St) : Prop where
  e : getE s.E = getE t.E
  m : getM s.M = getM t.M
theorem Eqv.refl (s : St) : Eqv s s := ⟨rfl, rfl⟩
theorem Eqv.symm {s t : St} (h : Eqv s t) : Eqv t s := ⟨h.e.symm, h.m.symm⟩
theorem Eqv.trans {s t u : St} (h : Eqv s t) (k : Eqv t u) : Eqv s u := ⟨h.e.trans k.e, h.m.trans k.m⟩

theorem Ub (st : St) (dst : Option Nat) (v : AV) (ups : List (Nat × AObj)) (k : Nat) : getE (st.put dst v ups).E k = if dst = some k then v else getE st.E k := by
  cases dst with
  | none => simp [St.put]
  | some d =>
    simp only [St.put, Zi]
    by_cases e : k = d
    · subst e; simp
    · simp [e, Ne.symm e]
theorem Uc (st : St) (dst : Option Nat) (v : AV) (ups : List (Nat × AObj)) (o : Nat) : getM (st.put dst v ups).M o = (getM ups o).or (getM st.M o) := by
  simp only [St.put, Wi]
theorem Eqv.put {s t : St} (h : Eqv s t) (dst : Option Nat) (v : AV) (ups : List (Nat × AObj)) : Eqv (s.put dst v ups) (t.put dst v ups) :=
  ⟨funext fun k => by rw [Ub, Ub, h.e], funext fun o => by rw [Uc, Uc, h.m]⟩

section
variable {P : Program} {A : A0} {C0 : Ctx}

theorem Rel.eqv {s t : St} {a : Act} {w : World} (h : Rel A C0 s a w) (k : Eqv s t) : Rel A C0 t a w := by
  obtain ⟨⟨loc, h1, h2, h3⟩, h4, h5⟩ := h
  rw [k.m] at h1 h2 h3
  exact ⟨⟨loc, h1, h2, fun i => by rw [← k.e]; exact h3 i⟩, h4, h5⟩

/-- One operation's step, with the objects that it comes to. -/
def Stp (P : Program) (s : SOper) (st : St) (fp : List Nat) (st' : St) : Prop :=
  ((s.g = none ∨ ∃ t b, s.g = some (t, b) ∧ getE st.E t = .bool b) ∧ ∃ v ups, Qhf P s.op (getE st.E) (getM st.M) v ups ∧ fp = Qg9 s.op (getE st.E) ups ∧ Eqv (st.put s.dst v ups) st') ∨
  (fp = [] ∧ ∃ t b, s.g = some (t, b) ∧ (getE st.E t = .bool (!b) ∨ getE st.E t = .tup []) ∧ Eqv (st.put s.dst (.tup []) []) st')

/-- What a step comes to: its value, what it writes. -/
theorem Stp.cases {s : SOper} {st : St} {fp : List Nat} {st' : St} (h : Stp P s st fp st') : ∃ v ups, Eqv (st.put s.dst v ups) st' ∧ (∀ o ∈ dom ups, o ∈ fp) ∧ (s.op.cls ≤ 1 → ups = []) ∧
    ∀ s2 : St, (∀ k ∈ s.reads, getE s2.E k = getE st.E k) → (s.op.cls = 0 ∨ ∀ o ∈ fp, getM s2.M o = getM st.M o) → Stp P s s2 fp (s2.put s.dst v ups) := by
  rcases h with ⟨hg, v, ups, hr, rfl, he⟩ | ⟨rfl, t, b, hg, ht, he⟩
  · refine ⟨v, ups, he, fun o ho => List.mem_append_right _ ho, QnD hr, fun s2 hE hM => .inl ⟨?_, v, ups, ?_, ?_, Eqv.refl _⟩⟩
    · rcases hg with hg | ⟨t, b, hg, ht⟩
      · exact .inl hg
      · exact .inr ⟨t, b, hg, by rw [hE t (by simp [SOper.reads, hg])]; exact ht⟩
    · exact Qke (Qk9 fun k hk => hE k (by simp [SOper.reads, hk])) hM hr
    · unfold Qg9
      rw [QnB (Qk9 fun k hk => hE k (by simp [SOper.reads, hk]))]
  · refine ⟨.tup [], [], he, fun o ho => by simp [dom] at ho, fun _ => rfl, fun s2 hE hM => .inr ⟨rfl, t, b, hg, ?_, Eqv.refl _⟩⟩
    rw [hE t (by simp [SOper.reads, hg])]; exact ht

theorem Stp.eqv {s : SOper} {st st2 : St} {fp : List Nat} {st' st'2 : St} (h : Stp P s st fp st') (h1 : Eqv st st2) (h2 : Eqv st' st'2) : Stp P s st2 fp st'2 := by
  unfold Stp at *
  rw [← h1.e, ← h1.m]
  rcases h with ⟨hg, v, ups, hr, hf, he⟩ | ⟨hf, t, b, hg, ht, he⟩
  · exact .inl ⟨hg, v, ups, hr, hf, (h1.put _ _ _).symm.trans (he.trans h2)⟩
  · exact .inr ⟨hf, t, b, hg, ht, (h1.put _ _ _).symm.trans (he.trans h2)⟩

/-- Slots apart. -/
def Qlb (a b : SOper) : Bool :=
  (match a.dst with | some d => !b.reads.contains d && b.dst != some d | none => true) &&
  (match b.dst with | some d => !a.reads.contains d | none => true)
def Qe6 (l r : List Nat) : Bool := l.all fun x => !r.contains x
def QpE (ca cb : Nat) : Bool := ca == 0 || cb == 0 || (decide (ca ≤ 1) && decide (cb ≤ 1))

/-- Two steps change places. -/
theorem Stp.swap {a b : SOper} {s s1 s2 : St} {fa fb : List Nat} (ha : Stp P a s fa s1) (hb : Stp P b s1 fb s2) (hap : Qlb a b = true) (hf : QpE a.op.cls b.op.cls = true ∨ Qe6 fa fb = true) :
    ∃ s1', Stp P b s fb s1' ∧ Stp P a s1' fa s2 := by
  obtain ⟨va, ua, ea, da, ca, ra⟩ := ha.cases
  obtain ⟨vb, ub, eb, db, cb, rb⟩ := hb.cases
  simp only [Qlb, Bool.and_eq_true] at hap
  obtain ⟨h1, h2⟩ := hap
  have hab : ∀ k ∈ b.reads, a.dst ≠ some k := by
    intro k hk e
    rw [e] at h1
    simp only [Bool.and_eq_true, Bool.not_eq_true', List.contains_eq_mem, decide_eq_false_iff_not] at h1
    exact h1.1 hk
  have hba : ∀ k ∈ a.reads, b.dst ≠ some k := by
    intro k hk e
    rw [e] at h2
    simp only [Bool.not_eq_true', List.contains_eq_mem, decide_eq_false_iff_not] at h2
    exact h2 hk
  have hdd : ∀ d, a.dst = some d → b.dst ≠ some d := by
    intro d hd e
    rw [hd] at h1
    simp [e] at h1
  have hmem : Qe6 fa fb = true → ∀ o, o ∈ fa → o ∈ fb → False := by
    intro h o h1 h2
    simp only [Qe6, List.all_eq_true, Bool.not_eq_true', List.contains_eq_mem, decide_eq_false_iff_not] at h
    exact h o h1 h2
  have hnot : ∀ {u : List (Nat × AObj)} {o : Nat}, o ∉ dom u → getM u o = none := by
    intro u o ho
    cases h : getM u o with
    | none => rfl
    | some x => exact absurd (by simpa using JE h) ho
  have hfoot : a.op.cls = 0 ∨ b.op.cls = 0 ∨ (a.op.cls ≤ 1 ∧ b.op.cls ≤ 1) ∨ Qe6 fa fb = true := by
    rcases hf with hf | hf
    · simp only [QpE, Bool.or_eq_true, beq_iff_eq, Bool.and_eq_true, decide_eq_true_eq] at hf
      rcases hf with (hf | hf) | hf
      · exact .inl hf
      · exact .inr (.inl hf)
      · exact .inr (.inr (.inl hf))
    · exact .inr (.inr (.inr hf))
  -- b first
  have hb1 : Stp P b s fb (s.put b.dst vb ub) := by
    refine rb s (fun k hk => ?_) ?_
    · rw [← ea.e, Ub, if_neg (hab k hk)]
    · by_cases hb0 : b.op.cls = 0
      · exact .inl hb0
      refine .inr fun o ho => ?_
      rw [← ea.m, Uc]
      have : getM ua o = none := by
        rcases hfoot with h | h | h | h
        · rw [ca (by omega)]; rfl
        · exact absurd h hb0
        · rw [ca h.1]; rfl
        · exact hnot fun hu => hmem h o (da o hu) ho
      rw [this]; rfl
  refine ⟨_, hb1, ?_⟩
  have ha1 := ra (s.put b.dst vb ub) (fun k hk => by rw [Ub, if_neg (hba k hk)]) (by
    by_cases ha0 : a.op.cls = 0
    · exact .inl ha0
    refine .inr fun o ho => ?_
    rw [Uc]
    have : getM ub o = none := by
      rcases hfoot with h | h | h | h
      · exact absurd h ha0
      · rw [cb (by omega)]; rfl
      · rw [cb h.2]; rfl
      · exact hnot fun hu => hmem h o ho (db o hu)
    rw [this]; rfl)
  refine ha1.eqv (Eqv.refl _) (Eqv.trans ⟨?_, ?_⟩ eb)
  · funext k
    rw [Ub, Ub, Ub, ← ea.e, Ub]
    by_cases e1 : a.dst = some k
    · simp [e1, hdd k e1]
    · simp [e1]
  · funext o
    rw [Uc, Uc, Uc, ← ea.m, Uc]
    rcases hfoot with h | h | h | h
    · rw [ca (by omega)]; rfl
    · rw [cb (by omega)]; rfl
    · rw [ca h.1]; rfl
    · cases hu : getM ua o with
      | none => rfl
      | some x =>
        have : getM ub o = none := hnot fun hv => hmem h o (da o (by simpa using JE hu)) (db o hv)
        rw [this]; rfl

/-- A step of a chain: its number, the operation, its objects. -/
structure Lk where
  i : Nat
  s : SOper
  fp : List Nat
def Chain (P : Program) : List Lk → St → St → Prop
  | [], st, st' => Eqv st st'
  | x :: r, st, st' => ∃ st1, Stp P x.s st x.fp st1 ∧ Chain P r st1 st'

def okPair (x y : Lk) : Prop := Qlb x.s y.s = true ∧ (QpE x.s.op.cls y.s.op.cls = true ∨ Qe6 x.fp y.fp = true)

theorem Chain.bubble {y : Lk} {r : List Lk} : ∀ {l : List Lk} {s s' : St}, Chain P (l ++ y :: r) s s' → (∀ x ∈ l, okPair x y) → ∃ s1, Stp P y.s s y.fp s1 ∧ Chain P (l ++ r) s1 s'
  | [], s, s', h, _ => h
  | x :: l, s, s', h, hp => by
    obtain ⟨s1, h1, h2⟩ := h
    obtain ⟨s2, h3, h4⟩ := Chain.bubble (l := l) h2 fun z hz => hp z (List.mem_cons_of_mem _ hz)
    obtain ⟨s1', h5, h6⟩ := h1.swap h3 (hp x (by simp)).1 (hp x (by simp)).2
    exact ⟨s1', h5, s2, h6, h4⟩

/-- One operation, at whatever Qe5. -/
theorem QnE {st st' : St} {a : Act} {w : World} {ops : Array Oper} {i : Nat} {o : Oper} {s : SOper} {fp : List Nat} (ho : ops[i]? = some o) (hok : okOper P A.n ops o s = true) (hR : Rel A C0 st a w) (hS : Stp P s st fp st') {Q : Exit → Act → World → Prop} {K : Act → World → Prop}
    (hl : ∀ a' w', Rel A C0 st' a' w' → K a' w') : wpOp P ops Q i K a w := by
  have hok' := hok
  simp only [okOper, Bool.and_eq_true] at hok'
  obtain ⟨⟨hd, _⟩, hg⟩ := hok'
  unfold wpOp
  simp only [ho]
  have hy : ∀ {t : Nat} {b : Bool}, s.g = some (t, b) → ∃ j, o.guard = some (j, b) ∧ (∀ b', getE st.E t = .bool b' → yielded ops a.tmps j = some b') ∧ (getE st.E t = .tup [] → yielded ops a.tmps j = none) := by
    intro t b hsg
    rw [hsg] at hg
    split at hg
    · rename_i h; cases h
    · rename_i j want' t' want'' hog h
      cases h
      simp only [Bool.and_eq_true, beq_iff_eq] at hg
      obtain ⟨rfl, hg⟩ := hg
      split at hg
      · rename_i t2 hj
        simp only [Bool.and_eq_true, beq_iff_eq, decide_eq_true_eq] at hg
        obtain ⟨rfl, ht⟩ := hg
        obtain ⟨loc, hI, h0, hE⟩ := hR.ex
        exact ⟨j, hog, fun b' hb => Qf6 hR.size hE hj ht hb, fun hb => Qca hR.size hE hj ht hb⟩
      · cases hg
    · cases hg
  rcases hS with ⟨hg', v, ups, hr, rfl, he⟩ | ⟨rfl, t, b, hsg, hb, he⟩
  · have : Region.wanted o (yielded ops a.tmps) = true := by
      rcases hg' with hsg | ⟨t, b, hsg, hb⟩
      · rw [hsg] at hg
        split at hg
        · rename_i hog _; simp [Region.wanted, hog]
        · rename_i h; cases h
        · cases hg
      · obtain ⟨j, h1, h2, _⟩ := hy hsg
        simp [Region.wanted, h1, h2 b hb]
    rw [if_pos this]
    refine .inl (Oper.wp_mono ?_ (QhF hok hR (QpD hr) Q))
    rintro a' w' ⟨v', ups', ⟨rfl, rfl⟩, h2⟩
    exact hl a' w' (h2.eqv he)
  · obtain ⟨j, h1, h2, h3⟩ := hy hsg
    have : Region.wanted o (yielded ops a.tmps) = false := by
      rcases hb with hb | hb
      · simp [Region.wanted, h1, h2 _ hb]
      · simp [Region.wanted, h1, h3 hb]
    simp only [this]
    obtain ⟨loc, hI, h0, hE⟩ := hR.ex
    exact hl _ w (Rel.eqv (QbL (n := A.n) hR.size hR.defers hd hE hI h0 (Ext.refl _) Qf5) he)

/-! ## what must come ahead -/
def befs (o : Oper) : List Nat := (o.after.toList.filter (Region.binds .any)).map (·.on)
def dd : List Nat → List Nat
  | [] => []
  | x :: r => if (dd r).contains x then dd r else x :: dd r
theorem QnF {k : Nat} : ∀ {l : List Nat}, k ∈ dd l → k ∈ l
  | [], h => h
  | x :: r, h => by
    simp only [dd] at h
    split at h
    · exact List.mem_cons_of_mem _ (QnF h)
    · rcases List.mem_cons.1 h with rfl | h
      · simp
      · exact List.mem_cons_of_mem _ (QnF h)
/-- Of each operation: all that come up ahead of it in every order. -/
def ancs : List Oper → List (List Nat) → List (List Nat)
  | [], acc => acc
  | o :: r, acc => ancs r (acc ++ [dd ((befs o).flatMap fun j => j :: acc.getD j [])])

theorem Qid : ∀ (l : List Oper) (acc : List (List Nat)) (i : Nat), i < acc.length → (ancs l acc).getD i [] = acc.getD i []
  | [], acc, i, _ => rfl
  | o :: r, acc, i, h => by
    simp only [ancs]
    rw [Qid r _ i (by simp; omega), List.getD_eq_getElem?_getD, List.getD_eq_getElem?_getD, List.getElem?_append_left h]
theorem Qlc : ∀ (l : List Oper) (acc : List (List Nat)) (i : Nat) (o : Oper), l[i]? = some o → ∀ k ∈ (ancs l acc).getD (acc.length + i) [], ∃ j ∈ befs o, k = j ∨ (j < acc.length + i ∧ k ∈ (ancs l acc).getD j [])
  | [], acc, i, o, h => by simp at h
  | o' :: r, acc, 0, o, h => by
    simp at h; subst h
    intro k hk
    simp only [ancs, Nat.add_zero] at hk
    rw [Qid r _ _ (by simp)] at hk
    simp only [List.getD_eq_getElem?_getD] at hk
    simp at hk
    have hk := QnF hk
    simp at hk
    obtain ⟨j, hj, h1⟩ := hk
    refine ⟨j, hj, ?_⟩
    rcases h1 with h1 | h1
    · exact .inl h1
    · by_cases hlt : j < acc.length
      · refine .inr ⟨by omega, ?_⟩
        simp only [ancs]
        rw [Qid r _ _ (by simp; omega), List.getD_eq_getElem?_getD, List.getElem?_append_left hlt]
        exact h1
      · rw [List.getElem?_eq_none (by omega)] at h1
        simp at h1
  | o' :: r, acc, i + 1, o, h => by
    have := Qlc r (acc ++ [dd ((befs o').flatMap fun j => j :: acc.getD j [])]) i o (by simpa using h)
    simp only [ancs]
    simp only [List.length_append, List.length_cons, List.length_nil, Nat.zero_add] at this
    rw [show acc.length + (i + 1) = acc.length + 1 + i by omega]
    exact this

def ListedClosed (ops : Array Oper) (listed : Array Bool) : Prop :=
  ∀ j o, ops[j]? = some o → listed.getD j true = true → ∀ k ∈ befs o, listed.getD k false = true

theorem Qld {o : Oper} {k : Nat} : k ∈ befs o ↔ ∃ e ∈ o.after, Region.binds .any e = true ∧ e.on = k := by
  simp [befs, and_assoc]

theorem Ql4 {ops : Array Oper} {listed : Array Bool} (hsz : listed.size = ops.size) (hc : ListedClosed ops listed) : ∀ (i : Nat) (o : Oper), ops[i]? = some o → (∀ k ∈ befs o, listed.getD k false = true) → ∀ k ∈ (ancs ops.toList []).getD i [], listed.getD k false = true := by
  intro i
  induction i using Nat.strongRecOn with
  | _ i ih =>
    intro o ho hb k hk
    have := Qlc ops.toList [] i o (by simpa using ho) k (by simpa using hk)
    obtain ⟨j, hj, h1⟩ := this
    have hlj := hb j hj
    rcases h1 with rfl | ⟨h1, h2⟩
    · exact hlj
    · simp only [List.length_nil, Nat.zero_add] at h1
      have hlt : j < listed.size := by
        rcases Nat.lt_or_ge j listed.size with h' | h'
        · exact h'
        · rw [Array.getD_eq_getD_getElem?, Array.getElem?_eq_none h'] at hlj
          cases hlj
      obtain ⟨oj, hoj⟩ : ∃ oj, ops[j]? = some oj := ⟨ops[j]'(by omega), by simp [hsz ▸ hlt]⟩
      refine ih j h1 oj hoj (hc j oj hoj ?_) k h2
      simp [hlt] at hlj ⊢
      exact hlj

/-- The chain's invariant. -/
structure Unl (P : Program) (n : Nat) (ops : Array Oper) (listed : Array Bool) (l : List Lk) : Prop where
  size : listed.size = ops.size
  closed : ListedClosed ops listed
  ex : ∀ i, i < ops.size → listed.getD i true = false → ∃ x ∈ l, x.i = i
  un : ∀ x ∈ l, listed.getD x.i true = false ∧ ∃ o, ops[x.i]? = some o ∧ okOper P n ops o x.s = true ∧ ∀ k ∈ befs o, k < x.i
  pw : l.Pairwise fun x y => x.i < y.i ∧ (okPair x y ∨ x.i ∈ (ancs ops.toList []).getD y.i [])

theorem Qi5 {ops : Array Oper} {Q : Exit → Act → World → Prop} {sf : St} (hQ : ∀ st a w, Eqv st sf → Rel A C0 st a w → Q .normal a w) :
    ∀ (fuel : Nat) (listed : Array Bool) (l : List Lk) (st : St) (a : Act) (w : World), l.length = fuel → Unl P A.n ops listed l → Chain P l st sf → Rel A C0 st a w → wpAny P .any ops Q fuel listed a w
  | 0, listed, l, st, a, w, hl, hU, hC, hR => by
    cases l with
    | cons _ _ => simp at hl
    | nil =>
      refine ⟨?_, hQ st a w hC hR⟩
      refine List.eq_nil_iff_forall_not_mem.2 fun i hi => ?_
      obtain ⟨h1, o, ho, _⟩ := mem_ready.1 hi
      obtain ⟨x, hx, _⟩ := hU.ex i (Array.getElem?_eq_some_iff.1 ho).1 h1
      cases hx
  | fuel + 1, listed, l, st, a, w, hl, hU, hC, hR => by
    refine ⟨fun hnil => ?_, fun i hi => ?_⟩
    · -- the first of the chain is ready
      cases l with
      | nil => simp at hl
      | cons x r =>
        exfalso
        obtain ⟨h1, o, ho, hok, hb⟩ := hU.un x (by simp)
        have : x.i ∈ Region.ready .any ops listed := by
          refine mem_ready.2 ⟨h1, o, ho, fun e he hbd => ?_⟩
          have hlt := hb e.on (Qld.2 ⟨e, he, hbd, rfl⟩)
          have hsz : x.i < ops.size := (Array.getElem?_eq_some_iff.1 ho).1
          cases hq : listed.getD e.on false with
          | true => rfl
          | false =>
            exfalso
            have hlt' : e.on < listed.size := by rw [hU.size]; omega
            obtain ⟨y, hy, hyi⟩ := hU.ex e.on (by omega) (by simp [hlt'] at hq ⊢; exact hq)
            rcases List.mem_cons.1 hy with rfl | hy
            · omega
            · have := (List.rel_of_pairwise_cons hU.pw hy).1
              omega
        rw [hnil] at this
        cases this
    · obtain ⟨h1, o, ho, hall⟩ := mem_ready.1 hi
      have hsz : i < ops.size := (Array.getElem?_eq_some_iff.1 ho).1
      obtain ⟨y, hy, rfl⟩ := hU.ex i hsz h1
      obtain ⟨l1, l2, rfl⟩ := List.append_of_mem hy
      obtain ⟨_, o', ho', hok, hb⟩ := hU.un y hy
      have : o' = o := by rw [ho] at ho'; exact (Option.some.inj ho').symm
      subst this
      have hbl : ∀ k ∈ befs o', listed.getD k false = true := fun k hk => by
        obtain ⟨e, he, h2, rfl⟩ := Qld.1 hk
        exact hall e he h2
      have hpw := List.pairwise_append.1 hU.pw
      have hp : ∀ x ∈ l1, okPair x y := by
        intro x hx
        rcases (hpw.2.2 x hx y (by simp)).2 with h | h
        · exact h
        · exfalso
          have h2 := Ql4 hU.size hU.closed y.i o' ho' hbl x.i h
          have h3 := (hU.un x (by simp [hx])).1
          obtain ⟨_, ox, hox, _⟩ := hU.un x (by simp [hx])
          have hlt : x.i < listed.size := by rw [hU.size]; exact (Array.getElem?_eq_some_iff.1 hox).1
          simp [hlt] at h2 h3
          rw [h2] at h3; cases h3
      obtain ⟨s1, h2, h3⟩ := hC.bubble hp
      have hlt : y.i < listed.size := by rw [hU.size]; exact hsz
      have hne : ∀ x ∈ l1 ++ l2, x.i ≠ y.i := by
        intro x hx
        rcases List.mem_append.1 hx with hx | hx
        · have := (hpw.2.2 x hx y (by simp)).1; omega
        · have := (List.rel_of_pairwise_cons hpw.2.1 hx).1; omega
      have hsub : (l1 ++ l2).Sublist (l1 ++ y :: l2) := List.Sublist.append (List.Sublist.refl _) (List.sublist_cons_self _ _)
      refine QnE ho hok hR h2 fun a' w' hR' => Qi5 hQ fuel _ (l1 ++ l2) s1 a' w' (by simp at hl ⊢; omega) ⟨by simp [hU.size], ?_, ?_, ?_, hU.pw.sublist hsub⟩ h3 hR'
      · intro j oj hoj hlj k hk
        by_cases e : y.i = j
        · subst e
          have : oj = o' := by rw [ho] at hoj; exact (Option.some.inj hoj).symm
          subst this
          exact getD_set_true (hbl k hk)
        · rw [getD_set_ne true e] at hlj
          exact getD_set_true (hU.closed j oj hoj hlj k hk)
      · intro j hj hlj
        by_cases e : y.i = j
        · subst e
          simp [hlt] at hlj
        · rw [getD_set_ne true e] at hlj
          obtain ⟨x, hx, hxi⟩ := hU.ex j hj hlj
          refine ⟨x, ?_, hxi⟩
          simp only [List.mem_append, List.mem_cons] at hx ⊢
          rcases hx with hx | rfl | hx
          · exact .inl hx
          · exact absurd hxi e
          · exact .inr hx
      · intro x hx
        obtain ⟨h4, h5⟩ := hU.un x (hsub.subset hx)
        exact ⟨by rw [getD_set_ne true (Ne.symm (hne x hx))]; exact h4, h5⟩
end
end Go.Ve

namespace Go.Ve
open Go.RowKit

/-- A region that draws its order: the operations in their places; what 'ck' names is to be apart. -/
def nxt : List (Option (List Nat)) → List Nat → List Nat
  | some _ :: _, fp => fp
  | _, _ => []
def trk : List (Option (List Nat)) → List (List Nat) → List Nat → Prop
  | some js :: _, tr, fp => (js.all fun d => Qe6 (tr.getD d []) fp) = true
  | _, _, _ => True
def drK (ck : List (Option (List Nat))) (tr : List (List Nat)) (s : SOper) (st : St) (K : List (List Nat) → St → Prop) (v : AV) (ups : List (Nat × AObj)) : Prop :=
  trk ck tr (Qg9 s.op (getE st.E) ups) ∧ K (nxt ck (Qg9 s.op (getE st.E) ups) :: tr) (st.put s.dst v ups)
def Qhg {P : Program} (X : Env P) : List SOper → List (Option (List Nat)) → (St → Prop) → List (List Nat) → St → Prop
  | [], _, K, _, st => K st
  | s :: rest, ck, K, tr, st =>
    match s.g with
    | none => YQ X s.op st (drK ck tr s st (Qhg X rest ck.tail K))
    | some (t, want) =>
      match getE st.E t with
      | .bool b => (b = want → YQ X s.op (st.lit t want) (drK ck tr s (st.lit t want) (Qhg X rest ck.tail K))) ∧
        (b = !want → Qhg X rest ck.tail K ([] :: tr) ((st.lit t (!want)).put s.dst (.tup []) []))
      | .tup [] => Qhg X rest ck.tail K ([] :: tr) (st.put s.dst (.tup []) [])
      | _ => False

def QnG (ops : Array Oper) (ss : List SOper) (ck : List (Option (List Nat))) : Bool :=
  let tbl := ancs ops.toList []
  ss.length == ops.size && (List.range ops.size).all fun i => match ops[i]?, ss[i]? with
    | some o, some s => (befs o).all (fun k => decide (k < i)) && (List.range i).all fun j => (tbl.getD i []).contains j || (match ss[j]? with
      | some sj => Qlb sj s && (QpE sj.op.cls s.op.cls || ((match ck[j]? with | some (some _) => true | _ => false) && (match ck[i]? with | some (some js) => js.contains (i - 1 - j) | _ => false)))
      | none => false)
    | _, _ => false

section
variable {P : Program} {X : Env P} {A : A0} {C0 : Ctx}

theorem QnH {ck : List (Option (List Nat))} {tr : List (List Nat)} : trk ck tr [] := by
  cases ck with
  | nil => trivial
  | cons c ck =>
    cases c with
    | none => trivial
    | some js =>
      simp only [trk, List.all_eq_true]
      intro d hd
      unfold Qe6
      simp
theorem QnI {st : St} {t : Nat} {b : Bool} : getE (st.lit t b).E t = .bool b := by simp [St.lit, Zi]
theorem QnJ {st : St} {t : Nat} {b : Bool} (hb : getE st.E t = .bool b) : Eqv (st.lit t b) st := by
  refine ⟨funext fun k => ?_, rfl⟩
  simp only [St.lit, Zi]
  split
  · rename_i e; subst e; exact hb.symm
  · rfl
theorem QhH {K : St → Prop} : ∀ (ss : List SOper) (ck : List (Option (List Nat))) (k : Nat) (st : St) (tr : List (List Nat)), Qhg X ss ck K tr st →
    ∃ l st', Chain P l st st' ∧ K st' ∧ l.length = ss.length ∧ (∀ i x, l[i]? = some x → x.i = k + i ∧ ss[i]? = some x.s) ∧
      (∀ i x js d j y ks, l[i]? = some x → ck[i]? = some (some js) → d ∈ js → j + d + 1 = i → l[j]? = some y → ck[j]? = some (some ks) → Qe6 y.fp x.fp = true) ∧
      (∀ i x js d e, l[i]? = some x → ck[i]? = some (some js) → d ∈ js → d = i + e → Qe6 (tr.getD e []) x.fp = true)
  | [], ck, k, st, tr, h => ⟨[], st, Eqv.refl _, h, rfl, fun i x h => by simp at h, fun i x js d j y ks h => by simp at h, fun i x js d e h => by simp at h⟩
  | s :: rest, ck, k, st, tr, h => by
    have step : ∀ (fp : List Nat) (st1 : St) (t0 : List Nat), Stp P s st fp st1 → trk ck tr fp → (∀ js, ck[0]? = some (some js) → t0 = fp ∨ fp = [] ) → Qhg X rest ck.tail K (t0 :: tr) st1 →
        ∃ l st', Chain P l st st' ∧ K st' ∧ l.length = (s :: rest).length ∧ (∀ i x, l[i]? = some x → x.i = k + i ∧ (s :: rest)[i]? = some x.s) ∧
        (∀ i x js d j y ks, l[i]? = some x → ck[i]? = some (some js) → d ∈ js → j + d + 1 = i → l[j]? = some y → ck[j]? = some (some ks) → Qe6 y.fp x.fp = true) ∧
        (∀ i x js d e, l[i]? = some x → ck[i]? = some (some js) → d ∈ js → d = i + e → Qe6 (tr.getD e []) x.fp = true) := by
      intro fp st1 t0 hs htr ht0 h
      obtain ⟨l, st', h1, h2, h3, h4, h5, h6⟩ := QhH rest ck.tail (k + 1) st1 (t0 :: tr) h
      have tl : ∀ i, ck[i + 1]? = ck.tail[i]? := fun i => by cases ck <;> simp
      refine ⟨⟨k, s, fp⟩ :: l, st', ⟨st1, hs, h1⟩, h2, by simp [h3], fun i x hx => ?_, fun i x js d j y ks hx hc hd hj hy hcj => ?_, fun i x js d e hx hc hd he => ?_⟩
      · cases i with
        | zero => simp at hx; subst hx; simp
        | succ i =>
          obtain ⟨h7, h8⟩ := h4 i x (by simpa using hx)
          exact ⟨by omega, by simpa using h8⟩
      · cases i with
        | zero => omega
        | succ i =>
          rw [tl] at hc
          simp only [List.getElem?_cons_succ] at hx
          cases j with
          | zero =>
            simp at hy; subst hy
            have := h6 i x js d 0 hx hc hd (by omega)
            rcases ht0 ks hcj with h | h
            · subst h; simpa using this
            · subst h; rfl
          | succ j =>
            rw [tl] at hcj
            exact h5 i x js d j y ks hx hc hd (by omega) (by simpa using hy) hcj
      · cases i with
        | zero =>
          simp at hx; subst hx
          have : e = d := by omega
          subst this
          cases ck with
          | nil => simp at hc
          | cons c ck =>
            simp at hc; subst hc
            simp only [trk, List.all_eq_true] at htr
            exact htr e hd
        | succ i =>
          rw [tl] at hc
          simp only [List.getElem?_cons_succ] at hx
          have := h6 i x js d (e + 1) hx hc hd (by omega)
          simpa using this
    simp only [Qhg] at h
    split at h
    · rename_i hg
      obtain ⟨v, ups, h1, h2, h3⟩ := Qla h
      refine step _ _ _ (.inl ⟨.inl hg, v, ups, h1, rfl, Eqv.refl _⟩) h2 (fun js hc => ?_) h3
      cases ck with
      | nil => simp at hc
      | cons c ck => simp at hc; subst hc; exact .inl rfl
    · rename_i t want hg
      split at h
      · rename_i b hb
        by_cases e : b = want
        · subst e
          obtain ⟨v, ups, h1, h2, h3⟩ := Qla (h.1 rfl)
          refine step _ _ _ (Stp.eqv (.inl ⟨.inr ⟨t, b, hg, QnI⟩, v, ups, h1, rfl, Eqv.refl _⟩) (QnJ hb) (Eqv.refl _)) h2 (fun js hc => ?_) h3
          cases ck with
          | nil => simp at hc
          | cons c ck => simp at hc; subst hc; exact .inl rfl
        · have e' : b = !want := by cases b <;> cases want <;> simp_all
          refine step _ _ _ (Stp.eqv (.inr ⟨rfl, t, want, hg, .inl QnI, Eqv.refl _⟩) (QnJ (e' ▸ hb)) (Eqv.refl _)) QnH (fun js hc => .inr rfl) (h.2 e')
      · rename_i hb
        exact step _ _ _ (.inr ⟨rfl, t, want, hg, .inr hb, Eqv.refl _⟩) QnH (fun js hc => .inr rfl) h
      · exact h.elim

theorem Rel.drew {st : St} {a : Act} {w : World} (h : Rel A C0 st a w) : Rel A C0 st a { w with drawn := w.drawn + 1 } := by
  obtain ⟨⟨loc, h1, h2, h3⟩, h4, h5⟩ := h
  obtain ⟨h6, h7⟩ := h1.grow (w' := { w with drawn := w.drawn + 1 }) (Grow.drew w none)
  exact ⟨⟨loc, h6, h2.trans h7, fun k => (h3 k).mono h7⟩, h4, h5⟩

theorem Qi6 : ∀ {n : Nat} {ops : Array Oper} {os : List Oper} {ss : List SOper}, Qf7 P n ops os ss = true → ∀ {i : Nat} {o : Oper} {s : SOper}, os[i]? = some o → ss[i]? = some s → okOper P n ops o s = true
  | n, ops, [], ss, h, i, o, s, h1, h2 => by simp at h1
  | n, ops, o' :: os, [], h, i, o, s, h1, h2 => by simp at h2
  | n, ops, o' :: os, s' :: ss, h, i, o, s, h1, h2 => by
    simp only [Qf7, Bool.and_eq_true] at h
    cases i with
    | zero => simp at h1 h2; subst h1; subst h2; exact h.1
    | succ i => exact Qi6 h.2 (by simpa using h1) (by simpa using h2)

theorem Ql5 (hm : P.follows .mixedOrders = true) {id : Nat} {ops : Array Oper} {ss : List SOper} {ck : List (Option (List Nat))} (hok : Qf7 P A.n ops ops.toList ss = true) (hd : QnG ops ss ck = true) {Q : Exit → Act → World → Prop} {K : St → Prop}
    (hQ : ∀ st a w, Rel A C0 st a w → K st → Q .normal a w) {st : St} {a : Act} {w : World} (hR : Rel A C0 st a w) (h : Qhg X ss ck K [] st) : (Code.region id ops true).wp P Q a w := by
  refine wp_region_any hm ?_
  obtain ⟨l, sf, h1, h2, h3, h4, h5, _⟩ := QhH ss ck 0 st [] h
  simp only [QnG, Bool.and_eq_true, beq_iff_eq, List.all_eq_true, List.mem_range] at hd
  obtain ⟨hlen, hd⟩ := hd
  refine Qi5 (sf := sf) (fun st a w he hR => hQ sf a w (hR.eqv he) h2) ops.size _ l st a _ (by omega) ⟨by simp, ?_, ?_, ?_, ?_⟩ h1 hR.drew
  · intro j o hj hl
    exfalso
    have : j < ops.size := (Array.getElem?_eq_some_iff.1 hj).1
    simp [this] at hl
  · intro i hi _
    have hlt : i < l.length := by omega
    exact ⟨l[i], List.getElem_mem hlt, by have := (h4 i l[i] (by simp [hlt])).1; omega⟩
  · intro x hx
    obtain ⟨i, hi, rfl⟩ := List.mem_iff_getElem.1 hx
    obtain ⟨h6, h7⟩ := h4 i l[i] (by simp [hi])
    have hio : i < ops.size := by omega
    have e : l[i].i = i := by omega
    rw [e]
    refine ⟨by simp [hio], ops[i], by simp [hio], Qi6 hok (by simp [hio]) h7, ?_⟩
    have := hd i hio
    rw [show ops[i]? = some ops[i] by simp [hio], h7] at this
    simp only [Bool.and_eq_true, List.all_eq_true, decide_eq_true_eq] at this
    exact this.1
  · rw [List.pairwise_iff_getElem]
    intro j i hj hi hji
    obtain ⟨h6, h7⟩ := h4 i l[i] (by simp [hi])
    obtain ⟨h8, h9⟩ := h4 j l[j] (by simp [hj])
    have hio : i < ops.size := by omega
    refine ⟨by omega, ?_⟩
    have := hd i hio
    rw [show ops[i]? = some ops[i] by simp [hio], h7] at this
    simp only [Bool.and_eq_true, List.all_eq_true, decide_eq_true_eq, List.mem_range] at this
    have := this.2 j hji
    rw [h9] at this
    simp only [Bool.or_eq_true, Bool.and_eq_true] at this
    rcases this with h | ⟨h10, h11⟩
    · refine .inr ?_
      rw [h6, h8]
      simpa using h
    · refine .inl ⟨h10, ?_⟩
      rcases h11 with h | ⟨h12, h13⟩
      · exact .inl h
      · refine .inr ?_
        split at h12
        · rename_i ks hks
          split at h13
          · rename_i js hjs
            exact h5 i l[i] js (i - 1 - j) j l[j] ks (by simp [hi]) hjs (by simpa using h13) (by omega) (by simp [hj]) hks
          · cases h13
        · cases h12
end
end Go.Ve

namespace Go.Ve
open Go.RowKit

/-! ## objects under other numbers -/
mutual
def ren (s : Nat → Nat) : AV → AV
  | .agg ls => .agg (K8 s ls)
  | .tup ls => .tup (K8 s ls)
  | .own o ver lo hi => .own (s o) ver lo hi
  | .ptr o off => .ptr (s o) off
  | .elt o ver i off => .elt (s o) ver i off
  | .fn f a b => .fn f (K8 s a) (K8 s b)
  | .int k n => .int k n
  | .bool b => .bool b
  | .str b => .str b
  | .sl t sz xs => .sl t sz xs
  | .pp t ls => .pp t ls
  | .junk => .junk
def K8 (s : Nat → Nat) : List AV → List AV
  | [] => []
  | x :: xs => ren s x :: K8 s xs
end
def renO (s : Nat → Nat) : AObj → AObj
  | .box ls => .box (K8 s ls)
  | .arr e ver sz xs => .arr e ver sz (if e < 1000000 then xs else xs.map (K8 s))
  | .gone => .gone
  | .mp kk es => .mp kk es
def Ks (s : Nat → Nat) : List (Nat × AObj) → List (Nat × AObj)
  | [] => []
  | (k, x) :: r => (s k, renO s x) :: Ks s r

section
variable {s : Nat → Nat} (hs : ∀ n, s (s n) = n)
include hs
mutual
theorem QrK : ∀ x : AV, ren s (ren s x) = x
  | .agg ls => by simp only [ren, Xu ls]
  | .tup ls => by simp only [ren, Xu ls]
  | .own o ver lo hi => by simp only [ren, hs]
  | .ptr o off => by simp only [ren, hs]
  | .elt o ver i off => by simp only [ren, hs]
  | .fn f a b => by simp only [ren, Xu a, Xu b]
  | .int .. => rfl
  | .bool .. => rfl
  | .str .. => rfl
  | .sl .. => rfl
  | .pp .. => rfl
  | .junk => rfl
theorem Xu : ∀ x : List AV, K8 s (K8 s x) = x
  | [] => rfl
  | x :: xs => by simp only [K8, QrK x, Xu xs]
end
theorem Qi7 (x : AObj) : renO s (renO s x) = x := by
  cases x <;> simp only [renO, Xu hs]
  split
  · rfl
  · rw [List.map_map, show (K8 s ∘ K8 s) = id from funext fun x => Xu hs x, List.map_id]
theorem Zl (l : List (Nat × AObj)) (o : Nat) : getM (Ks s l) o = (getM l (s o)).map (renO s) := by
  induction l with
  | nil => rfl
  | cons p l ih =>
    obtain ⟨k, x⟩ := p
    simp only [Ks, getM]
    by_cases e : o = s k
    · subst e; simp [hs]
    · have : ¬ s o = k := fun h => e (by rw [← h, hs])
      simp only [if_neg e, if_neg this, ih]
end

theorem Ud {s : Nat → Nat} {e : Nat} {xs : List (List AV)} : (if e < 1000000 then xs else xs.map (K8 s)).length = xs.length := by
  split <;> simp
theorem ownRel.ren (s : Nat → Nat) {obj : AObj} {hv v : Value} {ver lo hi : Nat} (h : ownRel obj hv ver lo hi v) : ownRel (renO s obj) hv ver lo hi v := by
  cases obj <;> simpa only [ownRel, renO, Ud] using h
theorem eltRel.ren (s : Nat → Nat) {obj : AObj} {hv v : Value} {ver i off : Nat} (h : eltRel obj hv ver i off v) : eltRel (renO s obj) hv ver i off v := by
  cases obj <;> simpa only [eltRel, renO, Ud] using h
theorem QpF {s : Nat → Nat} {x : AV} (h : isLeaf x = true) : isLeaf (ren s x) = true := by cases x <;> first | exact h | rfl
theorem Qi8 {s : Nat → Nat} : ∀ {l : List AV}, l.all isLeaf = true → (K8 s l).all isLeaf = true
  | [], _ => rfl
  | x :: xs, h => by
    simp only [List.all_cons, Bool.and_eq_true, K8] at h ⊢
    exact ⟨QpF h.1, Qi8 h.2⟩
structure RenC (s : Nat → Nat) (C C' : Ctx) : Prop where
  io : C'.io = C.io
  w : C'.w = C.w
  loc : ∀ o, C'.loc o = C.loc (s o)
  M : ∀ o, C'.M o = (C.M (s o)).map (renO s)

section
variable {s : Nat → Nat} (hs : ∀ n, s (s n) = n) {C C' : Ctx} (h : RenC s C C')
include hs h
theorem RenC.own (b : Nat) : C'.ownB b ↔ C.ownB b := by
  constructor
  · rintro ⟨o, v, h1, h2⟩
    exact ⟨s o, v, by rw [← h.loc]; exact h1, h2⟩
  · rintro ⟨o, v, h1, h2⟩
    exact ⟨s o, v, by rw [h.loc, hs]; exact h1, h2⟩
theorem RenC.ok (t b : Nat) : C'.ok t b ↔ C.ok t b := by
  simp only [Ctx.ok, h.io, h.w, RenC.own hs h b]
theorem RenC.okx : Okx C C' := ⟨fun t b hb => ⟨(RenC.ok hs h t b).2 hb, by rw [h.w]⟩⟩
mutual
theorem RelV.ren : ∀ (x : AV) (v : Value), RelV C x v → RelV C' (ren s x) v
  | .int .., v, hv => by simpa only [RelV, Go.Ve.ren] using hv
  | .bool .., v, hv => by simpa only [RelV, Go.Ve.ren] using hv
  | .str .., v, hv => by simpa only [RelV, Go.Ve.ren] using hv
  | .agg ls, v, hv => by
    simp only [RelV, Go.Ve.ren] at hv ⊢; obtain ⟨cs, rfl, h1⟩ := hv; exact ⟨cs, rfl, RelL.ren ls cs h1⟩
  | .tup ls, v, hv => by
    simp only [RelV, Go.Ve.ren] at hv ⊢; obtain ⟨cs, rfl, h1⟩ := hv; exact ⟨cs, rfl, RelL.ren ls cs h1⟩
  | .sl t sz xs, v, hv => RelV.norefs (RenC.okx hs h) _ _ rfl hv
  | .pp t ls, v, hv => RelV.norefs (RenC.okx hs h) _ _ rfl hv
  | .own o ver lo hi, v, hv => by
    simp only [RelV, Go.Ve.ren] at hv ⊢
    obtain ⟨h0, obj, hv0, h1, h2, h3⟩ := hv
    refine ⟨h0, renO s obj, hv0, by rw [h.M, hs, h1]; rfl, by rw [h.loc, hs]; exact h2, ?_⟩
    exact ownRel.ren s h3
  | .ptr o off, v, hv => by
    simp only [RelV, Go.Ve.ren] at hv ⊢
    obtain ⟨h0, obj, hv0, h1, h2, h3⟩ := hv
    refine ⟨h0, renO s obj, hv0, by rw [h.M, hs, h1]; rfl, by rw [h.loc, hs]; exact h2, ?_⟩
    cases obj <;> simpa only [ptrRel, renO] using h3
  | .elt o ver i off, v, hv => by
    simp only [RelV, Go.Ve.ren] at hv ⊢
    obtain ⟨h0, obj, hv0, h1, h2, h3⟩ := hv
    refine ⟨h0, renO s obj, hv0, by rw [h.M, hs, h1]; rfl, by rw [h.loc, hs]; exact h2, ?_⟩
    exact eltRel.ren s h3
  | .fn f a b, v, hv => by
    simp only [RelV, Go.Ve.ren] at hv ⊢
    obtain ⟨us, bs, h1, h2, h3⟩ := hv
    exact ⟨us, bs, h1, RelL.ren a us h2, RelL.ren b bs h3⟩
  | .junk, _, _ => by simp only [RelV, Go.Ve.ren]
theorem RelL.ren : ∀ (x : List AV) (v : List Value), RelL C x v → RelL C' (K8 s x) v
  | [], v, hv => by simpa only [RelL, K8] using hv
  | x :: xs, v, hv => by
    simp only [RelL, K8] at hv ⊢
    obtain ⟨c, cs, rfl, h1, h2⟩ := hv
    exact ⟨c, cs, rfl, RelV.ren x c h1, RelL.ren xs cs h2⟩
end
theorem RelLL.ren : ∀ {x : List (List AV)} {v : List (List Value)}, RelLL C x v → RelLL C' (x.map (K8 s)) v
  | [], v, hv => by simpa only [RelLL, List.map_nil] using hv
  | x :: xs, v, hv => by
    simp only [RelLL, List.map_cons] at hv ⊢
    obtain ⟨c, cs, rfl, h1, h2⟩ := hv
    exact ⟨c, cs, rfl, RelL.ren hs h x c h1, RelLL.ren h2⟩
theorem objAt.ren {hv : Value} {obj : AObj} (ho : objAt C hv obj) : objAt C' hv (renO s obj) := by
  cases obj with
  | box ls =>
    obtain ⟨b, cs, ty, rfl, h1, h2, h3⟩ := ho
    refine ⟨b, cs, ty, rfl, by rw [h.w]; exact h1, RelL.ren hs h ls cs h2, ?_⟩
    clear h1 h2
    induction ls with
    | nil => rfl
    | cons x xs ih =>
      simp only [List.all_cons, Bool.and_eq_true, K8] at h3 ⊢
      refine ⟨?_, ih h3.2⟩
      cases x <;> first | exact h3.1 | rfl
  | arr e ver sz xs =>
    obtain ⟨css, h1, h2, h3, h4⟩ := ho
    simp only [renO]
    split
    · rename_i he
      exact ⟨css, RelLL.norefs (RenC.okx hs h) _ _ (fun r hr => flatOk.noref (by have := h4 r hr; rwa [rowB.flat he] at this)) h1, h2, by rw [h.w]; exact h3, h4⟩
    · rename_i he
      refine ⟨css, RelLL.ren hs h h1, h2, by rw [h.w, List.length_map]; exact h3, fun r hr => ?_⟩
      obtain ⟨r0, hr0, rfl⟩ := List.mem_map.1 hr
      have := h4 r0 hr0
      unfold rowB at this ⊢
      simp only [if_neg he] at this ⊢
      exact Qi8 this
  | gone => exact ho
  | mp kk es =>
    obtain ⟨b, ents, clock, rfl, h1, h2, h3, h4, h5⟩ := ho
    exact ⟨b, ents, clock, rfl, by rw [h.w]; exact h1, RelL.norefs (RenC.okx hs h) _ _ (QfS h4) h2, RelL.norefs (RenC.okx hs h) _ _ (QfT h4) h3, h4, h5⟩
theorem WfM.ren (hw : WfM C) : WfM C' := by
  refine ⟨fun o obj ho => ?_, fun o hv hl => ?_, fun o o' hv hv' b h1 h2 h3 h4 => ?_, globOk.okx (RenC.okx hs h) hw.glob⟩
  · rw [h.M] at ho
    cases hm : C.M (s o) with
    | none => rw [hm] at ho; cases ho
    | some x =>
      rw [hm] at ho; cases ho
      obtain ⟨hv, h1, h2⟩ := hw.obj _ _ hm
      exact ⟨hv, by rw [h.loc]; exact h1, objAt.ren hs h h2⟩
  · rw [h.loc] at hl
    obtain ⟨obj, ho⟩ := hw.dom _ _ hl
    exact ⟨renO s obj, by rw [h.M, ho]; rfl⟩
  · rw [h.loc] at h1 h2
    have := hw.inj _ _ _ _ b h1 h2 h3 h4
    have := congrArg s this
    rwa [hs, hs] at this
end

theorem objLe.ren (s : Nat → Nat) {a b : AObj} {x y : Value} (h : objLe (renO s a) x b y) : objLe a x (renO s b) y := by
  cases a <;> cases b <;> simpa only [objLe, renO, Ud] using h

theorem objLe.renR (s : Nat → Nat) {a b : AObj} {x y : Value} (h : objLe a x b y) : objLe a x (renO s b) y := by
  cases a <;> cases b <;> simpa only [objLe, renO, Ud] using h
/-- A contract, its objects under other numbers. -/
theorem Contract.ren {P : Program} {f : FuncId} {args : List AV} {pre : List (Nat × AObj)} {r : AV} {post : List (Nat × AObj)} (s : Nat → Nat) (hs : ∀ n, s (s n) = n) (hC : Contract P f args pre r post) :
    Contract P f (K8 s args) (Ks s pre) (ren s r) (Ks s post) := by
  intro io w loc vs hio hwf hargs
  have hr1 : RenC s ⟨io, w, loc, getM (Ks s pre)⟩ ⟨io, w, fun o => loc (s o), getM pre⟩ := by
    refine ⟨rfl, rfl, fun _ => rfl, fun o => ?_⟩
    show getM pre o = (getM (Ks s pre) (s o)).map (renO s)
    rw [Zl hs, hs]
    cases getM pre o with
    | none => rfl
    | some x => simp only [Option.map_some, Qi7 hs]
  have ha := RelL.ren hs hr1 _ _ hargs
  rw [Xu hs] at ha
  refine (hC io w _ vs hio (WfM.ren hs hr1 hwf) ha).mono ?_
  rintro e w' ⟨v, loc', rfl, hwf', hX, hv, hev, hnew⟩
  have hr2 : RenC s ⟨io, w', loc', getM post⟩ ⟨io, w', fun o => loc' (s o), getM (Ks s post)⟩ :=
    ⟨rfl, rfl, fun _ => rfl, fun o => Zl hs post o⟩
  refine ⟨v, fun o => loc' (s o), rfl, WfM.ren hs hr2 hwf', ⟨fun t b hb => ?_, fun o obj hv h1 h2 => ?_⟩, RelV.ren hs hr2 _ _ hv, ?_, fun o hv b h1 h2 => ?_⟩
  · obtain ⟨h1, h2⟩ := hX.ok t b ((RenC.ok hs hr1 t b).2 hb)
    exact ⟨(RenC.ok hs hr2 t b).2 h1, h2⟩
  · have h1 : getM (Ks s pre) o = some obj := h1
    have h2 : loc o = some hv := h2
    rw [Zl hs] at h1
    cases hm : getM pre (s o) with
    | none => rw [hm] at h1; cases h1
    | some x =>
      rw [hm] at h1; cases h1
      obtain ⟨obj', hv', h3, h4, h5⟩ := hX.refs (s o) x hv hm (by show loc (s (s o)) = _; rw [hs]; exact h2)
      have h3 : getM post (s o) = some obj' := h3
      refine ⟨renO s obj', hv', ?_, h4, ?_⟩
      · show getM (Ks s post) o = _
        rw [Zl hs, h3]; rfl
      · refine objLe.ren s ?_
        rw [Qi7 hs]; exact h5
  · refine ⟨hev.os, hev.tape, hev.output, hev.size, fun b hb ho => hev.block b hb fun h => ho ((RenC.own hs hr1 b).1 h)⟩
  · obtain h3 | ⟨hv0, h3, h4⟩ := hnew (s o) hv b h1 h2
    · exact .inl h3
    · exact .inr ⟨hv0, by have h3 : loc (s (s o)) = _ := h3; rwa [hs] at h3, h4⟩

/-- Two numbers change places. -/
def swp (a b n : Nat) : Nat := if n = a then b else if n = b then a else n
theorem Ja (a b n : Nat) : swp a b (swp a b n) = n := by
  unfold swp; split <;> (try split) <;> (try split) <;> simp_all
end Go.Ve

namespace Go.Ve
open Go.RowKit

inductive Gh where
  | frzE (k : Nat)
  | frzB (o off : Nat)
  | nilE (k o e : Nat)
  | nilB (b off o e : Nat)
  | wk
  deriving Inhabited

inductive SCode where
  | skip
  | rg (ops : List SOper) (outs : List Nat)
  | rgd (ops : List SOper) (outs : List Nat) (ck : List (Option (List Nat)))
  | seq (a b : SCode)
  | cond (c : SX) (a b : SCode)
  | block (id : Nat) (c : SCode)
  | loop (c : SCode)
  | exit (id : Nat)
  | ret
  | gh (g : Gh) (c : SCode)
  | scope (c : SCode)
  | label (id : Nat)
  deriving Inhabited

inductive XT where
  | normal
  | exit (id : Nat)
  | ret

def trim (outs : List Nat) (st : St) : St := ⟨outs.map fun k => (k, getE st.E k), st.M⟩

/-- Weaker: fewer values, fewer objects. -/
def wkE (E : List (Nat × AV)) : List (Nat × AV) → Prop
  | [] => True
  | (k, v) :: r => (v = .junk ∨ getE E k = v) ∧ wkE E r
def wkM (M : List (Nat × AObj)) : List (Nat × AObj) → Prop
  | [] => True
  | (k, v) :: r => getM M k = some v ∧ wkM M r
def closedB (st : St) : Bool := (st.E.all fun p => Qd (dom st.M) p.2) && st.M.all fun p => Qc (dom st.M) p.2
def keepB (M M' : List (Nat × AObj)) : Bool := (dom M).all fun o => decide (100 ≤ o % 1000) || (dom M').contains o
structure Wk (st st' : St) : Prop where
  e : wkE st.E st'.E
  m : wkM st.M st'.M
  cl : closedB st' = true
  kp : keepB st.M st'.M = true

def QsL (s : Nat → Nat) : List (Nat × AV) → List (Nat × AV)
  | [] => []
  | (k, x) :: r => (k, ren s x) :: QsL s r
theorem QnK {s : Nat → Nat} (E : List (Nat × AV)) (k : Nat) : getE (QsL s E) k = ren s (getE E k) := by
  induction E with
  | nil => rfl
  | cons p E ih =>
    obtain ⟨j, x⟩ := p
    simp only [QsL, getE]
    split
    · rfl
    · exact ih
def St.ren (st : St) (s : Nat → Nat) : St := ⟨QsL s st.E, Ks s st.M⟩
def Qkf (g : Gh) (st : St) (K : St → Prop) : Prop :=
  match g with
  | .frzE k => match getE st.E k with
    | .own o ver lo hi => match getM st.M o with
      | some (.arr e cv sz xs) => 100 ≤ o % 1000 ∧ ver = cv ∧ lo = 0 ∧ e < 1000000 ∧ K ⟨QiI st.E k (.sl 0 sz (xs.take hi)), JP st.M o .gone⟩
      | _ => K st
    | _ => K st
  | .frzB b off => match getM st.M b with
    | some (.box ls) => match ls.getD off .junk with
      | .own o ver lo hi => match getM st.M o with
        | some (.arr e cv sz xs) => 100 ≤ o % 1000 ∧ ver = cv ∧ lo = 0 ∧ e < 1000000 ∧ off < ls.length ∧ o ≠ b ∧ K ⟨st.E, JP (JP st.M o .gone) b (.box (ls.set off (.sl 0 sz (xs.take hi))))⟩
        | _ => K st
      | _ => K st
    | _ => K st

  | .nilE k o e => match getE st.E k with
    | .sl 98 sz [] => getM st.M o = none ∧ K ⟨QiI st.E k (.own o 0 0 0), JP st.M o (.arr e 0 sz [])⟩
    | _ => K st
  | .nilB b off o e => match getM st.M b with
    | some (.box ls) => match ls.getD off .junk with
      | .sl 98 sz [] => getM st.M o = none ∧ off < ls.length ∧ o ≠ b ∧ K ⟨st.E, JP (JP st.M o (.arr e 0 sz [])) b (.box (ls.set off (.own o 0 0 0)))⟩
      | _ => K st
    | _ => K st
  | .wk => ∃ (s : Nat → Nat) (st' : St), (∀ o, s (s o) = o) ∧ (∀ o, o % 1000 < 100 → s o = o) ∧ Wk (st.ren s) st' ∧ K st'

def Qhh (next : St → Prop) (Q : XT → St → Prop) : XT → St → Prop
  | .normal, st => next st
  | e, st => Q e st
def Qga (id : Nat) (Q : XT → St → Prop) : XT → St → Prop
  | .exit id', st => if id' = id then Q .normal st else Q (.exit id') st
  | e, st => Q e st

def Qkg (outs : List Nat) (Q : XT → St → Prop) (st : St) : Prop := Q .normal (trim outs st)
def QrL (I : Nat → St → Prop) (m : Nat) (st : St) : Prop := ∃ m' st', Wk st st' ∧ I m' st' ∧ m' < m
def Qgb (body : (XT → St → Prop) → St → Prop) (Q : XT → St → Prop) (st : St) : Prop :=
  ∃ I : Nat → St → Prop, (∃ m0 st0, Wk st st0 ∧ I m0 st0) ∧ ∀ m st, I m st → body (Qhh (QrL I m) Q) st

/-- What must hold ahead of a code, so that Q holds behind it. -/
def SCode.wp {P : Program} (X : Env P) : SCode → (XT → St → Prop) → St → Prop
  | .skip, Q, st => Q .normal st
  | .rg ops outs, Q, st => Qf4 X ops (Qkg outs Q) st
  | .rgd ops outs ck, Q, st => Qhg X ops ck (Qkg outs Q) [] st
  | .seq a b, Q, st => a.wp X (Qhh (b.wp X Q) Q) st
  | .cond c a b, Q, st => match ev (getE st.E) c with
    | .bool t => (t = true → a.wp X Q st) ∧ (t = false → b.wp X Q st)
    | _ => False
  | .block id c, Q, st => c.wp X (Qga id Q) st
  | .loop c, Q, st => Qgb (c.wp X) Q st
  | .exit id, Q, st => Q (.exit id) st
  | .ret, Q, st => Q .ret st
  | .gh g c, Q, st => Qkf g st (c.wp X Q)
  | .scope c, Q, st => c.wp X Q st
  | .label _, Q, st => Q .normal st

def J1 (P : Program) (n : Nat) : Code → SCode → Bool
  | c, .gh _ s => J1 P n c s
  | .skip, .skip => true
  | .region _ ops false, .rg ss _ => Qf7 P n ops ops.toList ss
  | .region _ ops true, .rgd ss _ ck => Qf7 P n ops ops.toList ss && QnG ops ss ck
  | .seq a b, .seq a' b' => J1 P n a a' && J1 P n b b'
  | .cond c a b, .cond c' a' b' => okX c c' && J1 P n a a' && J1 P n b b'
  | .block id c, .block id' c' => id == id' && J1 P n c c'
  | .loop c, .loop c' => J1 P n c c'
  | .exit id, .exit id' => id == id'
  | .ret, .ret => true
  | .scope c, .scope c' => J1 P n c c'
  | .label l, .label l' => l == l'
  | _, _ => false

section
variable {P : Program} {X : Env P} {A : A0} {C0 : Ctx}

theorem Rel.trim {st : St} {a : Act} {w : World} (h : Rel A C0 st a w) (outs : List Nat) : Rel A C0 (trim outs st) a w := by
  obtain ⟨⟨loc, h1, h2, h3⟩, h4, h5⟩ := h
  refine ⟨⟨loc, h1, h2, fun k => ?_⟩, h4, h5⟩
  have : getE (outs.map fun k => (k, getE st.E k)) k = getE st.E k ∨ getE (outs.map fun k => (k, getE st.E k)) k = .junk := by
    induction outs with
    | nil => exact .inr rfl
    | cons x xs ih =>
      simp only [List.map_cons, getE]
      split
      · rename_i e; subst e; exact .inl rfl
      · exact ih
  show RelV _ (getE (outs.map fun k => (k, getE st.E k)) k) _
  rcases this with h | h
  · rw [h]; exact h3 k
  · rw [h]; simp [RelV]

theorem Qkh {E : List (Nat × AV)} : ∀ {E' : List (Nat × AV)} (_ : wkE E E') (k : Nat), getE E' k = .junk ∨ getE E k = getE E' k
  | [], _, k => .inl rfl
  | (j, v) :: r, h, k => by
    simp only [wkE] at h
    simp only [getE]
    split
    · rename_i e; subst e; exact h.1
    · exact Qkh h.2 k
theorem Qie {M : List (Nat × AObj)} : ∀ {M' : List (Nat × AObj)} (_ : wkM M M') (k : Nat) (x : AObj), getM M' k = some x → getM M k = some x
  | [], _, k, x, hx => by simp [getM] at hx
  | (j, v) :: r, h, k, x, hx => by
    simp only [wkM] at h
    simp only [getM] at hx
    split at hx
    · rename_i e; subst e; cases hx; exact h.1
    · exact Qie h.2 k x hx

theorem Qi9 {d : List Nat} : ∀ {E : List (Nat × AV)} (_ : (E.all fun p => Qd d p.2) = true) (k : Nat), Qd d (getE E k) = true
  | [], _, k => rfl
  | (j, v) :: r, h, k => by
    simp only [List.all_cons, Bool.and_eq_true] at h
    simp only [getE]
    split
    · exact h.1
    · exact Qi9 h.2 k

/-- Fewer objects are known. -/
theorem Inv.restrict {io : Nat → Nat → Prop} {w : World} {loc : Nat → Option Value} {M M' : List (Nat × AObj)} (hI : Inv A ⟨io, w, loc, getM M⟩) (hM : wkM M M') (hc : (M'.all fun p => Qc (dom M') p.2) = true) :
    Res (dom M') ⟨io, w, loc, getM M⟩ ⟨io, w, fun o => if (dom M').contains o then loc o else none, getM M'⟩ ∧ Inv A ⟨io, w, fun o => if (dom M').contains o then loc o else none, getM M'⟩ := by
  have hown : ∀ b, Ctx.ownB ⟨io, w, fun o => if (dom M').contains o then loc o else none, getM M'⟩ b → Ctx.ownB ⟨io, w, loc, getM M⟩ b := by
    rintro b ⟨o, hv, h1, h2⟩
    simp only at h1
    split at h1
    · exact ⟨o, hv, h1, h2⟩
    · cases h1
  have hres : Res (dom M') ⟨io, w, loc, getM M⟩ ⟨io, w, fun o => if (dom M').contains o then loc o else none, getM M'⟩ := by
    refine ⟨fun t b hb => ⟨⟨hb.1, hb.2.1, fun h => hb.2.2 (hown b h)⟩, rfl⟩, fun o ho => ?_⟩
    obtain ⟨x, hx⟩ := Y8 ho
    exact ⟨by show getM M' o = getM M o; rw [hx, Qie hM o x hx], by simp only [ho, if_true]⟩
  refine ⟨hres, ⟨hI.io, hI.np, hI.fresh, ⟨fun o obj h => ?_, fun o hv h => ?_, fun o o' hv hv' b h1 h2 h3 h4 => ?_, globOk.okx ⟨hres.ok⟩ hI.wf.glob⟩, hI.oldnp, hI.ev, fun o hv b h1 h2 => ?_⟩⟩
  · have h : getM M' o = some obj := h
    obtain ⟨hv, h1, h2⟩ := hI.wf.obj o obj (Qie hM o obj h)
    have hd := JE h
    refine ⟨hv, by simp only [hd, if_true]; exact h1, objAt.res hres ?_ (fun b _ => rfl) h2⟩
    rw [List.all_eq_true] at hc
    exact hc (o, obj) (Ku h)
  · simp only at h
    split at h
    · rename_i hd; obtain ⟨x, hx⟩ := Y8 hd; exact ⟨x, hx⟩
    · cases h
  · simp only at h1 h2
    split at h1
    · split at h2
      · exact hI.wf.inj o o' hv hv' b h1 h2 h3 h4
      · cases h2
    · cases h1
  · simp only at h1
    split at h1
    · exact hI.new o hv b h1 h2
    · cases h1

theorem Rel.wk (h100 : ∀ o obj, C0.M o = some obj → o % 1000 < 100) {st st' : St} {a : Act} {w : World} (h : Rel A C0 st a w) (hw : Wk st st') : Rel A C0 st' a w := by
  obtain ⟨⟨loc, h1, h2, h3⟩, h4, h5⟩ := h
  have hcl := hw.cl
  simp only [closedB, Bool.and_eq_true] at hcl
  obtain ⟨hres, hI⟩ := Inv.restrict h1 hw.m hcl.2
  refine ⟨⟨_, hI, ⟨fun t b hb => ?_, fun o obj hv ho hl => ?_⟩, fun k => ?_⟩, h4, h5⟩
  · obtain ⟨h6, h7⟩ := h2.ok t b hb
    exact ⟨(hres.ok t b h6).1, h7⟩
  · obtain ⟨obj', hv', h6, h7, h8⟩ := h2.refs o obj hv ho hl
    have h6 : getM st.M o = some obj' := h6
    have hd : (dom st'.M).contains o = true := by
      have hk := hw.kp
      unfold keepB at hk
      rw [List.all_eq_true] at hk
      have := hk o (by have := JE h6; simpa using this)
      simp only [Bool.or_eq_true, decide_eq_true_eq] at this
      have hlt := h100 o obj ho
      rcases this with h | h
      · omega
      · exact h
    have := hres.obj o hd
    exact ⟨obj', hv', by rw [this.1]; exact h6, by rw [this.2]; exact h7, h8⟩
  · rcases Qkh hw.e k with h6 | h6
    · rw [h6]; simp [RelV]
    · refine RelV.res hres _ _ (Qi9 hcl.1 k) ?_
      rw [← h6]; exact h3 k

theorem Rel.ren (h100 : ∀ o obj, C0.M o = some obj → o % 1000 < 100) {st : St} {a : Act} {w : World} (h : Rel A C0 st a w) {s : Nat → Nat} (hs : ∀ o, s (s o) = o) (h1s : ∀ o, o % 1000 < 100 → s o = o) : Rel A C0 (st.ren s) a w := by
  obtain ⟨⟨loc, hI, h2, h3⟩, h4, h5⟩ := h
  have hr : RenC s ⟨C0.io, w, loc, getM st.M⟩ ⟨C0.io, w, fun o => loc (s o), getM (Ks s st.M)⟩ := ⟨rfl, rfl, fun _ => rfl, fun o => Zl hs st.M o⟩
  have hold : ∀ o b, A.old (s o) b → s o = o := fun o b hb => by
    have h9 := hI.oldnp (s o) b hb
    have h8 := hI.np
    have h10 := h1s (s o) (by omega)
    rw [hs] at h10
    exact h10.symm
  refine ⟨⟨fun o => loc (s o), ⟨hI.io, hI.np, hI.fresh, WfM.ren hs hr hI.wf, hI.oldnp, hI.ev, fun o hv b h6 h7 => ?_⟩, ⟨fun t b hb => ?_, fun o obj hv ho hl => ?_⟩, fun k => ?_⟩, h4, h5⟩
  · rcases hI.new (s o) hv b h6 h7 with h | h
    · exact .inl h
    · exact .inr (by have := hold o b h; rw [this] at h; exact h)
  · obtain ⟨h6, h7⟩ := h2.ok t b hb
    exact ⟨(RenC.ok hs hr t b).2 h6, h7⟩
  · obtain ⟨obj', hv', h6, h7, h8⟩ := h2.refs o obj hv ho hl
    have hso := h1s o (h100 o obj ho)
    have h6 : getM st.M o = some obj' := h6
    refine ⟨renO s obj', hv', ?_, ?_, objLe.renR s h8⟩
    · show getM (Ks s st.M) o = _
      rw [Zl hs, hso, h6]; rfl
    · show loc (s o) = _
      rw [hso]; exact h7
  · show RelV _ (getE (QsL s st.E) k) _
    rw [QnK]
    exact RelV.ren hs hr _ _ (h3 k)

theorem QrM (hI : Inv A C0) {sz : Nat} {c : Value} (h : RelV C0 (.sl 98 sz []) c) : c = .slice none 0 0 := by
  simp only [RelV] at h
  rcases h.2 with h | ⟨b, off, cap, css, h1, h2, h3, _⟩
  · rcases h.2 with h | ⟨h, _⟩
    · exact h
    · exact absurd rfl h
  · exact absurd (hI.io ▸ h3.1) (hI.fresh.2 b)

theorem QnL {io : Nat → Nat → Prop} {w : World} {loc : Nat → Option Value} {M : List (Nat × AObj)} (hI : Inv A ⟨io, w, loc, getM M⟩) {o e sz : Nat} (ho : getM M o = none) :
    Inv A ⟨io, w, Gn loc o (.slice none 0 0), getM (JP M o (.arr e 0 sz []))⟩ ∧ Ext ⟨io, w, loc, getM M⟩ ⟨io, w, Gn loc o (.slice none 0 0), getM (JP M o (.arr e 0 sz []))⟩ ∧
    RelV ⟨io, w, Gn loc o (.slice none 0 0), getM (JP M o (.arr e 0 sz []))⟩ (.own o 0 0 0) (.slice none 0 0) :=
  QfZ (A := A) hI (o := o) (obj0 := none) ho (e := e) (ver := 0) (sz := sz) (by simp) (by simp) (by simp) (w' := w) (hv' := .slice none 0 0) (xs := []) (css := []) (Grow.refl _ _) (fun b hb => by simp [blkOf] at hb) (by simp [RelLL]) (by simp) (World.ownsRow_nil w 0 (e % 1000000) sz) (by simp)

theorem Qif {C : Ctx} : ∀ {xs : List AV} {vs : List Value} {i : Nat} {y : AV} {u : Value}, RelL C xs vs → vs[i]? = some u → RelV C y u → RelL C (xs.set i y) vs
  | [], vs, i, y, u, h, _, _ => by simpa using h
  | z :: zs, vs, i, y, u, h, hu, hy => by
    simp only [RelL] at h
    obtain ⟨c', cs', rfl, h10, h11⟩ := h
    cases i with
    | zero => simp at hu; subst hu; exact RelL.cons hy h11
    | succ i => simp only [List.set_cons_succ]; exact RelL.cons h10 (Qif h11 (by simpa using hu) hy)

theorem QrN {io : Nat → Nat → Prop} {w : World} {loc : Nat → Option Value} {M : List (Nat × AObj)} (hI : Inv A ⟨io, w, loc, getM M⟩) {bx off : Nat} {ls : List AV} {y : AV} (hB : getM M bx = some (.box ls)) (hoff : off < ls.length) (hleaf : isLeaf y = true)
    (hy : ∀ c, RelV ⟨io, w, loc, getM M⟩ (ls.getD off .junk) c → RelV ⟨io, w, loc, getM M⟩ y c) :
    ∃ loc', Inv A ⟨io, w, loc', getM (JP M bx (.box (ls.set off y)))⟩ ∧ Ext ⟨io, w, loc, getM M⟩ ⟨io, w, loc', getM (JP M bx (.box (ls.set off y)))⟩ := by
  obtain ⟨hv, h6, b, cs, ty, rfl, h7, h8, h9⟩ := hI.wf.obj bx _ hB
  have h6 : loc bx = some (.pointer (some ⟨b, 0, none⟩)) := h6
  have h7 : w.heap[b]? = _ := h7
  obtain ⟨c, hc, hcr⟩ := h8.get off .junk hoff
  have k4 := Inv.upd (A := A) hI (w' := w) (o := bx) (obj' := .box (ls.set off y)) (hv' := .pointer (some ⟨b, 0, none⟩)) (Grow.refl _ _)
    (fun b' hb => .inr ⟨_, h6, hb⟩) (fun obj hv h h' => by
      have h : getM M bx = some obj := h
      have h' : loc bx = some hv := h'
      rw [hB] at h; cases h; rw [h6] at h'; cases h'; rfl)
    (fun hext => by
      refine ⟨b, cs, ty, rfl, h7, Qif (h8.mono hext) hc ((hy c hcr).mono hext), ?_⟩
      rw [List.all_eq_true] at h9 ⊢
      intro x hx
      rcases List.mem_or_eq_of_mem_set hx with h | rfl
      · exact h9 x h
      · exact hleaf)
  rw [← JM] at k4
  exact ⟨_, k4.1, k4.2⟩

theorem Qki (h100 : ∀ o obj, C0.M o = some obj → o % 1000 < 100) {g : Gh} {st : St} {a : Act} {w : World} (h : Rel A C0 st a w) {K : St → Prop} (hK : Qkf g st K) : ∃ st', Rel A C0 st' a w ∧ K st' := by
  obtain ⟨⟨loc, h1, h2, h3⟩, h4, h5⟩ := id h
  unfold Qkf at hK
  split at hK
  · rename_i k
    split at hK
    · rename_i o ver lo hi hE
      split at hK
      · rename_i e cv sz xs hM
        obtain ⟨ho, hver, rfl, hef, hK⟩ := hK
        have hk := h3 k
        rw [hE] at hk
        obtain ⟨h6, h7, h8⟩ := Qb8 h1 hk hM hver ho hef
        refine ⟨_, ⟨⟨_, h6, h2.trans h7, fun j => ?_⟩, h4, h5⟩, hK⟩
        rw [Zi]
        split
        · rename_i e; subst e; exact h8
        · exact (h3 j).mono h7
      · exact ⟨_, h, hK⟩
    · exact ⟨_, h, hK⟩
  · rename_i bx off
    split at hK
    · rename_i ls hB
      split at hK
      · rename_i o ver lo hi hL
        split at hK
        · rename_i e cv sz xs hM
          obtain ⟨ho, hver, rfl, hef, hoff, hne, hK⟩ := hK
          obtain ⟨hv, h6, b, cs, ty, rfl, h7, h8, h9⟩ := h1.wf.obj bx _ hB
          have h7 : w.heap[b]? = _ := h7
          obtain ⟨c, hc, hcr⟩ := h8.get off .junk hoff
          rw [hL] at hcr
          obtain ⟨k1, k2, k3⟩ := Qb8 h1 hcr hM hver ho hef
          -- the box, its leaf told anew
          have hM2 : getM (JP st.M o .gone) bx = some (.box ls) := by rw [QT, if_neg (Ne.symm hne)]; exact hB
          have hl2 : Gn loc o (.tuple #[]) bx = some (.pointer (some ⟨b, 0, none⟩)) := by simp only [Gn, if_neg (Ne.symm hne)]; exact h6
          have k4 := Inv.upd (A := A) k1 (w' := w) (o := bx) (obj' := .box (ls.set off (.sl 0 sz (xs.take hi)))) (hv' := .pointer (some ⟨b, 0, none⟩)) (Grow.refl _ _)
            (fun b' hb => .inr ⟨_, hl2, hb⟩) (fun obj hv h h' => by
              have h : getM (JP st.M o .gone) bx = some obj := h
              have h' : Gn loc o (.tuple #[]) bx = some hv := h'
              rw [hM2] at h; cases h; rw [hl2] at h'; cases h'; rfl)
            (fun hext => by
              refine ⟨b, cs, ty, rfl, h7, ?_, ?_⟩
              · have hset : ∀ (xs : List AV) (vs : List Value) (C : Ctx) (i : Nat) (y : AV) (u : Value), RelL C xs vs → vs[i]? = some u → RelV C y u → RelL C (xs.set i y) vs := by
                  intro xs
                  induction xs with
                  | nil => intro vs C i y u h _ _; simpa using h
                  | cons z zs ih =>
                    intro vs C i y u h hu hy
                    simp only [RelL] at h
                    obtain ⟨c', cs', rfl, h10, h11⟩ := h
                    cases i with
                    | zero => simp at hu; subst hu; exact RelL.cons hy h11
                    | succ i => simp only [List.set_cons_succ]; exact RelL.cons h10 (ih cs' C i y u h11 (by simpa using hu) hy)
                exact hset ls cs _ off _ c ((h8.mono k2).mono hext) hc (k3.mono hext)
              · rw [List.all_eq_true] at h9 ⊢
                intro x hx
                rcases List.mem_or_eq_of_mem_set hx with h | rfl
                · exact h9 x h
                · rfl)
          rw [← JM] at k4
          exact ⟨_, ⟨⟨_, k4.1, (h2.trans k2).trans k4.2, fun j => ((h3 j).mono k2).mono k4.2⟩, h4, h5⟩, hK⟩
        · exact ⟨_, h, hK⟩
      · exact ⟨_, h, hK⟩
    · exact ⟨_, h, hK⟩
  · rename_i k o e
    split at hK
    · rename_i sz hE
      obtain ⟨ho, hK⟩ := hK
      have hk := h3 k
      rw [hE] at hk
      have hc := QrM (C0 := ⟨C0.io, w, loc, getM st.M⟩) h1 hk
      obtain ⟨k1, k2, k3⟩ := QnL (e := e) (sz := sz) h1 ho
      refine ⟨_, ⟨⟨_, k1, h2.trans k2, fun j => ?_⟩, h4, h5⟩, hK⟩
      rw [Zi]
      split
      · rename_i e; subst e; rw [hc]; exact k3
      · exact (h3 j).mono k2
    · exact ⟨_, h, hK⟩
  · rename_i bx off o e
    split at hK
    · rename_i ls hB
      split at hK
      · rename_i sz hL
        obtain ⟨ho, hoff, hne, hK⟩ := hK
        obtain ⟨k1, k2, k3⟩ := QnL (e := e) (sz := sz) h1 ho
        have hM2 : getM (JP st.M o (.arr e 0 sz [])) bx = some (.box ls) := by rw [QT, if_neg (Ne.symm hne)]; exact hB
        obtain ⟨loc', k4, k5⟩ := QrN k1 (y := .own o 0 0 0) hM2 hoff rfl (fun c hc => by
          rw [hL] at hc
          rw [QrM k1 hc]; exact k3)
        exact ⟨_, ⟨⟨_, k4, (h2.trans k2).trans k5, fun j => ((h3 j).mono k2).mono k5⟩, h4, h5⟩, hK⟩
      · exact ⟨_, h, hK⟩
    · exact ⟨_, h, hK⟩
  · obtain ⟨s, st', h6, h7, h8, h9⟩ := hK
    exact ⟨st', (h.ren h100 h6 h7).wk h100 h8, h9⟩

def xt : XT → Exit
  | .normal => .normal
  | .exit id => .exit id
  | .ret => .ret

theorem Ql6 {σ : Type} {c : Code} {Q : Exit → Act → World → Prop} (R : σ → Act → World → Prop) (μ : σ → Nat)
    (round : ∀ s a w, R s a w → c.wp P (Exit.then (fun a' w' => ∃ s', R s' a' w' ∧ μ s' < μ s) Q) a w) (s : σ) (a : Act) (w : World) (h : R s a w) : (Code.loop c).wp P Q a w := by
  intro b k cs
  have key : ∀ n s a w, μ s = n → R s a w → ∃ e a' w', Q e a' w' ∧ Arrives P (lone (b.at a (.code c :: .inLoop c :: k)) cs w) b k cs e a' w' := by
    intro n
    induction n using Nat.strongRecOn with
    | _ n ih =>
      intro s a w hn hR
      obtain ⟨e, a1, w1, hq, harr⟩ := round s a w hR b (.inLoop c :: k) cs
      cases e with
      | normal =>
        obtain ⟨s', hR', hlt⟩ := hq
        obtain ⟨e2, a2, w2, hq2, harr2⟩ := ih (μ s') (hn ▸ hlt) s' a1 w1 rfl hR'
        exact ⟨e2, a2, w2, hq2, .of_steps (Steps.trans harr (.one step_inLoop)) harr2⟩
      | exit id => exact ⟨_, a1, w1, hq, .pass (x := .inLoop c) rfl (fun _ _ => .inl (by simp)) harr⟩
      | goto l => exact ⟨_, a1, w1, hq, .pass (x := .inLoop c) rfl (fun _ _ => .inl (by simp)) harr⟩
      | ret => exact ⟨_, a1, w1, hq, .pass (x := .inLoop c) rfl (fun _ _ => .inl (by simp)) harr⟩
      | panic ch => exact ⟨_, a1, w1, hq, .pass (x := .inLoop c) rfl (fun _ _ => .inl (by simp)) harr⟩
      | outgrown => exact ⟨_, a1, w1, hq, .pass (x := .inLoop c) rfl (fun _ _ => .inl (by simp)) harr⟩
  obtain ⟨e, a', w', hq, harr⟩ := key _ s a w rfl h
  exact ⟨e, a', w', hq, .of_steps (.one step_loop) harr⟩

theorem Ql7 (hm : P.follows .mixedOrders = true)
    (h100 : ∀ o obj, C0.M o = some obj → o % 1000 < 100) : ∀ (s : SCode) (c : Code) (Q : XT → St → Prop) (QC : Exit → Act → World → Prop), J1 P A.n c s = true →
    (∀ e st a w, Rel A C0 st a w → Q e st → QC (xt e) a w) → ∀ (st : St) (a : Act) (w : World), Rel A C0 st a w → s.wp X Q st → c.wp P QC a w := by
  intro s
  induction s with
  | gh g s ih =>
    intro c Q QC hok hQ st a w hR hw
    rw [J1] at hok
    simp only [SCode.wp] at hw
    obtain ⟨st', hR', hw'⟩ := Qki h100 hR hw
    exact ih c Q QC hok hQ st' a w hR' hw'
  | skip =>
    intro c Q QC hok hQ st a w hR hw
    cases c <;> simp [J1] at hok
    exact wp_skip (hQ .normal st a w hR hw)
  | rg ops outs =>
    intro c Q QC hok hQ st a w hR hw
    cases c with
    | region id ops' d =>
      cases d with
      | true => simp [J1] at hok
      | false =>
        simp only [J1] at hok
        exact QpA hok (K := Qkg outs Q) (fun st a w h hk => hQ .normal _ a w (h.trim outs) hk) hR hw
    | _ => simp [J1] at hok
  | rgd ops outs ck =>
    intro c Q QC hok hQ st a w hR hw
    cases c with
    | region id ops' d =>
      cases d with
      | false => simp [J1] at hok
      | true =>
        simp only [J1, Bool.and_eq_true] at hok
        exact Ql5 hm hok.1 hok.2 (K := Qkg outs Q) (fun st a w h hk => hQ .normal _ a w (h.trim outs) hk) hR hw
    | _ => simp [J1] at hok
  | seq x y ihx ihy =>
    intro c Q QC hok hQ st a w hR hw
    cases c with
    | seq a' b' =>
      simp only [J1, Bool.and_eq_true] at hok
      simp only [SCode.wp] at hw
      refine wp_seq (ihx a' (Qhh (y.wp X Q) Q) _ hok.1 (fun e st a w h hk => ?_) st a w hR hw)
      cases e with
      | normal => exact ihy b' Q QC hok.2 hQ st a w h hk
      | exit id => exact hQ (.exit id) st a w h hk
      | ret => exact hQ .ret st a w h hk
    | _ => simp [J1] at hok
  | cond x y z ihy ihz =>
    intro c Q QC hok hQ st a w hR hw
    cases c with
    | cond x' a' b' =>
      simp only [J1, Bool.and_eq_true] at hok
      simp only [SCode.wp] at hw
      split at hw
      · rename_i t ht
        obtain ⟨loc, h1, h2, h3⟩ := hR.ex
        have hx := QI h1.wf.glob h3 hok.1.1
        rw [ht] at hx
        simp only [RelV] at hx
        exact wp_cond_split hx (fun h => ihy a' Q QC hok.1.2 hQ st a w hR (hw.1 h)) (fun h => ihz b' Q QC hok.2 hQ st a w hR (hw.2 h))
      · exact hw.elim
    | _ => simp [J1] at hok
  | block id x ih =>
    intro c Q QC hok hQ st a w hR hw
    cases c with
    | block id' c' =>
      simp only [J1, Bool.and_eq_true, beq_iff_eq] at hok
      obtain ⟨rfl, hok⟩ := hok
      simp only [SCode.wp] at hw
      refine wp_block (ih c' (Qga id' Q) _ hok (fun e st a w h hk => ?_) st a w hR hw)
      cases e with
      | normal => exact hQ .normal st a w h hk
      | exit id2 =>
        simp only [Qga] at hk
        show Exit.inBlock id' QC (.exit id2) a w
        simp only [Exit.inBlock]
        split at hk
        · rename_i e; rw [if_pos e]; exact hQ .normal st a w h hk
        · rename_i e; rw [if_neg e]; exact hQ (.exit id2) st a w h hk
      | ret => exact hQ .ret st a w h hk
    | _ => simp [J1] at hok
  | loop x ih =>
    intro c Q QC hok hQ st a w hR hw
    cases c with
    | loop c' =>
      simp only [J1] at hok
      simp only [SCode.wp] at hw
      obtain ⟨I, ⟨m0, st0, hwk, hI0⟩, hstep⟩ := hw
      refine Ql6 (σ := Nat × St) (fun s a w => Rel A C0 s.2 a w ∧ I s.1 s.2) Prod.fst (fun s a w ⟨hR, hI⟩ => ?_) (m0, st0) a w ⟨hR.wk h100 hwk, hI0⟩
      refine ih c' _ _ hok (fun e st' a' w' h hk => ?_) s.2 a w hR (hstep s.1 s.2 hI)
      cases e with
      | normal =>
        obtain ⟨m', st'', hwk, hI', hlt⟩ := hk
        exact ⟨(m', st''), ⟨h.wk h100 hwk, hI'⟩, hlt⟩
      | exit id => exact hQ (.exit id) st' a' w' h hk
      | ret => exact hQ .ret st' a' w' h hk
    | _ => simp [J1] at hok
  | exit id =>
    intro c Q QC hok hQ st a w hR hw
    cases c <;> simp [J1] at hok
    subst hok
    exact wp_exit (hQ (.exit _) st a w hR hw)
  | ret =>
    intro c Q QC hok hQ st a w hR hw
    cases c <;> simp [J1] at hok
    exact wp_ret (hQ .ret st a w hR hw)
  | scope x ih =>
    intro c Q QC hok hQ st a w hR hw
    cases c with
    | scope c' =>
      simp only [J1] at hok
      simp only [SCode.wp] at hw
      refine wp_scope_straight (ih c' Q _ hok (fun e st a w h hk => ?_) st a w hR hw)
      cases e <;> exact hQ _ st a w h hk
    | _ => simp [J1] at hok
  | label l =>
    intro c Q QC hok hQ st a w hR hw
    cases c <;> simp [J1] at hok
    exact wp_label (hQ .normal st a w hR hw)
end
end Go.Ve

namespace Go.Ve
open Go.RowKit

inductive SRes where
  | t (k : Nat)
  | c1 (k : Nat)
  | cN (k n : Nat)
  deriving Inhabited

structure SFun where
  n : Nat
  res : List SRes
  body : SCode

def W0 (P : Program) (n : Nat) : List ResultVar → List SRes → Bool
  | [], [] => true
  | .tmp k :: rs, .t k' :: ss => k == k' && W0 P n rs ss
  | .cell k t :: rs, .c1 k' :: ss => k == k' && Zj P t && W0 P n rs ss
  | .cell k t :: rs, .cN k' m :: ss => k == k' && QqZ P t && Z7 P t m && W0 P n rs ss
  | _, _ => false

def QS (P : Program) (f : FuncId) (sf : SFun) : Bool :=
  match P.funcs[f]? with
  | some fn => fn.ntmps == sf.n && W0 P sf.n fn.results.toList sf.res && (match fn.body with | some c => J1 P sf.n c sf.body | none => false)
  | none => false

def Qng (st : St) : SRes → AV → Prop
  | .t k, v => getE st.E k = v
  | .c1 k, v => match getE st.E k with
    | .ptr o off => match getM st.M o with | some (.box ls) => off < ls.length ∧ ls.getD off .junk = v | _ => False
    | _ => False
  | .cN k n, v => match getE st.E k with
    | .ptr o off => match getM st.M o with | some (.box ls) => off + n ≤ ls.length ∧ v = .agg ((ls.drop off).take n) | _ => False
    | _ => False
def Qcb (st : St) : List SRes → List AV → Prop
  | [], vs => vs = []
  | x :: xs, vs => ∃ v vs', vs = v :: vs' ∧ Qng st x v ∧ Qcb st xs vs'
def Qu (res : List SRes) (r : AV) (post : List (Nat × AObj)) (st : St) : Prop :=
  (match res with
   | [x] => Qng st x r
   | xs => ∃ vs, Qcb st xs vs ∧ r = .tup vs) ∧
  wkM st.M post ∧ (post.all fun p => Qc (dom post) p.2) = true ∧ Qd (dom post) r = true ∧ keepB st.M post = true

def Qhi : Nat → List AV → List (Nat × AV)
  | _, [] => []
  | k, x :: xs => (k, x) :: Qhi (k + 1) xs

def Qle (res : List SRes) (r : AV) (post : List (Nat × AObj)) : XT → St → Prop
  | .ret, st => Qu res r post st
  | .normal, st => Qu res r post st
  | _, _ => False

section
variable {P : Program}

def Qgc (tmps : Array Value) : ResultVar → Sem Value
  | .tmp t => pure (tmps.getD t undef)
  | .cell x t => do loadVar t (← asAddr (tmps.getD x undef))
theorem Ql8 (fn : Func) (tmps : Array Value) : results fn tmps = (do let vs ← fn.results.mapM (Qgc tmps); pure (if h : vs.size = 1 then vs[0] else .tuple vs)) := by
  have : (fun rv : ResultVar => (match rv with | .tmp t => pure (tmps.getD t undef) | .cell x t => do loadVar t (← asAddr (tmps.getD x undef)) : Sem Value)) = Qgc tmps := by
    funext rv; cases rv <;> rfl
  unfold results
  rw [← this]
  rfl

theorem QrO {A : A0} {C0 : Ctx} {st : St} {a : Act} {w : World} {loc : Nat → Option Value} (hI : Inv A ⟨C0.io, w, loc, getM st.M⟩) (hE : ∀ k, RelV ⟨C0.io, w, loc, getM st.M⟩ (getE st.E k) (a.tmps.getD k undef)) {n : Nat} :
    ∀ {rv : ResultVar} {s : SRes} {v : AV}, W0 P n [rv] [s] = true → Qng st s v → ∃ c, (Qgc a.tmps rv).run P w = .ok c w ∧ RelV ⟨C0.io, w, loc, getM st.M⟩ v c := by
  intro rv s v hok hr
  cases rv with
  | tmp k =>
    cases s with
    | t k' =>
      simp only [W0, Bool.and_eq_true, beq_iff_eq] at hok
      obtain ⟨rfl, _⟩ := hok
      simp only [Qng] at hr
      exact ⟨_, rfl, hr ▸ hE k⟩
    | c1 => simp [W0] at hok
    | cN => simp [W0] at hok
  | cell k t =>
    cases s with
    | t k' => simp [W0] at hok
    | c1 k' =>
      simp only [W0, Bool.and_eq_true, beq_iff_eq] at hok
      obtain ⟨⟨rfl, hpl⟩, _⟩ := hok
      simp only [Qng] at hr
      split at hr
      · rename_i o off hk
        split at hr
        · rename_i ls hM
          have hx := hE k
          rw [hk] at hx
          have hp : (Y7 (getM st.M) (.ptr o off) KL).pre ∧ (Y7 (getM st.M) (.ptr o off) KL).v = v := by
            simp only [Y7, hM]
            have : ls.drop off = ls.getD off .junk :: ls.drop (off + 1) := by
              rw [List.drop_eq_getElem_cons hr.1]; simp [hr.1]
            rw [this]; exact ⟨trivial, hr.2⟩
          obtain ⟨c, h1, h2, _⟩ := QfX (P := P) hI hx hpl hp.1
          rw [hp.2] at h2
          obtain ⟨_, b, off', cs, _, _, _, hv, _⟩ := Qe5 hI hx hp.1
          refine ⟨c, ?_, h2⟩
          simp only [Instr.loadAt, Sem.run_bind, hv, Instr.sureAddr, Sem.run_pure, Result.andThen_ok] at h1
          simp only [Qgc, Sem.run_bind, hv, asAddr, Sem.run_pure, Result.andThen_ok, h1]
        · exact hr.elim
      · exact hr.elim
    | cN k' m =>
      simp only [W0, Bool.and_eq_true, beq_iff_eq] at hok
      obtain ⟨⟨⟨rfl, hag⟩, hsz⟩, _⟩ := hok
      simp only [Qng] at hr
      split at hr
      · rename_i o off hk
        split at hr
        · rename_i ls hM
          have hx := hE k
          rw [hk] at hx
          have hp : (Y7 (getM st.M) (.ptr o off) fun ls => ⟨m ≤ ls.length, .agg (ls.take m), []⟩).pre ∧ (Y7 (getM st.M) (.ptr o off) fun ls => ⟨m ≤ ls.length, .agg (ls.take m), []⟩).v = v := by
            simp only [Y7, hM]
            refine ⟨by rw [List.length_drop]; omega, hr.2.symm⟩
          obtain ⟨c, h1, h2, _⟩ := QfY (P := P) hI hx hag hsz hp.1
          rw [hp.2] at h2
          obtain ⟨_, b, off', cs, _, _, _, hv, _⟩ := Qe5 hI hx hp.1
          refine ⟨c, ?_, h2⟩
          simp only [Instr.loadAt, Sem.run_bind, hv, Instr.sureAddr, Sem.run_pure, Result.andThen_ok] at h1
          simp only [Qgc, Sem.run_bind, hv, asAddr, Sem.run_pure, Result.andThen_ok, h1]
        · exact hr.elim
      · exact hr.elim

theorem QbO {A : A0} {C0 : Ctx} {st : St} {a : Act} {w : World} {loc : Nat → Option Value} (hI : Inv A ⟨C0.io, w, loc, getM st.M⟩) (hE : ∀ k, RelV ⟨C0.io, w, loc, getM st.M⟩ (getE st.E k) (a.tmps.getD k undef)) {n : Nat} :
    ∀ {rs : List ResultVar} {ss : List SRes} {vs : List AV}, W0 P n rs ss = true → Qcb st ss vs →
      ∃ cs, (rs.mapM (Qgc a.tmps)).run P w = .ok cs w ∧ RelL ⟨C0.io, w, loc, getM st.M⟩ vs cs ∧ cs.length = ss.length
  | [], [], vs, _, h => by simp only [Qcb] at h; subst h; exact ⟨[], by simp, by simp [RelL], rfl⟩
  | [], _ :: _, vs, h, _ => by simp [W0] at h
  | .tmp _ :: _, [], vs, h, _ => by simp [W0] at h
  | .cell _ _ :: _, [], vs, h, _ => by simp [W0] at h
  | rv :: rs, s :: ss, vs, hok, h => by
    simp only [Qcb] at h
    obtain ⟨v, vs', rfl, h1, h2⟩ := h
    have hok' : W0 P n [rv] [s] = true ∧ W0 P n rs ss = true := by
      cases rv <;> cases s <;> simp only [W0, Bool.and_eq_true, Bool.and_true] at hok ⊢ <;> first | exact hok | (simp at hok)
    obtain ⟨c, h3, h4⟩ := QrO hI hE hok'.1 h1
    obtain ⟨cs, h5, h6, h7⟩ := QbO hI hE hok'.2 h2
    refine ⟨c :: cs, ?_, RelL.cons h4 h6, by simp [h7]⟩
    rw [List.mapM_cons]
    simp only [Sem.run_bind, h3, Result.andThen_ok, h5, Sem.run_pure]

/-- A FUNCTION's CONTRACT, out of what its code comes to. -/
theorem Qg (X : Env P) (hm : P.follows .mixedOrders = true)
    {f : FuncId} {sf : SFun} (hok : QS P f sf = true) {args : List AV} (hl : args.length ≤ sf.n) {pre : List (Nat × AObj)} (h100 : (dom pre).all (decide <| · % 1000 < 100) = true) {r : AV} {post : List (Nat × AObj)}
    (h : sf.body.wp X (Qle sf.res r post) ⟨Qhi 0 args, pre⟩) : Contract P f args pre r post := by
  intro io w loc vs hio hwf hargs
  unfold QS at hok
  split at hok
  · rename_i fn hfn
    simp only [Bool.and_eq_true, beq_iff_eq] at hok
    obtain ⟨⟨hn, hres⟩, hb⟩ := hok
    split at hb
    · rename_i c hc
      let C0 : Ctx := ⟨io, w, loc, getM pre⟩
      let A : A0 := ⟨io, w, 100, fun o b => ∃ hv, loc o = some hv ∧ blkOf hv = some b, sf.n⟩
      have h100' : ∀ o obj, C0.M o = some obj → o % 1000 < 100 := fun o obj ho => by
        rw [List.all_eq_true] at h100
        have := h100 o (by have := JE (show getM pre o = some obj from ho); simpa using this)
        simpa using this
      have hI : Inv A C0 := ⟨rfl, Nat.le_refl _, hio, hwf, fun o b ⟨hv, h1, _⟩ => by
        obtain ⟨obj, ho⟩ := hwf.dom o hv h1
        exact h100' o obj ho, Ev.refl _ _, fun o hv b h1 h2 => .inr ⟨hv, h1, h2⟩⟩
      have hvl := hargs.length
      have hR : Rel A C0 ⟨Qhi 0 args, pre⟩ { tmps := vs.toArray ++ Array.replicate (fn.ntmps - vs.toArray.size) undef, defers := [] } w := by
        refine ⟨⟨loc, hI, Ext.refl _, fun k => ?_⟩, ?_, rfl⟩
        · have key : ∀ (xs : List AV) (cs : List Value) (j : Nat), RelL C0 xs cs → (k < j ∨ k ≥ j + xs.length → getE (Qhi j xs) k = .junk) ∧ (∀ i, k = j + i → i < xs.length → ∃ c, cs[i]? = some c ∧ RelV C0 (getE (Qhi j xs) k) c) := by
            intro xs
            induction xs with
            | nil => intro cs j _; exact ⟨fun _ => rfl, fun i _ h => by simp at h⟩
            | cons x xs ih =>
              intro cs j h
              simp only [RelL] at h
              obtain ⟨c, cs', rfl, h1, h2⟩ := h
              obtain ⟨ih1, ih2⟩ := ih cs' (j + 1) h2
              refine ⟨fun hk => ?_, fun i hk hi => ?_⟩
              · simp only [Qhi, getE]
                rw [if_neg (by simp at hk; omega)]
                exact ih1 (by simp at hk; omega)
              · simp only [Qhi, getE]
                cases i with
                | zero => rw [if_pos (by omega)]; exact ⟨c, rfl, h1⟩
                | succ i =>
                  rw [if_neg (by omega)]
                  obtain ⟨c', h3, h4⟩ := ih2 i (by omega) (by simpa using hi)
                  exact ⟨c', by simpa using h3, h4⟩
          obtain ⟨k1, k2⟩ := key args vs 0 hargs
          by_cases hk : k < args.length
          · obtain ⟨c, h1, h2⟩ := k2 k (by omega) hk
            have hkv : k < vs.length := by omega
            have : (vs.toArray ++ Array.replicate (fn.ntmps - vs.toArray.size) undef).getD k undef = c := by
              simp only [Array.getD_eq_getD_getElem?, Array.getElem?_append, List.size_toArray, hkv, if_true, List.getElem?_toArray, h1, Option.getD_some]
            rw [this]; exact h2
          · rw [k1 (by omega)]; simp [RelV]
        · simp only [Array.size_append, List.size_toArray, Array.size_replicate]
          show vs.length + (fn.ntmps - vs.length) = sf.n
          omega
      refine calls_of_wp hfn hc ?_
      refine Ql7 hm h100' sf.body c (Qle sf.res r post) _ hb ?_ _ _ _ hR h
      intro e st a' w' hR' hq
      have fin : Qu sf.res r post st → a'.defers = [] ∧ ∃ v, (results fn a'.tmps).run P w' = .ok v w' ∧ (∃ v_1 loc', (Ending.returned v) = .returned v_1 ∧ WfM ⟨io, w', loc', getM post⟩ ∧ Ext ⟨io, w, loc, getM pre⟩ ⟨io, w', loc', getM post⟩ ∧ RelV ⟨io, w', loc', getM post⟩ r v_1 ∧
          Ev w w' (Ctx.ownB ⟨io, w, loc, getM pre⟩) ∧ ∀ o hv b, loc' o = some hv → blkOf hv = some b → w.heap.size ≤ b ∨ ∃ hv0, loc o = some hv0 ∧ blkOf hv0 = some b) := by
        rintro ⟨h1, h2, h3, h4, h5⟩
        obtain ⟨⟨loc', hI', hX', hE'⟩, _, hdf⟩ := hR'
        refine ⟨hdf, ?_⟩
        have hIo : C0.io = io := rfl
        obtain ⟨hres', hI''⟩ := Inv.restrict hI' h2 h3
        have done : ∀ v, RelV ⟨io, w', loc', getM st.M⟩ r v → ∃ v_1 loc', (Ending.returned v) = .returned v_1 ∧ WfM ⟨io, w', loc', getM post⟩ ∧ Ext ⟨io, w, loc, getM pre⟩ ⟨io, w', loc', getM post⟩ ∧ RelV ⟨io, w', loc', getM post⟩ r v_1 ∧
          Ev w w' (Ctx.ownB ⟨io, w, loc, getM pre⟩) ∧ ∀ o hv b, loc' o = some hv → blkOf hv = some b → w.heap.size ≤ b ∨ ∃ hv0, loc o = some hv0 ∧ blkOf hv0 = some b := by
          intro v hv
          refine ⟨v, _, rfl, hI''.wf, ⟨fun t b hb => ?_, fun o obj hv ho hl => ?_⟩, RelV.res hres' r v h4 hv, ?_, fun o hv b h6 h7 => hI''.new o hv b h6 h7⟩
          · obtain ⟨h6, h7⟩ := hX'.ok t b hb
            exact ⟨(hres'.ok t b h6).1, h7⟩
          · obtain ⟨obj', hv', h6, h7, h8⟩ := hX'.refs o obj hv ho hl
            have h6 : getM st.M o = some obj' := h6
            have hd : (dom post).contains o = true := by
              unfold keepB at h5
              rw [List.all_eq_true] at h5
              have := h5 o (by have := JE h6; simpa using this)
              simp only [Bool.or_eq_true, decide_eq_true_eq] at this
              have hlt := h100' o obj ho
              rcases this with h | h
              · omega
              · exact h
            have := hres'.obj o hd
            exact ⟨obj', hv', by rw [this.1]; exact h6, by rw [this.2]; exact h7, h8⟩
          · have hev := hI''.ev
            exact ⟨hev.os, hev.tape, hev.output, hev.size, fun b hb ho => hev.block b hb (fun ⟨o, hv, h6, h7⟩ => ho ⟨o, hv, h6, h7⟩)⟩
        have hmap : ∀ {cs : List Value}, (fn.results.toList.mapM (Qgc a'.tmps)).run P w' = .ok cs w' →
            (results fn a'.tmps).run P w' = .ok (if h : cs.toArray.size = 1 then cs.toArray[0] else .tuple cs.toArray) w' := by
          intro cs h6
          rw [Ql8, Array.mapM_eq_mapM_toList]
          simp only [Sem.run_bind, Sem.run_map]
          rw [h6]
          rfl
        split at h1
        · rename_i x hx
          have hlp : Qcb st sf.res [r] := by rw [hx]; simp only [Qcb]; exact ⟨r, [], rfl, h1, rfl⟩
          obtain ⟨cs, h6, h7, h8⟩ := QbO hI' hE' hres hlp
          rw [hx] at h8
          simp only [RelL] at h7
          obtain ⟨c1, cs1, rfl, h9, rfl⟩ := h7
          exact ⟨c1, hmap h6, done c1 h9⟩
        · rename_i hx
          obtain ⟨vs', hvs, rfl⟩ := h1
          obtain ⟨cs, h6, h7, h8⟩ := QbO hI' hE' hres hvs
          have hne : ¬ cs.toArray.size = 1 := by
            simp only [List.size_toArray, h8]
            intro h1
            match hsr : sf.res with
            | [] => rw [hsr] at h1; simp at h1
            | [x] => exact hx x hsr
            | x :: y :: l => rw [hsr] at h1; simp at h1
          have := hmap h6
          rw [dif_neg hne] at this
          exact ⟨_, this, done _ (by simp only [RelV]; exact ⟨cs, rfl, h7⟩)⟩
      cases e with
      | normal => exact fin hq
      | ret => exact fin hq
      | exit id => exact hq.elim
    · cases hb
  · cases hok
end
end Go.Ve

namespace Go.Ve
open Go.RowKit

/-! The laws that a walk rewrites with: each asks for all arguments, so that nothing is opened ahead of its time. -/
/-- Two ways: both are kept shut till it is known which is walked. -/
def br (v : AV) (A : St → Prop) (sa : St) (B : St → Prop) (sb : St) : Prop :=
  match v with
  | .bool b => (b = true → A sa) ∧ (b = false → B sb)
  | _ => False
/-- The same with a third way, for a Boolean that was passed over itself. -/
def brU (v : AV) (A B U : St → Prop) (s : St) : Prop :=
  match v with
  | .bool b => (b = true → A s) ∧ (b = false → B s)
  | .tup [] => U s
  | _ => False
section
variable {A B U : St → Prop} {sa sb s : St}
theorem Gw : br (.bool true) A sa B sb = A sa := by simp [br]
theorem Yl : br (.bool false) A sa B sb = B sb := by simp [br]
theorem UQ {b : Bool} : br (.bool (!b)) A sa B sb = br (.bool b) B sb A sa := by cases b <;> simp [br]
theorem UR {a b : Bool} : br (.bool (a && b)) A sa B sb = ((a = true ∧ b = true → A sa) ∧ (¬ (a = true ∧ b = true) → B sb)) := by cases a <;> cases b <;> simp [br]
theorem Qdl {a b : Bool} : br (.bool (a || b)) A sa B sb = ((a = true ∨ b = true → A sa) ∧ (¬ (a = true ∨ b = true) → B sb)) := by cases a <;> cases b <;> simp [br]
theorem US {p : Prop} [Decidable p] : br (.bool (decide p)) A sa B sb = ((p → A sa) ∧ (¬ p → B sb)) := by by_cases h : p <;> simp [br, h]
theorem Qdm {x y : Int} : br (.bool (x == y)) A sa B sb = ((x = y → A sa) ∧ (¬ x = y → B sb)) := by by_cases h : x = y <;> simp [br, h]
theorem Qdn {x y : Int} : br (.bool (x != y)) A sa B sb = ((¬ x = y → A sa) ∧ (x = y → B sb)) := by by_cases h : x = y <;> simp [br, h]
theorem Ym : brU (.bool true) A B U s = A s := by simp [brU]
theorem Kx : brU (.bool false) A B U s = B s := by simp [brU]
theorem Qdo : brU (.tup []) A B U s = U s := by simp [brU]
theorem Gx {b : Bool} : brU (.bool (!b)) A B U s = brU (.bool b) B A U s := by cases b <;> simp [brU]
theorem Gy {a b : Bool} : brU (.bool (a && b)) A B U s = ((a = true ∧ b = true → A s) ∧ (¬ (a = true ∧ b = true) → B s)) := by cases a <;> cases b <;> simp [brU]
theorem UT {a b : Bool} : brU (.bool (a || b)) A B U s = ((a = true ∨ b = true → A s) ∧ (¬ (a = true ∨ b = true) → B s)) := by cases a <;> cases b <;> simp [brU]
theorem Gz {p : Prop} [Decidable p] : brU (.bool (decide p)) A B U s = ((p → A s) ∧ (¬ p → B s)) := by by_cases h : p <;> simp [brU, h]
theorem UU {x y : Int} : brU (.bool (x == y)) A B U s = ((x = y → A s) ∧ (¬ x = y → B s)) := by by_cases h : x = y <;> simp [brU, h]
theorem UV {x y : Int} : brU (.bool (x != y)) A B U s = ((¬ x = y → A s) ∧ (x = y → B s)) := by by_cases h : x = y <;> simp [brU, h]
end
def QrP {P : Program} (X : Env P) (d : Option Nat) (op : SOp) (ks : List Nat) (t : Nat) (b : Bool) (r : List SOper) (K : St → Prop) (st : St) : Prop := YQ X op (st.lit t b) (Qq5 d ks (st.lit t b) (Qf4 X r K))
def QnM {P : Program} (X : Env P) (d : Option Nat) (ks : List Nat) (t : Nat) (b : Bool) (r : List SOper) (K : St → Prop) (st : St) : Prop := Qf4 X r K (W9 ks ((st.lit t b).put d (.tup []) []))
def QrQ {P : Program} (X : Env P) (d : Option Nat) (ks : List Nat) (r : List SOper) (K : St → Prop) (st : St) : Prop := Qf4 X r K (W9 ks (st.put d (.tup []) []))
def QrR {P : Program} (X : Env P) (ck : List (Option (List Nat))) (tr : List (List Nat)) (s : SOper) (t : Nat) (b : Bool) (K : List (List Nat) → St → Prop) (st : St) : Prop := YQ X s.op (st.lit t b) (drK ck tr s (st.lit t b) K)
def QnN {P : Program} (X : Env P) (d : Option Nat) (t : Nat) (b : Bool) (tr : List (List Nat)) (K : List (List Nat) → St → Prop) (st : St) : Prop := K ([] :: tr) ((st.lit t b).put d (.tup []) [])
def QrS {P : Program} (X : Env P) (d : Option Nat) (tr : List (List Nat)) (K : List (List Nat) → St → Prop) (st : St) : Prop := K ([] :: tr) (st.put d (.tup []) [])

section
variable {P : Program} {X : Env P}
theorem UW {Q : XT → St → Prop} {st : St} : SCode.wp X .skip Q st = Q .normal st := (rfl)
theorem Ql9 {ops : List SOper} {outs : List Nat} {Q : XT → St → Prop} {st : St} : SCode.wp X (.rg ops outs) Q st = Qf4 X ops (Qkg outs Q) st := (rfl)
theorem Qdp {ops : List SOper} {outs : List Nat} {ck : List (Option (List Nat))} {Q : XT → St → Prop} {st : St} : SCode.wp X (.rgd ops outs ck) Q st = Qhg X ops ck (Qkg outs Q) [] st := (rfl)
theorem Qdq {a b : SCode} {Q : XT → St → Prop} {st : St} : SCode.wp X (.seq a b) Q st = SCode.wp X a (Qhh (SCode.wp X b Q) Q) st := (rfl)
theorem UX {c : SX} {a b : SCode} {Q : XT → St → Prop} {st : St} : SCode.wp X (.cond c a b) Q st = br (ev (getE st.E) c) (SCode.wp X a Q) st (SCode.wp X b Q) st := (rfl)
theorem GC {id : Nat} {c : SCode} {Q : XT → St → Prop} {st : St} : SCode.wp X (.block id c) Q st = SCode.wp X c (Qga id Q) st := (rfl)
theorem UY {c : SCode} {Q : XT → St → Prop} {st : St} : SCode.wp X (.loop c) Q st = Qgb (SCode.wp X c) Q st := (rfl)
theorem UZ {id : Nat} {Q : XT → St → Prop} {st : St} : SCode.wp X (.exit id) Q st = Q (.exit id) st := (rfl)
theorem Qdr {Q : XT → St → Prop} {st : St} : SCode.wp X .ret Q st = Q .ret st := (rfl)
theorem Qma {g : Gh} {c : SCode} {Q : XT → St → Prop} {st : St} : SCode.wp X (.gh g c) Q st = Qkf g st (SCode.wp X c Q) := (rfl)
theorem Qds {K : St → Prop} {st : St} : Qf4 X [] K st = K st := (rfl)
theorem Qdt {d : Option Nat} {op : SOp} {ks : List Nat} {r : List SOper} {K : St → Prop} {st : St} : Qf4 X (⟨d, op, none, ks⟩ :: r) K st = YQ X op st (Qq5 d ks st (Qf4 X r K)) := (rfl)
theorem Qdu {d : Option Nat} {op : SOp} {t : Nat} {ks : List Nat} {r : List SOper} {K : St → Prop} {st : St} : Qf4 X (⟨d, op, some (t, true), ks⟩ :: r) K st = brU (getE st.E t) (QrP X d op ks t true r K) (QnM X d ks t false r K) (QrQ X d ks r K) st := (rfl)
theorem Qdv {d : Option Nat} {op : SOp} {t : Nat} {ks : List Nat} {r : List SOper} {K : St → Prop} {st : St} : Qf4 X (⟨d, op, some (t, false), ks⟩ :: r) K st = brU (getE st.E t) (QnM X d ks t true r K) (QrP X d op ks t false r K) (QrQ X d ks r K) st := by
  show (match getE st.E t with | .bool b => _ | .tup [] => _ | _ => False) = brU (getE st.E t) _ _ _ _
  rcases getE st.E t with _ | _ | _ | _ | (_ | _) | _ | _ | _ | _ | _ | _ | _ <;> first | rfl | exact propext and_comm
theorem Qdw {d : Option Nat} {op : SOp} {ks : List Nat} {t : Nat} {b : Bool} {r : List SOper} {K : St → Prop} {st : St} : QrP X d op ks t b r K st = YQ X op (st.lit t b) (Qq5 d ks (st.lit t b) (Qf4 X r K)) := (rfl)
theorem Qdx {d : Option Nat} {ks : List Nat} {t : Nat} {b : Bool} {r : List SOper} {K : St → Prop} {st : St} : QnM X d ks t b r K st = Qf4 X r K (W9 ks ((st.lit t b).put d (.tup []) [])) := (rfl)
theorem Qdy {d : Option Nat} {ks : List Nat} {r : List SOper} {K : St → Prop} {st : St} : QrQ X d ks r K st = Qf4 X r K (W9 ks (st.put d (.tup []) [])) := (rfl)
theorem Qdz {ck : List (Option (List Nat))} {tr : List (List Nat)} {K : St → Prop} {st : St} : Qhg X [] ck K tr st = K st := (rfl)
theorem QdA {ks : List Nat} {d : Option Nat} {op : SOp} {r : List SOper} {c : Option (List Nat)} {ck : List (Option (List Nat))} {tr : List (List Nat)} {K : St → Prop} {st : St} : Qhg X (⟨d, op, none, ks⟩ :: r) (c :: ck) K tr st = YQ X op st (drK (c :: ck) tr ⟨d, op, none, ks⟩ st (Qhg X r ck K)) := (rfl)
theorem QdB {ks : List Nat} {d : Option Nat} {op : SOp} {t : Nat} {r : List SOper} {c : Option (List Nat)} {ck : List (Option (List Nat))} {tr : List (List Nat)} {K : St → Prop} {st : St} : Qhg X (⟨d, op, some (t, true), ks⟩ :: r) (c :: ck) K tr st =
    brU (getE st.E t) (QrR X (c :: ck) tr ⟨d, op, some (t, true), ks⟩ t true (Qhg X r ck K)) (QnN X d t false tr (Qhg X r ck K)) (QrS X d tr (Qhg X r ck K)) st := (rfl)
theorem QdC {ks : List Nat} {d : Option Nat} {op : SOp} {t : Nat} {r : List SOper} {c : Option (List Nat)} {ck : List (Option (List Nat))} {tr : List (List Nat)} {K : St → Prop} {st : St} : Qhg X (⟨d, op, some (t, false), ks⟩ :: r) (c :: ck) K tr st =
    brU (getE st.E t) (QnN X d t true tr (Qhg X r ck K)) (QrR X (c :: ck) tr ⟨d, op, some (t, false), ks⟩ t false (Qhg X r ck K)) (QrS X d tr (Qhg X r ck K)) st := by
  show (match getE st.E t with | .bool b => _ | .tup [] => _ | _ => False) = brU (getE st.E t) _ _ _ _
  rcases getE st.E t with _ | _ | _ | _ | (_ | _) | _ | _ | _ | _ | _ | _ | _ <;> first | rfl | exact propext and_comm
theorem GD {d : Option Nat} {op : SOp} {g : Option (Nat × Bool)} {ks : List Nat} {ck : List (Option (List Nat))} {tr : List (List Nat)} {t : Nat} {b : Bool} {K : List (List Nat) → St → Prop} {st : St} :
    QrR X ck tr ⟨d, op, g, ks⟩ t b K st = YQ X op (st.lit t b) (drK ck tr ⟨d, op, g, ks⟩ (st.lit t b) K) := (rfl)
theorem GE {d : Option Nat} {t : Nat} {b : Bool} {tr : List (List Nat)} {K : List (List Nat) → St → Prop} {st : St} : QnN X d t b tr K st = K ([] :: tr) ((st.lit t b).put d (.tup []) []) := (rfl)
theorem GF {d : Option Nat} {tr : List (List Nat)} {K : List (List Nat) → St → Prop} {st : St} : QrS X d tr K st = K ([] :: tr) (st.put d (.tup []) []) := (rfl)
theorem U0 {ks : List Nat} {d : Option Nat} {op : SOp} {g : Option (Nat × Bool)} {ck : List (Option (List Nat))} {tr : List (List Nat)} {st : St} {K : List (List Nat) → St → Prop} {v : AV} {ups : List (Nat × AObj)} :
    drK (none :: ck) tr ⟨d, op, g, ks⟩ st K v ups = K ([] :: tr) (st.put d v ups) := by simp [drK, trk, nxt]
theorem U1 {ks : List Nat} {js : List Nat} {d : Option Nat} {op : SOp} {g : Option (Nat × Bool)} {ck : List (Option (List Nat))} {tr : List (List Nat)} {st : St} {K : List (List Nat) → St → Prop} {v : AV} {ups : List (Nat × AObj)} :
    drK (some js :: ck) tr ⟨d, op, g, ks⟩ st K v ups = ((js.all fun d => Qe6 (tr.getD d []) (Qg9 op (getE st.E) ups)) = true ∧ K (Qg9 op (getE st.E) ups :: tr) (st.put d v ups)) := (rfl)
theorem U2 {d : Option Nat} {ks : List Nat} {st : St} {K : St → Prop} {v : AV} {ups : List (Nat × AObj)} : Qq5 d ks st K v ups = K (W9 ks (st.put d v ups)) := (rfl)
theorem GG {outs : List Nat} {Q : XT → St → Prop} {st : St} : Qkg outs Q st = Q .normal (trim outs st) := (rfl)
theorem GH {n : St → Prop} {Q : XT → St → Prop} {st : St} : Qhh n Q .normal st = n st := (rfl)
theorem GI {n : St → Prop} {Q : XT → St → Prop} {st : St} {id : Nat} : Qhh n Q (.exit id) st = Q (.exit id) st := (rfl)
theorem GJ {n : St → Prop} {Q : XT → St → Prop} {st : St} : Qhh n Q .ret st = Q .ret st := (rfl)
theorem GK {c : SCode} {Q : XT → St → Prop} {st : St} : SCode.wp X (.scope c) Q st = SCode.wp X c Q st := (rfl)
theorem GL {l : Nat} {Q : XT → St → Prop} {st : St} : SCode.wp X (.label l) Q st = Q .normal st := (rfl)
theorem U3 {i : Nat} {Q : XT → St → Prop} {st : St} : Qga i Q .normal st = Q .normal st := (rfl)
theorem U4 {i id : Nat} {Q : XT → St → Prop} {st : St} : Qga i Q (.exit id) st = if id = i then Q .normal st else Q (.exit id) st := (rfl)
theorem U5 {i : Nat} {Q : XT → St → Prop} {st : St} : Qga i Q .ret st = Q .ret st := (rfl)
theorem QrT {x : SX} {args : List SX} {st : St} {K : AV → List (Nat × AObj) → Prop} : YQ X (.callV x args) st K = Qdk X (ev (getE st.E) x) (args.map (ev (getE st.E))) (getM st.M) K := (rfl)
theorem QrU {f : FuncId} {a b args : List AV} {M : Nat → Option AObj} {K : AV → List (Nat × AObj) → Prop} : Qdk X (.fn f a b) args M K = (Wj P f = true ∧ QeT X f (a ++ (args ++ b)) M K) := (rfl)
theorem QsT {f : FuncId} {caps : List SX} {st : St} {K : AV → List (Nat × AObj) → Prop} : YQ X (.clos f caps) st K = Y6 (eff (.clos f caps) (getE st.E) (getM st.M)) K := (rfl)
theorem QrV {o kk : Nat} {st : St} {K : AV → List (Nat × AObj) → Prop} : YQ X (.mkmap o kk) st K = Y6 (eff (.mkmap o kk) (getE st.E) (getM st.M)) K := (rfl)
theorem QsU {ok : Bool} {kk : Nat} {z : AV} {m k : SX} {st : St} {K : AV → List (Nat × AObj) → Prop} : YQ X (.look ok kk z m k) st K = Y6 (eff (.look ok kk z m k) (getE st.E) (getM st.M)) K := (rfl)
theorem QsV {kk : Nat} {m k x : SX} {st : St} {K : AV → List (Nat × AObj) → Prop} : YQ X (.mset kk m k x) st K = Y6 (eff (.mset kk m k x) (getE st.E) (getM st.M)) K := (rfl)
theorem QtK {n : Nat} {x i : SX} {st : St} {K : AV → List (Nat × AObj) → Prop} : YQ X (.idx n x i) st K = Y6 (eff (.idx n x i) (getE st.E) (getM st.M)) K := (rfl)
theorem QsW {n sz : Nat} {x i : SX} {st : St} {K : AV → List (Nat × AObj) → Prop} : YQ X (.idxN n sz x i) st K = Y6 (eff (.idxN n sz x i) (getE st.E) (getM st.M)) K := (rfl)
theorem QpG {n sz : Nat} {x i : SX} {st : St} {K : AV → List (Nat × AObj) → Prop} : YQ X (.iaddrA n sz x i) st K = Y6 (eff (.iaddrA n sz x i) (getE st.E) (getM st.M)) K := (rfl)
theorem QrW {neg : Bool} {x : SX} {st : St} {K : AV → List (Nat × AObj) → Prop} : YQ X (.isnil neg x) st K = Y6 (eff (.isnil neg x) (getE st.E) (getM st.M)) K := (rfl)
theorem QtL {x : SX} {st : St} {K : AV → List (Nat × AObj) → Prop} : YQ X (.b2s x) st K = Y6 (eff (.b2s x) (getE st.E) (getM st.M)) K := (rfl)
theorem U6 {f : FuncId} {args : List SX} {st : St} {K : AV → List (Nat × AObj) → Prop} : YQ X (.call f args) st K = QeT X f (args.map (ev (getE st.E))) (getM st.M) K := (rfl)
theorem U7 {p : Prop} {v : AV} {u : List (Nat × AObj)} {K : AV → List (Nat × AObj) → Prop} : Y6 ⟨p, v, u⟩ K = (p ∧ K v u) := (rfl)

theorem Yn {f : FuncId} {args : List AV} {M : Nat → Option AObj} {K : AV → List (Nat × AObj) → Prop} : QeT X f args M K = Qny P X f args M K (X.R f args M) := (rfl)
theorem Yo {f : FuncId} {args : List AV} {M : Nat → Option AObj} {K : AV → List (Nat × AObj) → Prop} : Qny P X f args M K none = Qi1 P X f args M K (W5 M args) := (rfl)
theorem Yp {f : FuncId} {args : List AV} {M : Nat → Option AObj} {K : AV → List (Nat × AObj) → Prop} {α : Type} {p : Prop} {g : α → Prop} {r : α → AV} {u : α → List (Nat × AObj)} : Qny P X f args M K (some ⟨p, g, r, u⟩) = (p ∧ ∀ a, g a → K (r a) (u a)) := (rfl)
theorem Qmb {f : FuncId} {l : List AV} {M : Nat → Option AObj} : (Env.nil P).R f l M = none := (rfl)
theorem Qmc {f g : FuncId} {t : List AV → Option (Prop × AV)} {h : ∀ args p v, t args = some (p, v) → p → Contract P f args [] v [] ∧ noref v = true ∧ No99 v} {l : List AV} {M : Nat → Option AObj} : (X.add f t h).R g l M = X.R g l M := (rfl)
theorem Qmd {f g : FuncId} {t : RTab} {h : okTab P f t} {l : List AV} {M : Nat → Option AObj} : (X.addR f t h).R g l M = if g = f then t l M else X.R g l M := (rfl)
theorem Qme {f g : FuncId} {t : RTab} {h : okTab P f t} {l : List AV} : (X.addR f t h).T g l = X.T g l := (rfl)
theorem Y9 {f : FuncId} {args l : List AV} {M : Nat → Option AObj} {K : AV → List (Nat × AObj) → Prop} : Qi1 P X f args M K (some l) = QrH P f args M K (X.T f l) := (rfl)
theorem GM {f : FuncId} {args : List AV} {M : Nat → Option AObj} {K : AV → List (Nat × AObj) → Prop} {p : Prop} {v : AV} : QrH P f args M K (some (p, v)) = (p ∧ K v []) := (rfl)
theorem Qmf {f : FuncId} {l : List AV} : (Env.nil P).T f l = none := (rfl)
theorem Qmg {f g : FuncId} {t : List AV → Option (Prop × AV)} {h : ∀ args p v, t args = some (p, v) → p → Contract P f args [] v [] ∧ noref v = true ∧ No99 v} {l : List AV} : (X.add f t h).T g l = if g = f then t l else X.T g l := (rfl)
theorem Qig {α : Type} (F : α → St) (good : α → Prop) (μ : α → Nat) (a0 : α) {body : (XT → St → Prop) → St → Prop} {Q : XT → St → Prop} {st : St} (h0 : Wk st (F a0)) (g0 : good a0)
    (step : ∀ a, good a → body (Qhh (QrL (fun m st => ∃ a, st = F a ∧ good a ∧ μ a = m) (μ a)) Q) (F a)) : Qgb body Q st :=
  ⟨fun m st => ∃ a, st = F a ∧ good a ∧ μ a = m, ⟨μ a0, F a0, h0, a0, rfl, g0, rfl⟩, fun m st ⟨a, h1, h2, h3⟩ => by subst h1; subst h3; exact step a h2⟩
theorem Qlf {α : Type} {F : α → St} {good : α → Prop} {μ : α → Nat} {m : Nat} (a : α) {st : St} (h0 : Wk st (F a)) (g0 : good a) (hm : μ a < m) : QrL (fun m st => ∃ a, st = F a ∧ good a ∧ μ a = m) m st :=
  ⟨μ a, F a, h0, ⟨a, rfl, g0, rfl⟩, hm⟩
theorem GN {d : Nat} : getE [] d = .junk := (rfl)
theorem GO {k : Nat} {v : AV} {r : List (Nat × AV)} {d : Nat} : getE ((k, v) :: r) d = if d = k then v else getE r d := (rfl)
theorem GP {d : Nat} : getM [] d = none := (rfl)
theorem GQ {k : Nat} {v : AObj} {r : List (Nat × AObj)} {d : Nat} : getM ((k, v) :: r) d = if d = k then some v else getM r d := (rfl)
theorem U8 {M : List (Nat × AObj)} : QR M [] = M := (rfl)
theorem U9 {M : List (Nat × AObj)} {k : Nat} {v : AObj} : QR M [(k, v)] = JP M k v := (rfl)
theorem Va {M : List (Nat × AObj)} {k : Nat} {v : AObj} {r : List (Nat × AObj)} : QR M ((k, v) :: r) = JP (QR M r) k v := (rfl)
theorem Vb {st : St} {d : Nat} {v : AV} {u : List (Nat × AObj)} : st.put (some d) v u = ⟨QiI st.E d v, QR st.M u⟩ := (rfl)
theorem Vc {st : St} {v : AV} {u : List (Nat × AObj)} : st.put none v u = ⟨st.E, QR st.M u⟩ := (rfl)
theorem GS {st : St} : W9 [] st = st := (rfl)
theorem GT {d : Nat} {l : List Nat} {st : St} : W9 (d :: l) st = W9 l ⟨Qb9 d st.E, st.M⟩ := (rfl)
theorem Yq {d : Nat} : Qb9 d [] = [] := (rfl)
theorem Yr {d k : Nat} {v : AV} {r : List (Nat × AV)} : Qb9 d ((k, v) :: r) = if d = k then Qb9 d r else (k, v) :: Qb9 d r := (rfl)
theorem Qj {d : Nat} {v : AV} : QiI [] d v = [(d, v)] := (rfl)
theorem Qk {k d : Nat} {x v : AV} {r : List (Nat × AV)} : QiI ((k, x) :: r) d v = if d = k then (k, v) :: r else (k, x) :: QiI r d v := (rfl)
theorem QdD {st : St} {t : Nat} {b : Bool} : st.lit t b = ⟨QiI st.E t (.bool b), st.M⟩ := (rfl)
theorem Qh {res : List SRes} {r : AV} {post : List (Nat × AObj)} {st : St} : Qle res r post .ret st = Qu res r post st := (rfl)
theorem Qe {res : List SRes} {r : AV} {post : List (Nat × AObj)} {st : St} : Qle res r post .normal st = Qu res r post st := (rfl)
end

section
variable {P : Program} {X : Env P} {st : St} {K : AV → List (Nat × AObj) → Prop}
theorem Qmh {x : SX} : YQ X (.mv x) st K = Y6 (eff (.mv x) (getE st.E) (getM st.M)) K := (rfl)
theorem Ys {o e sz : Nat} : YQ X (.newnil o e sz) st K = Y6 (eff (.newnil o e sz) (getE st.E) (getM st.M)) K := (rfl)
theorem Vd {c a b : SX} : YQ X (.pick c a b) st K = Y6 (eff (.pick c a b) (getE st.E) (getM st.M)) K := (rfl)
theorem QdE {b : BinOp} {x y : SX} : YQ X (.bin b x y) st K = Y6 (eff (.bin b x y) (getE st.E) (getM st.M)) K := (rfl)
theorem Vf {b : BinOp} {x y : SX} : YQ X (.binN b x y) st K = Y6 (eff (.binN b x y) (getE st.E) (getM st.M)) K := (rfl)
theorem QdF {x : SX} : YQ X (.neg x) st K = Y6 (eff (.neg x) (getE st.E) (getM st.M)) K := (rfl)
theorem QdG {x : SX} : YQ X (.not x) st K = Y6 (eff (.not x) (getE st.E) (getM st.M)) K := (rfl)
theorem QdH {n : Bool} {x y : SX} : YQ X (.eqB n x y) st K = Y6 (eff (.eqB n x y) (getE st.E) (getM st.M)) K := (rfl)
theorem QdI {n : Bool} {ks : List LK} {x y : SX} : YQ X (.eqS n ks x y) st K = Y6 (eff (.eqS n ks x y) (getE st.E) (getM st.M)) K := (rfl)
theorem Vg {k : IntKind} {x : SX} : YQ X (.conv k x) st K = Y6 (eff (.conv k x) (getE st.E) (getM st.M)) K := (rfl)
theorem GU {o : Nat} {zs : List AV} : YQ X (.alloc o zs) st K = Y6 (eff (.alloc o zs) (getE st.E) (getM st.M)) K := (rfl)
theorem QdJ {o : Nat} {x : SX} : YQ X (.box o x) st K = Y6 (eff (.box o x) (getE st.E) (getM st.M)) K := (rfl)
theorem GV {x : SX} : YQ X (.load1 x) st K = Y6 (eff (.load1 x) (getE st.E) (getM st.M)) K := (rfl)
theorem GW {n : Nat} {x : SX} : YQ X (.loadN n x) st K = Y6 (eff (.loadN n x) (getE st.E) (getM st.M)) K := (rfl)
theorem GX {n : Nat} {x y : SX} : YQ X (.store n x y) st K = Y6 (eff (.store n x y) (getE st.E) (getM st.M)) K := (rfl)
theorem GY {x : SX} : YQ X (.nilck x) st K = Y6 (eff (.nilck x) (getE st.E) (getM st.M)) K := (rfl)
theorem GZ {o : Nat} {x : SX} : YQ X (.faddr o x) st K = Y6 (eff (.faddr o x) (getE st.E) (getM st.M)) K := (rfl)
theorem Yt {o : Nat} {x : SX} : YQ X (.field1 o x) st K = Y6 (eff (.field1 o x) (getE st.E) (getM st.M)) K := (rfl)
theorem Yu {o n : Nat} {x : SX} : YQ X (.fieldN o n x) st K = Y6 (eff (.fieldN o n x) (getE st.E) (getM st.M)) K := (rfl)
theorem G0 {sz : Nat} {x i : SX} : YQ X (.iaddr sz x i) st K = Y6 (eff (.iaddr sz x i) (getE st.E) (getM st.M)) K := (rfl)
theorem Vh {x i : SX} : YQ X (.istr x i) st K = Y6 (eff (.istr x i) (getE st.E) (getM st.M)) K := (rfl)
theorem G1 {x : SX} {lo hi : Option SX} : YQ X (.slStr x lo hi) st K = Y6 (eff (.slStr x lo hi) (getE st.E) (getM st.M)) K := (rfl)
theorem Vi {sz : Nat} {x : SX} {lo hi : Option SX} : YQ X (.slSl sz x lo hi) st K = Y6 (eff (.slSl sz x lo hi) (getE st.E) (getM st.M)) K := (rfl)
theorem Vj {x : SX} : YQ X (.lenS x) st K = Y6 (eff (.lenS x) (getE st.E) (getM st.M)) K := (rfl)
theorem Vk {x : SX} : YQ X (.lenL x) st K = Y6 (eff (.lenL x) (getE st.E) (getM st.M)) K := (rfl)
theorem Qmi {x y : SX} : YQ X (.mx x y) st K = Y6 (eff (.mx x y) (getE st.E) (getM st.M)) K := (rfl)
theorem Qmj {x y : SX} : YQ X (.mn x y) st K = Y6 (eff (.mn x y) (getE st.E) (getM st.M)) K := (rfl)
theorem QdK {i : Nat} {x : SX} : YQ X (.ext i x) st K = Y6 (eff (.ext i x) (getE st.E) (getM st.M)) K := (rfl)
theorem G2 {zs : List AV} {ps : List (Nat × Nat × SX)} : YQ X (.build zs ps) st K = Y6 (eff (.build zs ps) (getE st.E) (getM st.M)) K := (rfl)
theorem QdL {e sz : Nat} {ps : List SX} : YQ X (.lit e sz ps) st K = Y6 (eff (.lit e sz ps) (getE st.E) (getM st.M)) K := (rfl)
theorem Yv {o e sz : Nat} {ps : List SX} : YQ X (.litOwn o e sz ps) st K = Y6 (eff (.litOwn o e sz ps) (getE st.E) (getM st.M)) K := (rfl)
theorem Vl {o e sz : Nat} {x y : SX} : YQ X (.appN o e sz x y) st K = Y6 (eff (.appN o e sz x y) (getE st.E) (getM st.M)) K := (rfl)
theorem QdM {o e sz : Nat} {x y : SX} : YQ X (.app o e sz x y) st K = Y6 (eff (.app o e sz x y) (getE st.E) (getM st.M)) K := (rfl)
theorem Qmk {o e sz : Nat} {zs : List AV} {n : SX} : YQ X (.mk o e sz zs n) st K = Y6 (eff (.mk o e sz zs n) (getE st.E) (getM st.M)) K := (rfl)
theorem G3 {x : SX} : YQ X (.mvfrz x) st K = Y6 (eff (.mvfrz x) (getE st.E) (getM st.M)) K := (rfl)
end
theorem Qml {E : Nat → AV} {k : Nat} : ev E (.v k) = E k := (rfl)
theorem Qup {E : Nat → AV} {k : Nat} : ev E (.g k) = QtI k := (rfl)
theorem Qmm {E : Nat → AV} {x : AV} : ev E (.c x) = x := (rfl)
theorem QdN {k : IntKind} {n : Int} : Q0 (.int k n) = [.int k n] := (rfl)
theorem Vm {b : Bool} : Q0 (.bool b) = [.bool b] := (rfl)
theorem QdO {s : ByteArray} : Q0 (.str s) = [.str s] := (rfl)
theorem QdP {l : List AV} : Q0 (.agg l) = l := (rfl)
theorem Qmn {t sz : Nat} {xs : List (List AV)} : Q0 (.sl t sz xs) = [.sl t sz xs] := (rfl)
theorem QdQ {o v l h : Nat} : Q0 (.own o v l h) = [.own o v l h] := (rfl)
theorem QdR {o f : Nat} : Q0 (.ptr o f) = [.ptr o f] := (rfl)
theorem Qmo {t : Nat} {l : List AV} : Q0 (.pp t l) = [.pp t l] := (rfl)
theorem QdS {k : IntKind} {n : Int} : isLeaf (.int k n) = true := (rfl)
theorem Vn {b : Bool} : isLeaf (.bool b) = true := (rfl)
theorem QdT {s : ByteArray} : isLeaf (.str s) = true := (rfl)
theorem Qmp {t sz : Nat} {xs : List (List AV)} : isLeaf (.sl t sz xs) = true := (rfl)
theorem QdU {o v l h : Nat} : isLeaf (.own o v l h) = true := (rfl)
theorem QdV {o f : Nat} : isLeaf (.ptr o f) = true := (rfl)
theorem Qmq {t : Nat} {l : List AV} : isLeaf (.pp t l) = true := (rfl)
theorem Qmr {p : AV → Bool} : [].all p = true := (rfl)
theorem Qms {p : AV → Bool} {x : AV} {l : List AV} : (x :: l).all p = (p x && l.all p) := (rfl)
theorem QdW {v : AV} : ok1 v = ⟨True, v, []⟩ := (rfl)
theorem Vo {outs : List Nat} {st : St} : trim outs st = ⟨outs.map fun k => (k, getE st.E k), st.M⟩ := (rfl)
theorem Ql {d : Nat} {v : AObj} : JP [] d v = [(d, v)] := (rfl)
theorem Qm {k d : Nat} {x v : AObj} {r : List (Nat × AObj)} : JP ((k, x) :: r) d v = if d = k then (k, v) :: r else (k, x) :: JP r d v := (rfl)
theorem Vp {n : Nat} : Qhi n [] = [] := (rfl)
theorem Vq {n : Nat} {x : AV} {l : List AV} : Qhi n (x :: l) = (n, x) :: Qhi (n + 1) l := (rfl)
abbrev jm (d x : Nat) (k : List Nat) : SOper := ⟨some d, .mv (.v x), none, k⟩
abbrev jn (d : Nat) (o : SOp) (k : List Nat) : SOper := ⟨some d, o, none, k⟩
abbrev jf (d i x : Nat) (k : List Nat) : SOper := ⟨some d, .faddr i (.v x), none, k⟩
abbrev jl (d x : Nat) (k : List Nat) : SOper := ⟨some d, .load1 (.v x), none, k⟩
abbrev jh (d t : Nat) (o : SOp) (k : List Nat) : SOper := ⟨some d, o, some (t, false), k⟩
abbrev jt (d t : Nat) (o : SOp) (k : List Nat) : SOper := ⟨some d, o, some (t, true), k⟩
abbrev jL (d n x : Nat) (k : List Nat) : SOper := ⟨some d, .loadN n (.v x), none, k⟩
abbrev jb (d : Nat) (o : BinOp) (x y : Nat) (k : List Nat) : SOper := ⟨some d, .bin o (.v x) (.v y), none, k⟩
abbrev jc (d : Nat) (o : BinOp) (x : Nat) (n : Int) (k : List Nat) : SOper := ⟨some d, .bin o (.v x) (.c (.int .i64 n)), none, k⟩
abbrev ja (d n x y : Nat) (k : List Nat) : SOper := ⟨some d, .iaddr n (.v x) (.v y), none, k⟩
abbrev jM (d t x : Nat) (k : List Nat) : SOper := ⟨some d, .mv (.v x), some (t, false), k⟩
abbrev jI (d : Nat) (n : Int) (k : List Nat) : SOper := ⟨some d, .mv (.c (.int .i64 n)), none, k⟩
abbrev jp (d x y : Nat) (k : List Nat) : SOper := ⟨some d, .pick (.v x) (.c (.bool true)) (.v y), none, k⟩
abbrev ci (n : Int) : SX := .c (.int .i64 n)
abbrev jq (l : List SOper) (o : List Nat) (c : SCode) : SCode := .seq (.rg l o) c
end Go.Ve

namespace Go.Ve
open Go.RowKit

/-! Rows that are told as a list of one kind. -/
section
variable {α : Type} [Inhabited α] {f : α → List AV} {l : List α} {K : AV → List (Nat × AObj) → Prop} {M : Nat → Option AObj}

theorem Qab {i : Nat} (h : i < l.length) : (l.map f).getD i [] = f (l.getD i default) := by
  simp [h]
omit [Inhabited α] in
theorem Qcc {i : Nat} (h : ¬ i < l.length) : (l.map f).getD i [] = [] := by
  simp [Nat.not_lt.1 h]
theorem G4 {t sz sz' : Nat} {n : Int} : Y6 (Qbs M sz n (.sl t sz' (l.map f))) K = (sz = sz' ∧ 0 ≤ n ∧ n < l.length ∧ K (.pp t (f (l.getD n.toNat default))) []) := by
  simp only [Y6, Qbs, List.length_map, and_assoc]
  refine propext ⟨?_, ?_⟩
  · rintro ⟨h1, h2, h3, h4⟩
    rw [Qab (by omega)] at h4
    exact ⟨h1, h2, h3, h4⟩
  · rintro ⟨h1, h2, h3, h4⟩
    rw [Qab (by omega)]
    exact ⟨h1, h2, h3, h4⟩
theorem JQ {i off : Nat} {new : List AV} (g : α → α) (h : ∀ x, QU (f x) off new = f (g x)) : (l.map f).set i (QU ((l.map f).getD i []) off new) = (l.set i (g (l.getD i default))).map f := by
  by_cases hi : i < l.length
  · rw [Qab hi, h, List.map_set]
  · rw [List.set_eq_of_length_le (by simp; omega), List.set_eq_of_length_le (by omega)]
end
theorem fm0 {β : Type} {p : β → Prop} : (∀ x, x ∈ ([] : List β) → p x) = True := by simp
theorem QsX : (KL []).pre = False := (rfl)
/-! Places, by what they lead to. -/
def QpH (ob : Option AObj) (ver i off : Nat) (k : List AV → Eff) : Eff :=
  match ob with | some (.arr _ cv _ xs) => let r := k ((xs.getD i []).drop off); ⟨ver = cv ∧ r.pre, r.v, r.ups⟩ | _ => bad
def iaO (ob : Option AObj) (sz : Nat) (i : Int) (o ver lo hi : Nat) : Eff :=
  match ob with | some (.arr _ cv sz' _) => ⟨sz = sz' ∧ ver = cv ∧ 0 ≤ i ∧ i < ((hi - lo : Nat) : Int), .elt o ver (lo + i.toNat) 0, []⟩ | _ => bad
section
variable {M : Nat → Option AObj} {k : List AV → Eff} {K : AV → List (Nat × AObj) → Prop}
theorem Vr {o off : Nat} : Y7 M (.ptr o off) k = (match M o with | some (.box ls) => k (ls.drop off) | _ => bad) := (rfl)
theorem QdX {t : Nat} {ls : List AV} : Y7 M (.pp t ls) k = k ls := (rfl)
theorem Vs {o ver i off : Nat} : Y7 M (.elt o ver i off) k = QpH (M o) ver i off k := (rfl)
theorem Vt {sz o ver lo hi : Nat} {n : Int} : Qbs M sz n (.own o ver lo hi) = iaO (M o) sz n o ver lo hi := (rfl)
theorem Vu {sz sz' o ver lo hi e cv : Nat} {n : Int} {xs : List (List AV)} : iaO (some (.arr e cv sz' xs)) sz n o ver lo hi = ⟨sz = sz' ∧ ver = cv ∧ 0 ≤ n ∧ n < ((hi - lo : Nat) : Int), .elt o ver (lo + n.toNat) 0, []⟩ := (rfl)
theorem Qmt {α : Type} [Inhabited α] {f : α → List AV} {l : List α} {e cv sz ver i off : Nat} : Y6 (QpH (some (.arr e cv sz (l.map f))) ver i off KL) K = (ver = cv ∧ i < l.length ∧ Y6 (KL ((f (l.getD i default)).drop off)) K) := by
  simp only [Y6, QpH, and_assoc]
  by_cases h : i < l.length
  · simp only [Qab h, h, true_and]
  · simp only [Qcc h, h, List.drop_nil, QsX, false_and, and_false]
theorem Qmu {α : Type} [Inhabited α] {f : α → List AV} {l : List α} {e cv sz ver i off n : Nat} : Y6 (QpH (some (.arr e cv sz (l.map f))) ver i off fun ls => ⟨n + 1 ≤ ls.length, .agg (ls.take (n + 1)), []⟩) K = (ver = cv ∧ i < l.length ∧ Y6 ⟨n + 1 ≤ ((f (l.getD i default)).drop off).length, .agg (((f (l.getD i default)).drop off).take (n + 1)), []⟩ K) := by
  simp only [Y6, QpH, and_assoc]
  by_cases h : i < l.length
  · simp only [Qab h, h, true_and]
  · simp only [Qcc h, h, List.drop_nil, List.length_nil, false_and, and_false, Nat.not_succ_le_zero, Nat.add_one_ne_zero, Nat.le_zero_eq]
end
theorem Qmv {x : AV} {l new : List AV} {n : Nat} : QU (x :: l) (n + 1) new = x :: QU l n new := by simp [QU, Nat.add_right_comm]
theorem Qmw {x y : AV} {l new : List AV} : QU (x :: l) 0 (y :: new) = y :: QU l 0 new := by simp [QU]
theorem Qmx {l : List AV} : QU l 0 [] = l := by simp [QU]

/-! What a function gives back. -/
theorem Qmy {k : Nat} {r : AV} {st : St} : Qle [.t k] r [] .ret st = (getE st.E k = r ∧ Qd [] r = true ∧ keepB st.M [] = true) := by
  simp [Qle, Qu, Qng, wkM, dom]
theorem QdY {k : Nat} {r : AV} {st : St} : Qle [.t k] r [] .normal st = (getE st.E k = r ∧ Qd [] r = true ∧ keepB st.M [] = true) := by
  simp [Qle, Qu, Qng, wkM, dom]
theorem QdZ {M' : List (Nat × AObj)} : keepB [] M' = true := (rfl)
theorem Qd0 {k : Nat} {x : AObj} {M : List (Nat × AObj)} : keepB ((k, x) :: M) [] = (decide (100 ≤ k % 1000) && keepB M []) := by simp [keepB, dom]
theorem Vv {d : List Nat} {k : IntKind} {n : Int} : Qd d (.int k n) = true := (rfl)
theorem G5 {d : List Nat} {b : Bool} : Qd d (.bool b) = true := (rfl)
theorem Vw {d : List Nat} {s : ByteArray} : Qd d (.str s) = true := (rfl)
theorem Qd1 {d : List Nat} {t sz : Nat} {xs : List (List AV)} : Qd d (.sl t sz xs) = true := (rfl)
theorem Vx {d : List Nat} {l : List AV} : Qd d (.agg l) = Qb d l := (rfl)
theorem Vy {d : List Nat} {l : List AV} : Qd d (.tup l) = Qb d l := (rfl)
theorem Qmz {d : List Nat} : Qb d [] = true := (rfl)
theorem QmA {d : List Nat} {x : AV} {l : List AV} : Qb d (x :: l) = (Qd d x && Qb d l) := (rfl)
theorem QmB {k : Nat} {st : St} {v : AV} : Qng st (.t k) v = (getE st.E k = v) := (rfl)
theorem Qd2 {k n : Nat} {st : St} {v : AV} : Qng st (.cN k n) v = (match getE st.E k with
    | .ptr o off => match getM st.M o with | some (.box ls) => off + n ≤ ls.length ∧ v = .agg ((ls.drop off).take n) | _ => False
    | _ => False) := (rfl)
theorem Qd3 {st : St} {vs : List AV} : Qcb st [] vs = (vs = []) := (rfl)
theorem Qd4 {st : St} {x : SRes} {xs : List SRes} {v : AV} {vs : List AV} : Qcb st (x :: xs) (v :: vs) = (Qng st x v ∧ Qcb st xs vs) := by
  simp only [Qcb, List.cons.injEq]
  exact propext ⟨fun ⟨_, _, ⟨h1, h2⟩, h3, h4⟩ => by subst h1; subst h2; exact ⟨h3, h4⟩, fun ⟨h1, h2⟩ => ⟨v, vs, ⟨rfl, rfl⟩, h1, h2⟩⟩
theorem G6 {x y : SRes} {rs : List SRes} {vs : List AV} {st : St} : Qle (x :: y :: rs) (.tup vs) [] .ret st = (Qcb st (x :: y :: rs) vs ∧ Qd [] (.tup vs) = true ∧ keepB st.M [] = true) := by
  simp [Qle, Qu, wkM, dom]
theorem G7 {x : SRes} {r : AV} {st : St} : Qle [x] r [] .ret st = (Qng st x r ∧ Qd [] r = true ∧ keepB st.M [] = true) := by
  simp [Qle, Qu, wkM, dom]
end Go.Ve

namespace Go.Ve
open Go.RowKit

/-! ## one outcome of many: what holds ahead of a code leads to one end -/
section
variable {P : Program} {X : Env P}

/-- The way that a loop takes. -/
inductive Way (body : (XT → St → Prop) → St → Prop) (e : XT) (sf : St) : Nat → St → Prop
  | stop {m : Nat} {st : St} : (∀ Q' : XT → St → Prop, Q' e sf → body Q' st) → e ≠ .normal → Way body e sf m st
  | step {m m' : Nat} {st s1 s2 : St} : (∀ Q' : XT → St → Prop, Q' .normal s1 → body Q' st) → Wk s1 s2 → m' < m → Way body e sf m' s2 → Way body e sf m st

/-- Behind a function of many outcomes. -/
def Quq {α : Type} (res : List SRes) (good : α → Prop) (R : α → AV) (U : α → List (Nat × AObj)) (e : XT) (st : St) : Prop := ∃ a, good a ∧ Qle res (R a) (U a) e st
theorem Qf {α : Type} {res : List SRes} {good : α → Prop} {R : α → AV} {U : α → List (Nat × AObj)} {st : St} : Quq res good R U .ret st = ∃ a, good a ∧ Qle res (R a) (U a) .ret st := (rfl)

end
end Go.Ve

namespace Go.Ve
/-! Loops told by what turns in the state ahead of them. -/
def Qq6 (E : List (Nat × AV)) : List (Nat × AV) → List (Nat × AV)
  | [] => E
  | (k, v) :: r => QiI (Qq6 E r) k v
def Qja (M : List (Nat × AObj)) : List (Nat × AObj) → List (Nat × AObj)
  | [] => M
  | (k, v) :: r => JP (Qja M r) k v
theorem Jr {E : List (Nat × AV)} : Qq6 E [] = E := (rfl)
theorem Js {E r : List (Nat × AV)} {k : Nat} {v : AV} : Qq6 E ((k, v) :: r) = QiI (Qq6 E r) k v := (rfl)
theorem Jt {M : List (Nat × AObj)} : Qja M [] = M := (rfl)
theorem Ju {M r : List (Nat × AObj)} {k : Nat} {v : AObj} : Qja M ((k, v) :: r) = JP (Qja M r) k v := (rfl)
theorem QE {α : Type} (U : α → List (Nat × AV)) (V : α → List (Nat × AObj)) (good : α → Prop) (μ : α → Nat) (a0 : α) {body : (XT → St → Prop) → St → Prop} {Q : XT → St → Prop} {E : List (Nat × AV)} {M : List (Nat × AObj)}
    (h0 : Wk ⟨E, M⟩ ⟨Qq6 E (U a0), Qja M (V a0)⟩) (g0 : good a0)
    (step : ∀ a, good a → ∀ NX : St → Prop, (∀ a' st', Wk st' ⟨Qq6 E (U a'), Qja M (V a')⟩ → good a' → μ a' < μ a → NX st') → body (Qhh NX Q) ⟨Qq6 E (U a), Qja M (V a)⟩) : Qgb body Q ⟨E, M⟩ :=
  Qig (fun a => ⟨Qq6 E (U a), Qja M (V a)⟩) good μ a0 h0 g0 fun a ga => step a ga _ fun a' st' h1 h2 h3 => ⟨μ a', _, h1, ⟨a', rfl, h2, rfl⟩, h3⟩
end Go.Ve

namespace Go.Ve
/-! strings in order -/
def slt (a b : ByteArray) : Prop := Op.bytesLess a.toList b.toList = true
noncomputable instance (a b : ByteArray) : Decidable (slt a b) := Classical.propDecidable _
theorem Qq7 {a b : ByteArray} : (a.toList == b.toList) = decide (a = b) := by
  by_cases h : a = b
  · subst h; simp
  · simp only [h, decide_false, beq_eq_false_iff_ne, ne_eq]
    intro e
    rw [ByteArray.toList_eq, ByteArray.toList_eq] at e
    have := Array.toList_inj.1 e
    cases a; cases b; simp_all
theorem QsY {a b : ByteArray} : Op.bytesLess a.toList b.toList = decide (slt a b) := by
  by_cases h : slt a b
  · have h2 : Op.bytesLess a.toList b.toList = true := h
    simp [h, h2]
  · have h2 : Op.bytesLess a.toList b.toList = false := by simpa [slt] using h
    simp [h, h2]
theorem Qjb : ∀ a : List UInt8, Op.bytesLess a a = false
  | [] => rfl
  | x :: xs => by simp [Op.bytesLess, Qjb xs]
theorem Qlg : ∀ a b : List UInt8, Op.bytesLess a b = true → Op.bytesLess b a = false
  | [], [], h => by cases h
  | [], _ :: _, _ => rfl
  | _ :: _, [], h => by cases h
  | x :: xs, y :: ys, h => by
    simp only [Op.bytesLess, Bool.or_eq_true, Bool.and_eq_true, decide_eq_true_eq, beq_iff_eq] at h
    simp only [Op.bytesLess, Bool.or_eq_false_iff, Bool.and_eq_false_iff, decide_eq_false_iff_not, beq_eq_false_iff_ne]
    rcases h with h | ⟨rfl, h⟩
    · exact ⟨by intro k; exact absurd (UInt8.lt_trans h k) (UInt8.lt_irrefl _), .inl (by intro e; subst e; exact UInt8.lt_irrefl _ h)⟩
    · exact ⟨UInt8.lt_irrefl _, .inr (Qlg xs ys h)⟩
theorem Qlh : ∀ a b : List UInt8, Op.bytesLess a b = true ∨ a = b ∨ Op.bytesLess b a = true
  | [], [] => .inr (.inl rfl)
  | [], _ :: _ => .inl rfl
  | _ :: _, [] => .inr (.inr rfl)
  | x :: xs, y :: ys => by
    simp only [Op.bytesLess, Bool.or_eq_true, Bool.and_eq_true, decide_eq_true_eq, beq_iff_eq, List.cons.injEq]
    rcases (show x < y ∨ x = y ∨ y < x by rcases Nat.lt_trichotomy x.toNat y.toNat with h | h | h; exact .inl h; exact .inr (.inl (UInt8.toNat_inj.1 h)); exact .inr (.inr h)) with h | h | h
    · exact .inl (.inl h)
    · subst h
      rcases Qlh xs ys with h | h | h
      · exact .inl (.inr ⟨rfl, h⟩)
      · exact .inr (.inl ⟨rfl, h⟩)
      · exact .inr (.inr (.inr ⟨rfl, h⟩))
    · exact .inr (.inr (.inl h))
theorem Vz (a : ByteArray) : ¬ slt a a := by unfold slt; rw [Qjb]; simp
theorem Qac {a b : ByteArray} (h : slt a b) : ¬ slt b a := by unfold slt at *; rw [Qlg _ _ h]; simp
theorem Qgd (a b : ByteArray) : slt a b ∨ a = b ∨ slt b a := by
  unfold slt
  rcases Qlh a.toList b.toList with h | h | h
  · exact .inl h
  · refine .inr (.inl ?_)
    have : (a.toList == b.toList) = true := by simp [h]
    rw [Qq7] at this; simpa using this
  · exact .inr (.inr h)
theorem Qcd {a b c : ByteArray} (h : slt a b) (k : slt b c) : slt a c := by
  have key : ∀ a b c : List UInt8, Op.bytesLess a b = true → Op.bytesLess b c = true → Op.bytesLess a c = true := by
    intro a
    induction a with
    | nil => intro b c h k; cases b <;> cases c <;> simp_all [Op.bytesLess]
    | cons x xs ih =>
      intro b c h k
      cases b with
      | nil => simp [Op.bytesLess] at h
      | cons y ys =>
        cases c with
        | nil => simp [Op.bytesLess] at k
        | cons z zs =>
          simp only [Op.bytesLess, Bool.or_eq_true, Bool.and_eq_true, decide_eq_true_eq, beq_iff_eq] at h k ⊢
          rcases h with h | ⟨rfl, h⟩ <;> rcases k with k | ⟨rfl, k⟩
          · exact .inl (UInt8.lt_trans h k)
          · exact .inl h
          · exact .inl k
          · exact .inr ⟨rfl, ih _ _ h k⟩
  exact key _ _ _ h k
theorem QsZ {a b : ByteArray} : (decide (slt a b) || decide (a = b)) = decide (¬ slt b a) := by
  rcases Qgd a b with h | h | h
  · simp [h, Qac h]
  · subst h; simp [Vz]
  · simp [h, Qac h]; rintro rfl; exact Vz _ h
def Qge (c : UInt8) : Prop := (97 ≤ c.toNat ∧ c.toNat ≤ 122) ∨ (48 ≤ c.toNat ∧ c.toNat ≤ 57) ∨ c.toNat = 45
def Ga (s : ByteArray) : Prop := (1 ≤ s.toList.length ∧ s.toList.length ≤ 8) ∧ ∀ i, i < s.toList.length → Qge (s.toList.getD i 0)
noncomputable instance (s : ByteArray) : Decidable (Ga s) := Classical.propDecidable _
def Jw (s : ByteArray) : List AV := [.str s]
def unS : List AV → ByteArray
  | [.str s] => s
  | _ => default
theorem QsM (l : List ByteArray) : (l.map Jw).map unS = l := by
  rw [List.map_map]; exact List.map_id'' (fun s => rfl) l
theorem J4 (l : List ByteArray) : Jh (l.map Jw) := by
  induction l with
  | nil => simp [Jh]
  | cons x l ih => simp only [List.map_cons, Jh]; exact ⟨by simp [Jw, JI, No99], ih⟩
/-- The first Qe5 at which something holds, -1 if there is none. -/
def QhI {α : Type} (p : α → Bool) (l : List α) : Int := match l.findIdx? p with | some i => (i : Int) | none => -1
theorem Qd5 {α : Type} [Inhabited α] {p : α → Bool} {l : List α} {i : Nat} (hi : i < l.length) (h : p (l.getD i default) = true) (k : ∀ j, j < i → p (l.getD j default) = false) : QhI p l = i := by
  have : l.findIdx? p = some i := by
    rw [List.findIdx?_eq_some_iff_getElem]
    refine ⟨hi, by simpa [hi] using h, fun j hj => ?_⟩
    have := k j hj
    have hl : j < l.length := by omega
    simpa [hl] using this
  simp [QhI, this]
theorem VA {α : Type} [Inhabited α] {p : α → Bool} {l : List α} (k : ∀ j, j < l.length → p (l.getD j default) = false) : QhI p l = -1 := by
  have : l.findIdx? p = none := by
    rw [List.findIdx?_eq_none_iff]
    intro x hx
    obtain ⟨j, hj, rfl⟩ := List.mem_iff_getElem.1 hx
    have := k j hj
    simpa [hj] using this
  simp [QhI, this]
theorem Qjc {α : Type} [Inhabited α] (p : α → Bool) (l : List α) : (QhI p l = -1 ∧ ∀ j, j < l.length → p (l.getD j default) = false) ∨ ∃ i : Nat, QhI p l = i ∧ i < l.length ∧ p (l.getD i default) = true ∧ ∀ j, j < i → p (l.getD j default) = false := by
  cases h : l.findIdx? p with
  | none =>
    refine .inl ⟨by simp [QhI, h], fun j hj => ?_⟩
    rw [List.findIdx?_eq_none_iff] at h
    have := h (l.getD j default) (by simp [hj])
    simpa using this
  | some i =>
    rw [List.findIdx?_eq_some_iff_getElem] at h
    obtain ⟨hi, hp, hm⟩ := h
    refine .inr ⟨i, by simp [QhI, List.findIdx?_eq_some_iff_getElem.2 ⟨hi, hp, hm⟩], hi, by simpa [hi] using hp, fun j hj => ?_⟩
    have := hm j hj
    have hl : j < l.length := by omega
    simpa [hl] using this
theorem QnO {α : Type} [Inhabited α] (p : α → Bool) (l : List α) : 0 ≤ QhI p l ↔ ∃ i, i < l.length ∧ p (l.getD i default) = true := by
  rcases Qjc p l with ⟨h, k⟩ | ⟨i, h, hi, hp, k⟩
  · rw [h]; constructor
    · intro h; omega
    · rintro ⟨i, hi, hp⟩; rw [k i hi] at hp; cases hp
  · rw [h]; exact ⟨fun _ => ⟨i, hi, hp⟩, fun _ => by omega⟩
theorem QrX {p q : Prop} [Decidable p] [Decidable q] : (decide p == decide q) = decide (p ↔ q) := by by_cases h : p <;> by_cases k : q <;> simp [h, k]
theorem QpI {b : Bool} {q : Prop} [Decidable q] : (b == decide q) = decide (b = true ↔ q) := by cases b <;> by_cases k : q <;> simp [k]
theorem Qs0 {a b : Bool} {A B : St → Prop} {sa sb : St} : br (.bool (a == b)) A sa B sb = ((a = b → A sa) ∧ (¬ a = b → B sb)) := by cases a <;> cases b <;> simp [br]
theorem QrY {a b : Bool} {A B U : St → Prop} {s : St} : brU (.bool (a == b)) A B U s = ((a = b → A s) ∧ (¬ a = b → B s)) := by cases a <;> cases b <;> simp [brU]
theorem Qs1 {a b : Int} : (a == b) = decide (a = b) := by by_cases h : a = b <;> simp [h]
theorem Qs2 {a b : Int} : (a != b) = decide (¬ a = b) := by by_cases h : a = b <;> simp [h]
theorem QnP {p : Prop} [Decidable p] : (false = decide p) = ¬ p := by by_cases h : p <;> simp [h]
theorem QpJ {p : Prop} [Decidable p] : (true = decide p) = p := by by_cases h : p <;> simp [h]
theorem Qjd {a b : List (Nat × AV)} (h : wkE a b) : ∀ {c : List (Nat × AV)}, wkE b c → wkE a c
  | [], _ => trivial
  | (k, v) :: r, h2 => by
    simp only [wkE] at h2 ⊢
    refine ⟨?_, Qjd h h2.2⟩
    rcases h2.1 with e | e
    · exact .inl e
    · rcases Qkh h k with e2 | e2
      · left; rw [← e, e2]
      · right; rw [e2, e]
theorem Qje {a b : List (Nat × AObj)} (h : wkM a b) : ∀ {c : List (Nat × AObj)}, wkM b c → wkM a c
  | [], _ => trivial
  | (k, v) :: r, h2 => by
    simp only [wkM] at h2 ⊢
    exact ⟨Qie h k v h2.1, Qje h h2.2⟩
theorem Wk.trans {a b c : St} (h : Wk a b) (k : Wk b c) : Wk a c := by
  refine ⟨Qjd h.e k.e, Qje h.m k.m, k.cl, ?_⟩
  have h1 := h.kp
  have h2 := k.kp
  unfold keepB at *
  rw [List.all_eq_true] at *
  intro o ho
  have := h1 o ho
  simp only [Bool.or_eq_true, decide_eq_true_eq] at this ⊢
  rcases this with h3 | h3
  · exact .inl h3
  · have h3' : o ∈ dom b.M := by simpa using h3
    have := h2 o h3'
    simpa only [Bool.or_eq_true, decide_eq_true_eq] using this
theorem QnQ {body : (XT → St → Prop) → St → Prop} {Q : XT → St → Prop} {st st' : St} (h : Wk st st') (hl : Qgb body Q st') : Qgb body Q st := by
  obtain ⟨I, ⟨m0, st0, h1, h2⟩, h3⟩ := hl
  exact ⟨I, ⟨m0, st0, h.trans h1, h2⟩, h3⟩
theorem Qi {st : St} {xs : List SRes} {r : List AV} : (∃ vs, Qcb st xs vs ∧ AV.tup r = AV.tup vs) = Qcb st xs r :=
  propext ⟨fun ⟨vs, h1, h2⟩ => by cases h2; exact h1, fun h => ⟨r, h, rfl⟩⟩
theorem Qw : (decide False || true) = true := rfl
theorem KM {P : Program} {f : FuncId} {args : List AV} {M : Nat → Option AObj} {K : AV → List (Nat × AObj) → Prop} {x : Option (List AV)} : Qi1 P (Env.nil P) f args M K x = Qnx (P := P) f args M K := by
  unfold Qi1 Env.nil
  cases x <;> rfl
mutual
theorem Qli (s : Nat → Nat) : ∀ x : AV, noref x = true → ren s x = x
  | .agg ls, h => by simp only [noref] at h; simp only [ren, XF s ls h]
  | .tup ls, h => by simp only [noref] at h; simp only [ren, XF s ls h]
  | .fn f a b, h => by simp only [noref, Bool.and_eq_true] at h; simp only [ren, XF s a h.1, XF s b h.2]
  | .int .., _ => rfl
  | .bool .., _ => rfl
  | .str .., _ => rfl
  | .sl .., _ => rfl
  | .pp .., _ => rfl
  | .own .., h => by simp [noref] at h
  | .ptr .., h => by simp [noref] at h
  | .elt .., h => by simp [noref] at h
  | .junk, h => by simp [noref] at h
theorem XF (s : Nat → Nat) : ∀ x : List AV, Je x = true → K8 s x = x
  | [], _ => rfl
  | x :: xs, h => by simp only [Je, Bool.and_eq_true] at h; simp only [K8, Qli s x h.1, XF s xs h.2]
end
mutual
theorem Qad (d : List Nat) : ∀ x : AV, noref x = true → Qd d x = true
  | .agg ls, h => by simp only [noref] at h; simp only [Qd, Qa d ls h]
  | .tup ls, h => by simp only [noref] at h; simp only [Qd, Qa d ls h]
  | .fn f a b, h => by simp only [noref, Bool.and_eq_true] at h; simp only [Qd, Qa d a h.1, Qa d b h.2, Bool.and_self]
  | .int .., _ => rfl
  | .bool .., _ => rfl
  | .str .., _ => rfl
  | .sl .., _ => rfl
  | .pp .., _ => rfl
  | .own .., h => by simp [noref] at h
  | .ptr .., h => by simp [noref] at h
  | .elt .., h => by simp [noref] at h
  | .junk, h => by simp [noref] at h
theorem Qa (d : List Nat) : ∀ x : List AV, Je x = true → Qb d x = true
  | [], _ => rfl
  | x :: xs, h => by simp only [Je, Bool.and_eq_true] at h; simp only [Qb, Qad d x h.1, Qa d xs h.2, Bool.and_self]
end
/-- A call that is handed one box, and Q0 it as it was. -/
theorem Qce {P : Program} {f : FuncId} {args0 args ls : List AV} {r : AV} {M : Nat → Option AObj} (o : Nat) (hC : Contract P f args0 [(3, .box ls)] r [(3, .box ls)]) (hl : Je ls = true) (hr : noref r = true)
    (hM : M o = some (.box ls)) (he : K8 (swp 3 o) args0 = args) (ha : Qb [o] args = true) : QbK P f args M r [(o, .box ls)] := by
  have h := hC.ren (swp 3 o) (Ja 3 o)
  have e3 : swp 3 o 3 = o := by simp [swp]
  simp only [Ks, renO, e3, XF _ _ hl, Qli _ _ hr, he] at h
  refine .inl ⟨[(o, .box ls)], h, by simpa using hM, fun q hq => .inl ?_, ?_, ha, ?_, Qad _ _ hr, ?_⟩
  · simp only [List.mem_singleton] at hq; subst hq; simp [dom]
  · simp [dom]
  · simp [Qc, Qa _ _ hl]
  · simp [Qc, Qa _ _ hl]
/-- All ahead of a Qe5, and one more. -/
theorem Q5 {p : Nat → Prop} {i : Nat} (h : ∀ j, j < i → p j) (k : p i) : ∀ j, j < i + 1 → p j := fun j hj => by
  by_cases e : j = i
  · subst e; exact k
  · exact h j (by omega)
attribute [bitvec_to_nat] UW Ql9 Qdp Qdq UX GC UY UZ Qdr Qma Qds Qdt Qdu Qdv Qdw Qdx Qdy Qdz QdA QdB QdC GD GE GF U0 U1 U2 GG GH GI GJ GK GL U3 U4 U5 U6 QrT QrU QsT QtL QtJ U7 Ym Kx Qdo Gx Gy UT Gz UU UV Gw Yl UQ UR Qdl US Qdm Qdn GN GO Qj Qk Yq Yr GS GT GP GQ Ql Qm Qml Qmm Vb Vc QdD U8 U9 Va Vo Vp Vq Yn Yo Yp Qmb Qmc Qmd Qme Y9 GM Qmg Qmf Qmh Ys Vd QdE Vf QdF QdG QdH QdI Vg GU QdJ GV GW GX GY GZ Yt Yu G0 Vh G1 Vi Vj Vk Qmi Qmj QdK G2 QdL Yv QdM Vl Y5 Qmk G3 Ju Jt Js QiL List.length_take Int.toNat_zero List.drop_zero Jr QsW QpG QrW Qup QtK QsV QsU QrV QdN Vm QdO QdP Qmn QdQ QdR Qmo QdS Vn QdT Qmp QdU QdV Qmq Qmr Qms QdW eff Kr JW Vr QdX Vs Vt Vu Qmt Qmu KL Kw G4 Qmv Qmw Qmx W5 pur List.map List.drop List.take List.length List.foldl List.append_eq List.nil_append List.cons_append List.getD_cons_zero List.getD_cons_succ true_and and_true Bool.not_true Bool.not_false Bool.and_true Bool.true_and Bool.and_self true_implies false_implies implies_true decide_eq_true_eq Option.map_some Qg9 fpX SOp.xs oX refs K7 dom Qe6 List.all_nil List.all_cons List.contains_cons List.contains_nil Bool.or_false Bool.false_or List.append_nil fm0 List.set ne_eq not_false_eq_true not_true_eq_false Qmy QdY QdZ Qd0 Vv G5 Vw Qd1 Vx Vy Qmz QmA QmB Qd2 Qd3 Qd4 G6 G7 decide_true AV.bool.injEq AV.int.injEq decide_eq_false_iff_not Int.toNat_natCast List.length_map decide_false Qkf noref flatOk Qc wkM Qq7 Qs1 Qs2 QrX QpI Qs0 QrY QsY QsZ QnP QpJ Classical.not_not
def nlb {a b : Nat} (h : Nat.ble a b = true) : a ≤ b := Nat.le_of_ble_eq_true h
def fmc := @List.forall_mem_cons
end Go.Ve

namespace Go.Ve
open Go.RowKit Go.ChangeShapes Go.WideShapes

/-! ## data that reads, told as abstract values -/
inductive LSh where
  | int (k : IntKind)
  | bool
  | str
  | sl (rs : List LSh)
  deriving Inhabited

mutual
def QiJ : LSh → AV → Prop
  | .int k, x => ∃ n, x = .int k n ∧ (Lit.int k n).wf = true
  | .bool, x => ∃ b, x = .bool b
  | .str, x => ∃ s : ByteArray, x = .str s ∧ s.size ≤ maxLen
  | .sl rs, x => ∃ rows : List (List AV), x = .sl 1 rs.length rows ∧ rows.length ≤ maxLen ∧ ∀ r ∈ rows, Kt rs r
def Kt : List LSh → List AV → Prop
  | [], xs => xs = []
  | l :: ls, xs => ∃ x xs', xs = x :: xs' ∧ QiJ l x ∧ Kt ls xs'
end
def Qjf (P : Program) (sh : TypeId → Option (List LSh)) : Nat → List Field → Option (List LSh)
  | _, [] => some []
  | off, f :: fs => if f.offset = off then (sh f.type).bind fun a => if a.length = P.cellsOf f.type then (Qjf P sh (off + a.length) fs).map (a ++ ·) else none else none
def Qhj (P : Program) : Nat → TypeId → Option (List LSh)
  | 0, _ => none
  | n + 1, t => match P.underlying t with
    | some .bool => some [.bool]
    | some (.int k) => some [.int k]
    | some .string => some [.str]
    | some (.slice e) => (Qhj P n e).bind fun rs => if rs.length = P.cellsOf e ∧ 0 < rs.length then some [.sl rs] else none
    | some (.struct fs) => (Qjf P (Qhj P n) 0 fs.toList).bind fun ls => if ls.length = P.cellsOf t then some ls else none
    | _ => none

theorem Qjg {a b : List LSh} : ∀ {x y : List AV}, Kt a x → Kt b y → Kt (a ++ b) (x ++ y) := by
  induction a with
  | nil => intro x y h h'; simp only [Kt] at h; subst h; exact h'
  | cons l a ih =>
    intro x y h h'
    simp only [Kt] at h
    obtain ⟨z, zs, rfl, h1, h2⟩ := h
    simp only [List.cons_append, Kt]
    exact ⟨z, zs ++ y, rfl, h1, ih h2 h'⟩
theorem QnR {l : LSh} {x : AV} (h : QiJ l x) : isLeaf x = true ∧ noref x = true := by
  cases l <;> simp only [QiJ] at h
  · obtain ⟨n, rfl, _⟩ := h; exact ⟨rfl, rfl⟩
  · obtain ⟨n, rfl⟩ := h; exact ⟨rfl, rfl⟩
  · obtain ⟨n, rfl, _⟩ := h; exact ⟨rfl, rfl⟩
  · obtain ⟨n, rfl, _⟩ := h; exact ⟨rfl, rfl⟩
theorem QmC {a : List LSh} : ∀ {x : List AV}, Kt a x → flatOk x = true := by
  induction a with
  | nil => intro x h; simp only [Kt] at h; subst h; rfl
  | cons l a ih =>
    intro x h; simp only [Kt] at h; obtain ⟨z, zs, rfl, h1, h2⟩ := h
    simp only [flatOk, QnR h1, ih h2, Bool.and_self]

/-- The context of what comes from without. -/
abbrev Qhk (w : World) : Ctx := ⟨fun t _ => t ≠ 98, w, fun _ => none, getM []⟩

section
variable {H : Type} {enc : TypeId × Value → H} {P : Program} {w : World} {base : Nat} {sp : Nat → Bool} {held : Bool}

theorem Qkj {n : Nat} {q : Nat → List AV → List Value → Prop} (h : ∀ i, i < n → ∃ r c, q i r c) : ∃ rs : List (List AV), ∃ css : List (List Value), rs.length = n ∧ css.length = n ∧ ∀ i, i < n → q i (rs.getD i []) (css.getD i []) := by
  induction n with
  | zero => exact ⟨[], [], rfl, rfl, fun i hi => absurd hi (Nat.not_lt_zero _)⟩
  | succ n ih =>
    obtain ⟨rs, css, h1, h2, h3⟩ := ih fun i hi => h i (by omega)
    obtain ⟨r, c, h4⟩ := h n (by omega)
    refine ⟨rs ++ [r], css ++ [c], by simp [h1], by simp [h2], fun i hi => ?_⟩
    by_cases e : i = n
    · subst e
      have e1 : (rs ++ [r]).getD i [] = r := by rw [List.getD_eq_getElem?_getD, List.getElem?_append_right (by omega)]; simp [h1]
      have e2 : (css ++ [c]).getD i [] = c := by rw [List.getD_eq_getElem?_getD, List.getElem?_append_right (by omega)]; simp [h2]
      rw [e1, e2]; exact h4
    · have e1 : (rs ++ [r]).getD i [] = rs.getD i [] := by rw [List.getD_eq_getElem?_getD, List.getElem?_append_left (by omega), ← List.getD_eq_getElem?_getD]
      have e2 : (css ++ [c]).getD i [] = css.getD i [] := by rw [List.getD_eq_getElem?_getD, List.getElem?_append_left (by omega), ← List.getD_eq_getElem?_getD]
      rw [e1, e2]; exact h3 i (by omega)

theorem QeV {C : Ctx} : ∀ {rs : List (List AV)} {css : List (List Value)}, rs.length = css.length → (∀ i, i < rs.length → RelL C (rs.getD i []) (css.getD i [])) → RelLL C rs css
  | [], [], _, _ => RelLL.nil
  | [], _ :: _, h, _ => by simp at h
  | _ :: _, [], h, _ => by simp at h
  | r :: rs, c :: css, h, k => RelLL.cons (by simpa using k 0 (by simp)) (QeV (by simpa using h) fun i hi => by simpa using k (i + 1) (by simpa using hi))

theorem Qgf {fuel : Nat} {sh : TypeId → Option (List LSh)} {cs : List Value}
    (ih : ∀ t ls cs x, sh t = some ls → DataW.trod enc P w base sp held fuel t cs = some x → ∃ avs, Kt ls avs ∧ RelL (Qhk w) avs cs) :
    ∀ (fs : List Field) (off : Nat) (ls : List LSh), Qjf P sh off fs = some ls → (∀ f ∈ fs, ∃ x, DataW.trod enc P w base sp held fuel f.type ((cs.drop f.offset).take (P.cellsOf f.type)) = some x) →
      cs.length = off + ls.length → ∃ avs, Kt ls avs ∧ RelL (Qhk w) avs (cs.drop off)
  | [], off, ls, h, _, hl => by
    simp only [Qjf, Option.some.injEq] at h; subst h
    exact ⟨[], by simp [Kt], by rw [List.drop_eq_nil_of_le (by simp at hl; omega)]; exact RelL.nil⟩
  | f :: fs, off, ls, h, hx, hl => by
    simp only [Qjf] at h
    split at h
    · rename_i ho
      simp only [Option.bind_eq_some_iff] at h
      obtain ⟨a, ha, h⟩ := h
      split at h
      · rename_i hal
        simp only [Option.map_eq_some_iff] at h
        obtain ⟨b, hb, rfl⟩ := h
        obtain ⟨x, hx0⟩ := hx f (by simp)
        obtain ⟨av1, h1, h2⟩ := ih f.type a _ x ha hx0
        obtain ⟨av2, h3, h4⟩ := Qgf ih fs (off + a.length) b hb (fun g hg => hx g (by simp [hg])) (by simp at hl; omega)
        refine ⟨av1 ++ av2, Qjg h1 h3, ?_⟩
        have : cs.drop off = (cs.drop f.offset).take (P.cellsOf f.type) ++ cs.drop (off + a.length) := by
          rw [ho, ← hal, ← List.drop_drop, List.take_append_drop]
        rw [this]; exact h2.append h4
      · cases h
    · cases h

theorem QhJ (hsp : ∀ b, sp b = true) : ∀ (n : Nat) (t : TypeId) (ls : List LSh) (fuel : Nat) (cs : List Value) (x : DataW H × List MemPlace),
    Qhj P n t = some ls → DataW.trod enc P w base sp held fuel t cs = some x → ∃ avs, Kt ls avs ∧ RelL (Qhk w) avs cs := by
  intro n
  induction n with
  | zero => intro t ls fuel cs x h; simp [Qhj] at h
  | succ n ih =>
    intro t ls fuel cs x h hx
    simp only [Qhj] at h
    split at h
    · rename_i ht
      cases h
      obtain ⟨b, rfl, _⟩ := DataW.trod_bool ht hx
      exact ⟨[.bool b], by simp [Kt, QiJ], RelL.cons (by simp [RelV]) RelL.nil⟩
    · rename_i k ht
      cases h
      obtain ⟨b, rfl, _, hw⟩ := DataW.trod_int ht hx
      exact ⟨[.int k b], by simp only [Kt, QiJ]; exact ⟨_, _, rfl, ⟨b, rfl, hw⟩, rfl⟩, RelL.cons (by simp [RelV]) RelL.nil⟩
    · rename_i ht
      cases h
      obtain ⟨b, rfl, _, hw⟩ := DataW.trod_string ht hx
      exact ⟨[.str b], by simp only [Kt, QiJ]; exact ⟨_, _, rfl, ⟨b, rfl, hw⟩, rfl⟩, RelL.cons (by simp [RelV]) RelL.nil⟩
    · rename_i e ht
      simp only [Option.bind_eq_some_iff] at h
      obtain ⟨rs, hrs, h⟩ := h
      split at h
      · rename_i hc
        cases h
        rcases Go.Deep.open_slice ht hx with ⟨rfl, _⟩ | ⟨a, len, cap, m, fu, D, Pl, rfl, _, hl, hm, hmm, _, hel⟩
        · exact ⟨[.sl 1 rs.length []], by simp only [Kt, QiJ]; exact ⟨_, _, rfl, ⟨[], rfl, by simp, by simp⟩, rfl⟩, RelL.cons (by simp [RelV]) RelL.nil⟩
        · rw [hsp] at hmm
          simp only [if_true] at hmm
          subst hmm
          by_cases hcap : m = 0
          · subst hcap
            have hlen0 : len = 0 := by omega
            subst hlen0
            refine ⟨[.sl 1 rs.length []], by simp only [Kt, QiJ]; exact ⟨_, _, rfl, ⟨[], rfl, by simp, by simp⟩, rfl⟩, RelL.cons ?_ RelL.nil⟩
            simp only [RelV]
            exact ⟨by simp, .inl ⟨True.intro, .inr ⟨by omega, a, rfl⟩⟩⟩
          have hsb : a.spot = none ∧ a.block < w.heap.size := by
            obtain ⟨cs', h1, _⟩ := hel 0 (by omega)
            obtain ⟨_, h3, h4⟩ := World.cells?_some h1
            have h5 := h4 0 (by omega)
            have e0 : (a.add (0 * P.cellsOf e)).add 0 = a := by simp [Addr.add]
            rw [e0] at h5
            have h6 : w.cell? a ≠ none := by
              rw [h5]; intro hn
              have := List.getElem?_eq_none_iff.1 hn
              omega
            unfold World.cell? at h6
            split at h6 <;> try exact absurd rfl h6
            rename_i hh
            obtain ⟨b, off, spot⟩ := a
            simp only at hh h6 ⊢
            exact ⟨by first | assumption | (cases spot <;> simp_all), (Array.getElem?_eq_some_iff.1 (by assumption)).1⟩
          obtain ⟨hspot, hblk⟩ := hsb
          obtain ⟨b, off, spot⟩ := a
          simp only at hspot hblk
          subst hspot
          have hlm : len ≤ m := hl
          have one : ∀ i, i < len → ∃ r c, w.cells? base ((⟨b, off, none⟩ : Addr).add (i * P.cellsOf e)) (P.cellsOf e) = some c ∧ Kt rs r ∧ RelL (Qhk w) r c := by
            intro i hi
            obtain ⟨cs', h1, h2⟩ := hel i (by omega)
            obtain ⟨r, h5, h6⟩ := ih e rs fu cs' _ hrs h2
            exact ⟨r, cs', h1, h5, h6⟩
          obtain ⟨rows, css, l1, l2, hall⟩ := Qkj one
          refine ⟨[.sl 1 rs.length rows], ?_, RelL.cons ?_ RelL.nil⟩
          · simp only [Kt, QiJ]
            refine ⟨_, _, rfl, ⟨rows, rfl, by omega, fun r hr => ?_⟩, rfl⟩
            obtain ⟨i, hi⟩ := List.mem_iff_getElem?.1 hr
            have hi' := (List.getElem?_eq_some_iff.1 hi).1
            have := (hall i (by omega)).2.1
            rwa [List.getD_eq_getElem?_getD, hi] at this
          · simp only [RelV]
            refine ⟨fun r hr => ?_, .inr ⟨b, off, m, css, by rw [l1], by omega, ⟨by show (1 : Nat) ≠ 98; omega, hblk, ?_⟩, QeV (by omega) fun i hi => (hall i (by omega)).2.2, fun i r hi => ?_⟩⟩
            · obtain ⟨i, hi⟩ := List.mem_iff_getElem?.1 hr
              have hi' := (List.getElem?_eq_some_iff.1 hi).1
              have := (hall i (by omega)).2.1
              rw [List.getD_eq_getElem?_getD, hi] at this
              exact QmC this
            · rintro ⟨o, v, h1, _⟩; cases h1
            · have hi' := (List.getElem?_eq_some_iff.1 hi).1
              have h1 := (hall i (by omega)).1
              rw [List.getD_eq_getElem?_getD, hi] at h1
              simp only [Option.getD_some] at h1
              obtain ⟨_, h3, h4⟩ := World.cells?_some h1
              refine ⟨by rw [h3, hc.1], fun j c hj => ?_⟩
              have := h4 j (by have := (List.getElem?_eq_some_iff.1 hj).1; omega)
              rw [hj] at this
              rw [hc.1, ← this]
              congr 1
              unfold Addr.add
              by_cases e1 : i * P.cellsOf e = 0 <;> by_cases e2 : j = 0 <;> simp [e1, e2, Nat.add_assoc]
      · cases h
    · rename_i fs ht
      simp only [Option.bind_eq_some_iff] at h
      obtain ⟨ls', hls, h⟩ := h
      split at h
      · rename_i hc
        cases h
        obtain ⟨xs, fu, rfl, _, hl, hlen, hf⟩ := DataW.trod_struct ht hx
        have := Qgf (enc := enc) (base := base) (sp := sp) (held := held) (fuel := fu) (w := w) (cs := cs) (fun t ls cs x h1 h2 => ih t ls fu cs x h1 h2) fs.toList 0 ls hls (fun f hfm => ?_) (by omega)
        · simpa using this
        · obtain ⟨i, hi⟩ := List.mem_iff_getElem?.1 hfm
          have hi' : fs[i]? = some f := by simpa using hi
          have := hf i f hi'
          rw [this]
          have hlt : i < xs.length := by rw [hlen]; exact (Array.getElem?_eq_some_iff.1 hi').1
          exact ⟨xs[i], List.getElem?_eq_getElem hlt⟩
      · cases h
    · cases h
end
end Go.Ve

namespace Go.Ve
open Go.RowKit Go.ChangeShapes Go.WideShapes

/-! ## a law's arguments -/
inductive PSh where
  | one (l : LSh)
  | st (ls : List LSh)
  deriving Inhabited
def QpK : PSh → AV → Prop
  | .one l, x => QiJ l x
  | .st ls, x => ∃ xs, x = .agg xs ∧ Kt ls xs
def Qgg : List PSh → List AV → Prop
  | [], xs => xs = []
  | p :: ps, xs => ∃ x xs', xs = x :: xs' ∧ QpK p x ∧ Qgg ps xs'
def QnS (P : Program) (n : Nat) (t : TypeId) : Option PSh :=
  match P.underlying t with
  | some (.struct _) => (Qhj P n t).map .st
  | some .bool | some (.int _) | some .string | some (.slice _) => match Qhj P n t with
    | some [l] => some (.one l)
    | _ => none
  | _ => none
def Qae (P : Program) (n : Nat) : List TypeId → Option (List PSh)
  | [] => some []
  | t :: ts => match QnS P n t, Qae P n ts with
    | some p, some ps => if P.readableRec t = true ∧ t < P.types.size then some (p :: ps) else none
    | _, _ => none

section
variable {H : Type} {enc : TypeId × Value → H} {P : Program} {w : World}

theorem QpL {n : Nat} {r : Reach} {b0 : Nat} {sp : Nat → Bool} (hsp : ∀ b, sp b = true) {t : TypeId} {s : PSh} {v : Value} {d : DataW H} {p : List MemPlace} (hs : QnS P n t = some s) (hv : Value.okWide P w r b0 t v)
    (h : DataW.Trod enc P w 0 sp true t v d p) : ∃ x, QpK s x ∧ RelV (Qhk w) x v := by
  obtain ⟨fuel, h⟩ := h
  have one : ∀ {l : LSh}, Qhj P n t = some [l] → Cell.okWide P w r b0 t v → (∀ cs, v ≠ .agg cs) → ∃ x, QpK (.one l) x ∧ RelV (Qhk w) x v := by
    intro l hl hc hna
    have hcs : v.cells.toList = [v] := by cases v <;> first | rfl | exact absurd rfl (hna _)
    rw [hcs] at h
    obtain ⟨avs, h1, h2⟩ := QhJ hsp n t [l] fuel [v] _ hl h
    simp only [Kt] at h1
    obtain ⟨x, xs, rfl, h3, rfl⟩ := h1
    simp only [RelL] at h2
    obtain ⟨c, cs, h4, h5, _⟩ := h2
    cases h4
    exact ⟨x, h3, h5⟩
  unfold QnS at hs
  unfold Value.okWide at hv
  split at hs
  · rename_i fs ht
    rw [ht] at hv
    simp only at hv
    obtain ⟨cs, rfl, hsz, ts, _, _, hcells⟩ := hv
    simp only [Option.map_eq_some_iff] at hs
    obtain ⟨ls, hls, rfl⟩ := hs
    obtain ⟨avs, h1, h2⟩ := QhJ hsp n t ls fuel _ _ hls h
    exact ⟨.agg avs, ⟨avs, rfl, h1⟩, by simp only [RelV]; exact ⟨cs.toList, by simp, h2⟩⟩
  all_goals first | (cases hs; done) | skip
  all_goals
    rename_i ht
    rw [ht] at hv
    simp only at hv
    split at hs
    · rename_i l hl
      cases hs
      exact one hl hv (fun cs e => by subst e; simp [Cell.okWide, Cell.ok, ht] at hv)
    · cases hs

theorem Qjh {n : Nat} {r : Reach} {b0 : Nat} {sp : Nat → Bool} (hsp : ∀ b, sp b = true) : ∀ {ts : List TypeId} {ss : List PSh} {vs : List Value} {ds : List (DataW H)} {p : List MemPlace}, Qae P n ts = some ss →
    (∀ (j : Nat) t v, ts[j]? = some t → vs[j]? = some v → Value.okWide P w r b0 t v) → DataW.TrodAll enc P w 0 sp true ts vs ds p → ∃ xs, Qgg ss xs ∧ RelL (Qhk w) xs vs ∧ ds.length = ts.length
  | [], ss, vs, ds, p, hs, hv, h => by
    simp only [Qae, Option.some.injEq] at hs; subst hs
    cases vs <;> cases ds <;> simp only [DataW.TrodAll] at h
    exact ⟨[], by simp [Qgg], RelL.nil, rfl⟩
  | t :: ts, ss, vs, ds, p, hs, hv, h => by
    simp only [Qae] at hs
    split at hs
    · rename_i s ss' h1 h2
      split at hs
      · cases hs
        cases vs with
        | nil => cases ds <;> simp only [DataW.TrodAll] at h
        | cons v vs =>
          cases ds with
          | nil => simp only [DataW.TrodAll] at h
          | cons d ds =>
            simp only [DataW.TrodAll] at h
            obtain ⟨p1, q1, h3, h4, _⟩ := h
            obtain ⟨x, h5, h6⟩ := QpL hsp h1 (hv 0 t v rfl rfl) h3
            obtain ⟨xs, h7, h8, h9⟩ := Qjh hsp h2 (fun j t v e1 e2 => hv (j + 1) t v (by simpa using e1) (by simpa using e2)) h4
            exact ⟨x :: xs, by simp only [Qgg]; exact ⟨x, xs, rfl, h5, h7⟩, RelL.cons h6 h8, by simp [h9]⟩
      · cases hs
    · cases hs

theorem Qji {n : Nat} (hl : laidOutB P = true) {W' : World} (hb : Below w.heap.size w W') : ∀ {ts : List TypeId} {ss : List PSh} {vs : List Value} {ds : List (DataW H)} {p : List MemPlace}, Qae P n ts = some ss →
    DataW.TrodAll enc P w 0 (fun _ => true) true ts vs ds p → DataW.TrodAll enc P W' 0 (fun b => decide (b < w.heap.size)) true ts vs ds p
  | [], ss, vs, ds, p, hs, h => by
    cases vs <;> cases ds <;> simp only [DataW.TrodAll] at h ⊢
    exact h
  | t :: ts, ss, vs, ds, p, hs, h => by
    simp only [Qae] at hs
    split at hs
    · rename_i s ss' h1 h2
      split at hs
      · rename_i hr
        cases vs with
        | nil => cases ds <;> simp only [DataW.TrodAll] at h
        | cons v vs =>
          cases ds with
          | nil => simp only [DataW.TrodAll] at h
          | cons d ds =>
            simp only [DataW.TrodAll] at h ⊢
            obtain ⟨p1, q1, h3, h4, h5⟩ := h
            have lt : ∀ x ∈ p1, x.block < w.heap.size := by obtain ⟨m, hm⟩ := h3; exact DataW.trod_lt m _ _ _ hm
            exact ⟨p1, q1, Below.trod hl hr.1 hr.2 h3 hb lt, Qji hl hb h2 h4, h5⟩
      · cases hs
    · cases hs

theorem QeW : ∀ {ns : List String} {gs : List (DataW H)} {ps : List MemPlace}, DataW.TrodVars enc P w (fun _ => true) ns gs ps → gs.length = ns.length
  | [], [], _, _ => rfl
  | [], _ :: _, _, h => h.elim
  | _ :: _, [], _, h => h.elim
  | n :: ns, d :: ds, ps, h => by
    obtain ⟨g, t, cs, fuel, p, q, h1, h2, h3, h4, hs, e⟩ := h
    simp [QeW hs]

/-- A LAW, out of its contract: the call returns true, and its arguments and the package variables read as they did. -/
theorem QnT {fn : Func} {s : ChangeSpec} {f : FuncId} {n : Nat} {ss : List PSh} (hl : laidOutB P = true) (hs : Qae P n fn.params.toList = some ss) (hvars : varsRowed P s.vars = true)
    (hres : ∀ ds gs : List (DataW H), ds.length = fn.params.size → gs.length = s.vars.length → s.fn H (ds ++ gs) = { results := [.lit (.bool true)], args := ds, vars := gs }) {tb : TypeId} (hr : fn.resultTypes = #[tb]) (hb : P.underlying tb = some .bool)
    (hC : ∀ xs, Qgg ss xs → Contract P f xs [] (.bool true) [])
    (W : World) (base : Nat) (args : Array Value) (ds gs : List (DataW H)) (before : List MemPlace) (hglob : globOk (Qhk W))
    (hval : ∀ (j : Nat) t v, fn.params[j]? = some t → args[j]? = some v → Value.okWide P W .any base t v)
    (hW : DataW.Whole enc P fn.params.toList s.vars false W args.toList ds gs before) (handsOn fresh : Bool) :
    Calls P f args W fun e W' => ∃ v, e = .returned v ∧ s.post enc P fn false fresh handsOn false W args v W' := by
  have hW0 := hW
  obtain ⟨p, q, hA, hV, rfl, hfz, hnd⟩ := hW
  obtain ⟨xs, h1, h2, h3⟩ := Qjh (fun _ => rfl) hs (fun j t v e1 e2 => hval j t v (by simpa using e1) (by simpa using e2)) hA
  have hc := hC xs h1 (Qhk W).io W (Qhk W).loc args.toList ⟨fun b _ => by show (0 : Nat) ≠ 98; omega, fun b h => h rfl⟩
    ⟨(fun o obj h => by simp [getM] at h), (fun o hv h => by cases h), (fun o o' hv hv' b h => by cases h), hglob⟩ h2
  rw [Array.toArray_toList] at hc
  refine hc.mono ?_
  rintro e W' ⟨v, loc', rfl, _, _, hv, hev, _⟩
  simp only [RelV] at hv
  subst hv
  have bel : Below W.heap.size W W' := ⟨hev.os, hev.tape, hev.output, hev.size, fun k hk => hev.block k hk (by rintro ⟨o, v, h, _⟩; cases h)⟩
  have hsz : ds.length = fn.params.size := by rw [h3]; simp
  have hf := hres ds gs hsz (QeW hV)
  refine ⟨_, rfl, ds, gs, _, [], p, q, hW0, ?_, ?_, ?_, bel.frame _, fun h => by cases h⟩
  · rw [hf, hr]
    exact trodAll_mk1 (shut_bool hb _)
  · rw [hf]
    exact Qji hl bel hs hA
  · rw [hf]
    exact Below.trodVars hl bel hvars hV
end
end Go.Ve

namespace Go.Ve
open Go.RowKit

/-! Rows that hold own slices: families of objects. -/
def fam (k i : Nat) : Nat := k + 1000 * (i + 1)
theorem Jf {k i o : Nat} (h : o < 1000) : (fam k i = o) = False := by unfold fam; simp; omega
theorem Q1 {k i o : Nat} (h : o < 1000) : (o = fam k i) = False := by unfold fam; simp; omega
theorem Qaf {k i : Nat} (h : k < 1000) : fam k i % 1000 = k := by unfold fam; omega
/-- A row of a name and an own slice. -/
structure NRow where
  nm : ByteArray
  n : Nat
  o : Nat
  ob : AObj
  deriving Inhabited
def NRow.row (r : NRow) : List AV := [.str r.nm, .own r.o 0 0 r.n]
theorem Jd {A B : List (Nat × AObj)} {o : Nat} (h : getM A o = none) : getM (A ++ B) o = getM B o := by
  rw [JK, h]; rfl
theorem Ke {A B : List (Nat × AObj)} {o : Nat} {x : AObj} (h : getM A o = some x) : getM (A ++ B) o = some x := by
  rw [JK, h]; rfl
theorem Yw {A B : List (Nat × AObj)} {o : Nat} {x : AObj} (h : getM A o = none) : JP (A ++ B) o x = A ++ JP B o x := by
  induction A with
  | nil => rfl
  | cons p A ih =>
    obtain ⟨k, y⟩ := p
    simp only [getM] at h
    split at h
    · cases h
    · rename_i hne
      simp only [List.cons_append, JP, if_neg hne, ih h]
theorem Xr {A : List (Nat × AObj)} {o : Nat} {x : AObj} (h : getM A o = none) : JP A o x = A ++ [(o, x)] := by
  have := Yw (B := []) (x := x) h
  rw [List.append_nil] at this; exact this
theorem Qkk {M A B : List (Nat × AObj)} : wkM M (A ++ B) ↔ wkM M A ∧ wkM M B := by
  induction A with
  | nil => simp [wkM]
  | cons p A ih => obtain ⟨k, v⟩ := p; simp only [List.cons_append, wkM, ih, and_assoc]
theorem Q4 {A B : List (Nat × AObj)} (h : ∀ p ∈ B, getM A p.1 = some p.2) : wkM A B := by
  induction B with
  | nil => exact trivial
  | cons p B ih => obtain ⟨k, v⟩ := p; exact ⟨h (k, v) (by simp), ih fun p hp => h p (by simp [hp])⟩

theorem Qkl {A B : List (Nat × AObj)} : dom (A ++ B) = dom A ++ dom B := by simp [dom]
theorem KU {a b k i : Nat} (ha : a < 1000) (hb : b < 1000) : swp a b (fam k i) = fam k i := by
  unfold swp
  rw [if_neg (by simp [Jf ha]), if_neg (by simp [Jf hb])]
def NRow.ren (s : Nat → Nat) (r : NRow) : NRow := ⟨r.nm, r.n, s r.o, renO s r.ob⟩
theorem QaZ {s : Nat → Nat} {A B : List (Nat × AObj)} : Ks s (A ++ B) = Ks s A ++ Ks s B := by
  induction A with
  | nil => rfl
  | cons p A ih => obtain ⟨k, x⟩ := p; simp only [List.cons_append, Ks, ih]
/-! A memory whose tail is of families. -/
def QpM (T : List (Nat × AObj)) : Prop := ∀ p ∈ T, 1000 ≤ p.1
theorem gB0 {T : List (Nat × AObj)} {o : Nat} (h : QpM T) (ho : o < 1000) : getM T o = none := by
  cases hg : getM T o with
  | none => rfl
  | some x => have := h _ (Ku hg); simp only at this; omega
theorem gB {T B : List (Nat × AObj)} {o : Nat} (h : QpM T) (ho : o < 1000) : getM (T ++ B) o = getM B o := Jd (gB0 h ho)
theorem sB {T B : List (Nat × AObj)} {o : Nat} {x : AObj} (h : QpM T) (ho : o < 1000) : JP (T ++ B) o x = T ++ JP B o x := Yw (gB0 h ho)
theorem sB0 {T : List (Nat × AObj)} {o : Nat} {x : AObj} (h : QpM T) (ho : o < 1000) : JP T o x = T ++ [(o, x)] := Xr (gB0 h ho)
/-- New objects of distinct numbers. -/
theorem aU {M U : List (Nat × AObj)} (h1 : ∀ p ∈ U, getM M p.1 = none) (h2 : U.Pairwise fun a b => a.1 ≠ b.1) : QR M U = M ++ U.reverse := by
  induction U with
  | nil => simp [QR]
  | cons p U ih =>
    rw [List.pairwise_cons] at h2
    have := ih (fun q hq => h1 q (by simp [hq])) h2.2
    show JP (QR M U) p.1 p.2 = _
    rw [this, Xr, List.reverse_cons, List.append_assoc]
    rw [Jd (h1 p (by simp))]
    cases hg : getM U.reverse p.1 with
    | none => rfl
    | some x =>
      have := Ku hg
      rw [List.mem_reverse] at this
      exact absurd rfl (h2.1 (p.1, x) this)
theorem Wl {U : List (Nat × AObj)} (h2 : U.Pairwise fun a b => a.1 ≠ b.1) (o : Nat) : getM U.reverse o = getM U o := by
  induction U with
  | nil => rfl
  | cons p U ih =>
    rw [List.pairwise_cons] at h2
    rw [List.reverse_cons, JK, ih h2.2]
    obtain ⟨k, x⟩ := p
    simp only [getM]
    by_cases e : o = k
    · subst e
      rw [if_pos rfl, if_pos rfl]
      cases hg : getM U o with
      | none => rfl
      | some y => exact absurd rfl (h2.1 (o, y) (Ku hg))
    · rw [if_neg e, if_neg e]; cases getM U o <;> rfl
/-- All its numbers are of the function's own. -/
def YJ (T : List (Nat × AObj)) : Prop := ∀ p ∈ T, 100 ≤ p.1 % 1000
theorem G8 : YJ [] := fun p hp => by cases hp
theorem QY {o : Nat} {x : AObj} {T : List (Nat × AObj)} (h : 100 ≤ o % 1000) (ht : YJ T) : YJ ((o, x) :: T) := fun p hp => by
  rcases List.mem_cons.1 hp with rfl | hp
  · exact h
  · exact ht p hp
theorem KQ {A B : List (Nat × AObj)} (ha : YJ A) (hb : YJ B) : YJ (A ++ B) := fun p hp => (List.mem_append.1 hp).elim (ha p) (hb p)
theorem JX {M M' : List (Nat × AObj)} (h : YJ M) : keepB M M' = true := by
  unfold keepB
  rw [List.all_eq_true]
  intro o ho
  obtain ⟨p, hp, rfl⟩ := List.mem_map.1 ho
  simp [h p hp]

/-! ## contracts that forget -/
/-- What a call Q0 of the objects is forgotten. -/
theorem Contract.gone {P : Program} {f : FuncId} {args : List AV} {pre post : List (Nat × AObj)} {r : AV} (hC : Contract P f args pre r post) (hr : noref r = true) :
    Contract P f args pre r (post.map fun p => (p.1, .gone)) := by
  intro io w loc vs hio hwf hargs
  refine (hC io w loc vs hio hwf hargs).mono ?_
  rintro e w' ⟨v, loc', rfl, hwf', hX, hv, hev, hnew⟩
  have hg : ∀ o, getM (post.map fun p => (p.1, AObj.gone)) o = (getM post o).map fun _ => .gone := fun o => by
    induction post with
    | nil => rfl
    | cons p l ih =>
      obtain ⟨k, x⟩ := p
      simp only [List.map_cons, getM]
      split
      · rfl
      · clear hC hwf' hX hv; exact ih_aux l o
  have hno : ∀ b, ¬ Ctx.ownB ⟨io, w', fun o => (loc' o).map fun _ => Value.tuple #[], getM (post.map fun p => (p.1, AObj.gone))⟩ b := by
    rintro b ⟨o, x, h1, h2⟩
    have h1 : (loc' o).map (fun _ => Value.tuple #[]) = some x := h1
    cases hl : loc' o with
    | none => rw [hl] at h1; cases h1
    | some y => rw [hl] at h1; cases h1; cases h2
  have hok : ∀ t b, Ctx.ok ⟨io, w', loc', getM post⟩ t b → Ctx.ok ⟨io, w', fun o => (loc' o).map fun _ => Value.tuple #[], getM (post.map fun p => (p.1, AObj.gone))⟩ t b := fun t b h => ⟨h.1, h.2.1, hno b⟩
  refine ⟨v, fun o => (loc' o).map fun _ => Value.tuple #[], rfl, ⟨fun o obj h => ?_, fun o x h => ?_, fun o o' x y b h1 h2 h3 h4 => ?_, globOk.okx ⟨fun t b h => ⟨hok t b h, rfl⟩⟩ hwf'.glob⟩, ⟨fun t b h => ?_, fun o obj hv0 h1 h2 => ?_⟩, RelV.norefs ⟨fun t b h => ⟨hok t b h, rfl⟩⟩ _ _ hr hv, hev, fun o x b h1 h2 => ?_⟩
  · have h : getM (post.map fun p => (p.1, AObj.gone)) o = some obj := h
    rw [hg] at h
    cases hm : getM post o with
    | none => rw [hm] at h; cases h
    | some y =>
      rw [hm] at h; cases h
      obtain ⟨x, h1, _⟩ := hwf'.obj o y hm
      have h1 : loc' o = some x := h1
      exact ⟨.tuple #[], by show (loc' o).map _ = _; rw [h1]; rfl, rfl⟩
  · have h : (loc' o).map (fun _ => Value.tuple #[]) = some x := h
    cases hl : loc' o with
    | none => rw [hl] at h; cases h
    | some y =>
      obtain ⟨obj, ho⟩ := hwf'.dom o y hl
      have ho : getM post o = some obj := ho
      exact ⟨.gone, by show getM (post.map fun p => (p.1, AObj.gone)) o = _; rw [hg, ho]; rfl⟩
  · exact absurd ⟨o, x, h1, h3⟩ (hno b)
  · obtain ⟨h1, h2⟩ := hX.ok t b h
    exact ⟨hok t b h1, h2⟩
  · obtain ⟨obj', x, h3, h4, _⟩ := hX.refs o obj hv0 h1 h2
    have h3 : getM post o = some obj' := h3
    have h4 : loc' o = some x := h4
    exact ⟨.gone, .tuple #[], by show getM (post.map fun p => (p.1, AObj.gone)) o = _; rw [hg, h3]; rfl, by show (loc' o).map _ = _; rw [h4]; rfl, by cases obj <;> trivial⟩
  · exact absurd ⟨o, x, h1, h2⟩ (hno b)
where ih_aux : ∀ (l : List (Nat × AObj)) (o : Nat), getM (l.map fun p => (p.1, AObj.gone)) o = (getM l o).map fun _ => .gone
  | [], _ => rfl
  | (k, x) :: l, o => by
    simp only [List.map_cons, getM]
    split
    · rfl
    · exact ih_aux l o

mutual
/-- Every slice from without told as one of kind 0. -/
def tag0 : AV → AV
  | .sl _ sz xs => .sl 0 sz (Zm xs)
  | .pp _ ls => .pp 0 (Yz ls)
  | .agg ls => .agg (Yz ls)
  | .tup ls => .tup (Yz ls)
  | .fn f a b => .fn f (Yz a) (Yz b)
  | x => x
def Yz : List AV → List AV
  | [] => []
  | x :: xs => tag0 x :: Yz xs
def Zm : List (List AV) → List (List AV)
  | [] => []
  | x :: xs => Yz x :: Zm xs
end
mutual
def QmD : AV → Bool
  | .sl t _ xs => t != 98 && Qag xs
  | .pp t ls => t != 98 && Xv ls
  | .agg ls => Xv ls
  | .tup ls => Xv ls
  | .fn _ a b => Xv a && Xv b
  | _ => true
def Xv : List AV → Bool
  | [] => true
  | x :: xs => QmD x && Xv xs
def Qag : List (List AV) → Bool
  | [] => true
  | x :: xs => Xv x && Qag xs
end
mutual
theorem QnU : ∀ x : AV, noref x = true → noref (tag0 x) = true
  | .agg ls, h => by simp only [noref] at h; simp only [tag0, noref]; exact Qcf ls h
  | .tup ls, h => by simp only [noref] at h; simp only [tag0, noref]; exact Qcf ls h
  | .fn f a b, h => by simp only [noref, Bool.and_eq_true] at h; simp only [tag0, noref, Bool.and_eq_true]; exact ⟨Qcf a h.1, Qcf b h.2⟩
  | .int .., _ => rfl
  | .bool .., _ => rfl
  | .str .., _ => rfl
  | .sl .., _ => by simp only [tag0, noref]
  | .pp .., _ => by simp only [tag0, noref]
  | .own .., h => by simp [noref] at h
  | .ptr .., h => by simp [noref] at h
  | .elt .., h => by simp [noref] at h
  | .junk, h => by simp [noref] at h
theorem Qcf : ∀ x : List AV, Je x = true → Je (Yz x) = true
  | [], _ => rfl
  | x :: xs, h => by simp only [Je, Bool.and_eq_true] at h; simp only [Yz, Je, QnU x h.1, Qcf xs h.2, Bool.and_self]
end
theorem QnV {x : AV} (h : isLeaf x = true) : isLeaf (tag0 x) = true := by
  cases x <;> first | (simp [isLeaf] at h; done) | (simp only [tag0]; rfl)
theorem Qd6 : ∀ {l : List AV}, flatOk l = true → flatOk (Yz l) = true
  | [], _ => rfl
  | x :: xs, h => by
    simp only [flatOk, Bool.and_eq_true] at h
    simp only [Yz, flatOk, QnV h.1.1, QnU x h.1.2, Qd6 h.2, Bool.and_self]
theorem VB : ∀ xs : List (List AV), Zm xs = xs.map Yz
  | [] => rfl
  | x :: xs => by simp only [Zm, List.map_cons, VB xs]
/-- A context that takes all blocks from without as of kind 0 too. -/
def io0 (io : Nat → Nat → Prop) (t b : Nat) : Prop := io t b ∨ (t = 0 ∧ ∃ s, s ≠ 98 ∧ io s b)
section
variable {io : Nat → Nat → Prop} {w : World} {loc : Nat → Option Value} {M : Nat → Option AObj}
theorem Qq8 {t b : Nat} (h : Ctx.ok ⟨io, w, loc, M⟩ t b) : Ctx.ok ⟨io0 io, w, loc, M⟩ t b := ⟨.inl h.1, h.2⟩
theorem Qud {t b : Nat} (ht : t ≠ 98) (h : Ctx.ok ⟨io, w, loc, M⟩ t b) : Ctx.ok ⟨io0 io, w, loc, M⟩ 0 b := ⟨.inr ⟨rfl, t, ht, h.1⟩, h.2⟩
mutual
theorem RelV.tag0 : ∀ (x : AV) (v : Value), QmD x = true → RelV ⟨io, w, loc, M⟩ x v → RelV ⟨io0 io, w, loc, M⟩ (Go.Ve.tag0 x) v
  | .int .., v, _, hv => by simpa only [RelV, Go.Ve.tag0] using hv
  | .bool .., v, _, hv => by simpa only [RelV, Go.Ve.tag0] using hv
  | .str .., v, _, hv => by simpa only [RelV, Go.Ve.tag0] using hv
  | .agg ls, v, h, hv => by
    simp only [QmD] at h
    simp only [RelV, Go.Ve.tag0] at hv ⊢; obtain ⟨cs, rfl, h1⟩ := hv; exact ⟨cs, rfl, RelL.tag0 ls cs h h1⟩
  | .tup ls, v, h, hv => by
    simp only [QmD] at h
    simp only [RelV, Go.Ve.tag0] at hv ⊢; obtain ⟨cs, rfl, h1⟩ := hv; exact ⟨cs, rfl, RelL.tag0 ls cs h h1⟩
  | .sl t sz xs, v, h, hv => by
    simp only [QmD, Bool.and_eq_true, bne_iff_ne, ne_eq] at h
    simp only [RelV, Go.Ve.tag0] at hv ⊢
    obtain ⟨hn, hv⟩ := hv
    refine ⟨fun r hr => ?_, ?_⟩
    · rw [VB] at hr
      obtain ⟨r0, h0, rfl⟩ := List.mem_map.1 hr
      exact Qd6 (hn r0 h0)
    · have hlen : (Zm xs).length = xs.length := by rw [VB, List.length_map]
      rcases hv with ⟨rfl, hv⟩ | ⟨b, off, cap, css, h1, h2, h3, h4, h5⟩
      · refine .inl ⟨rfl, ?_⟩
        rcases hv with hv | ⟨_, a, hv⟩
        · exact .inl hv
        · exact .inr ⟨by omega, a, hv⟩
      · exact .inr ⟨b, off, cap, css, by rw [hlen]; exact h1, by rw [hlen]; exact h2, Qud h.1 h3, RelLL.tag0 xs css h.2 h4, h5⟩
  | .own o ver lo hi, v, _, hv => by simpa only [RelV, Go.Ve.tag0] using hv
  | .ptr o off, v, _, hv => by simpa only [RelV, Go.Ve.tag0] using hv
  | .elt o ver i off, v, _, hv => by simpa only [RelV, Go.Ve.tag0] using hv
  | .pp t ls, v, h, hv => by
    simp only [QmD, Bool.and_eq_true, bne_iff_ne, ne_eq] at h
    simp only [RelV, Go.Ve.tag0] at hv ⊢
    obtain ⟨hn, b, off, cs, h1, h2, h3, h4⟩ := hv
    exact ⟨Qd6 hn, b, off, cs, h1, Qud h.1 h2, RelL.tag0 ls cs h.2 h3, h4⟩
  | .fn f a b, v, h, hv => by
    simp only [QmD, Bool.and_eq_true] at h
    simp only [RelV, Go.Ve.tag0] at hv ⊢
    obtain ⟨us, bs, h1, h2, h3⟩ := hv
    exact ⟨us, bs, h1, RelL.tag0 a us h.1 h2, RelL.tag0 b bs h.2 h3⟩
  | .junk, _, _, _ => by simp only [RelV, Go.Ve.tag0]
theorem RelL.tag0 : ∀ (x : List AV) (v : List Value), Xv x = true → RelL ⟨io, w, loc, M⟩ x v → RelL ⟨io0 io, w, loc, M⟩ (Yz x) v
  | [], v, _, hv => by simpa only [RelL, Yz] using hv
  | x :: xs, v, h, hv => by
    simp only [Xv, Bool.and_eq_true] at h
    simp only [RelL, Yz] at hv ⊢
    obtain ⟨c, cs, rfl, h1, h2⟩ := hv
    exact ⟨c, cs, rfl, RelV.tag0 x c h.1 h1, RelL.tag0 xs cs h.2 h2⟩
theorem RelLL.tag0 : ∀ (x : List (List AV)) (v : List (List Value)), Qag x = true → RelLL ⟨io, w, loc, M⟩ x v → RelLL ⟨io0 io, w, loc, M⟩ (Zm x) v
  | [], v, _, hv => by simpa only [RelLL, Zm] using hv
  | x :: xs, v, h, hv => by
    simp only [Qag, Bool.and_eq_true] at h
    simp only [RelLL, Zm] at hv ⊢
    obtain ⟨c, cs, rfl, h1, h2⟩ := hv
    exact ⟨c, cs, rfl, RelL.tag0 x c h.1 h1, RelLL.tag0 xs cs h.2 h2⟩
end
end
mutual
/-- Nothing from without in it. -/
def Qcg : AV → Bool
  | .sl t _ xs => t != 0 && xs.isEmpty
  | .pp .. | .fn .. => false
  | .agg ls => Wy ls
  | .tup ls => Wy ls
  | _ => true
def Wy : List AV → Bool
  | [] => true
  | x :: xs => Qcg x && Wy xs
end
def Qch : AObj → Bool
  | .box ls => Wy ls
  | .arr _ _ _ xs => xs.all Wy
  | .gone => true
  | .mp .. => false
section
variable {io io' : Nat → Nat → Prop} {w : World} {loc : Nat → Option Value} {M : Nat → Option AObj} (hio : ∀ t b, t ≠ 0 → io t b → io' t b)
include hio
mutual
theorem RelV.plain : ∀ (x : AV) (v : Value), Qcg x = true → RelV ⟨io, w, loc, M⟩ x v → RelV ⟨io', w, loc, M⟩ x v
  | .int .., v, _, hv => by simpa only [RelV] using hv
  | .bool .., v, _, hv => by simpa only [RelV] using hv
  | .str .., v, _, hv => by simpa only [RelV] using hv
  | .agg ls, v, h, hv => by
    simp only [Qcg] at h
    simp only [RelV] at hv ⊢; obtain ⟨cs, rfl, h1⟩ := hv; exact ⟨cs, rfl, RelL.plain ls cs h h1⟩
  | .tup ls, v, h, hv => by
    simp only [Qcg] at h
    simp only [RelV] at hv ⊢; obtain ⟨cs, rfl, h1⟩ := hv; exact ⟨cs, rfl, RelL.plain ls cs h h1⟩
  | .sl t sz xs, v, h, hv => by
    simp only [Qcg, Bool.and_eq_true, bne_iff_ne, ne_eq, List.isEmpty_iff] at h
    obtain ⟨ht, rfl⟩ := h
    simp only [RelV] at hv ⊢
    refine ⟨hv.1, hv.2.imp id ?_⟩
    rintro ⟨b, off, cap, css, h1, h2, h3, h4, h5⟩
    exact ⟨b, off, cap, css, h1, h2, ⟨hio t b ht h3.1, h3.2⟩, by simpa only [RelLL] using h4, h5⟩
  | .own o ver lo hi, v, _, hv => by simpa only [RelV] using hv
  | .ptr o off, v, _, hv => by simpa only [RelV] using hv
  | .elt o ver i off, v, _, hv => by simpa only [RelV] using hv
  | .pp t ls, v, h, hv => by simp [Qcg] at h
  | .fn f a b, v, h, hv => by simp [Qcg] at h
  | .junk, _, _, _ => by simp only [RelV]
theorem RelL.plain : ∀ (x : List AV) (v : List Value), Wy x = true → RelL ⟨io, w, loc, M⟩ x v → RelL ⟨io', w, loc, M⟩ x v
  | [], v, _, hv => by simpa only [RelL] using hv
  | x :: xs, v, h, hv => by
    simp only [Wy, Bool.and_eq_true] at h
    simp only [RelL] at hv ⊢
    obtain ⟨c, cs, rfl, h1, h2⟩ := hv
    exact ⟨c, cs, rfl, RelV.plain x c h.1 h1, RelL.plain xs cs h.2 h2⟩
end
theorem RelLL.plain : ∀ {x : List (List AV)} {v : List (List Value)}, x.all Wy = true → RelLL ⟨io, w, loc, M⟩ x v → RelLL ⟨io', w, loc, M⟩ x v
  | [], v, _, hv => by simpa only [RelLL] using hv
  | x :: xs, v, h, hv => by
    simp only [List.all_cons, Bool.and_eq_true] at h
    simp only [RelLL] at hv ⊢
    obtain ⟨c, cs, rfl, h1, h2⟩ := hv
    exact ⟨c, cs, rfl, RelL.plain hio x c h.1 h1, RelLL.plain h.2 h2⟩
theorem objAt.plain {hv : Value} {obj : AObj} (hp : Qch obj = true) (h : objAt ⟨io, w, loc, M⟩ hv obj) : objAt ⟨io', w, loc, M⟩ hv obj := by
  cases obj with
  | box ls =>
    obtain ⟨b, cs, ty, rfl, h1, h2, h3⟩ := h
    exact ⟨b, cs, ty, rfl, h1, RelL.plain hio _ _ hp h2, h3⟩
  | arr e ver sz xs =>
    obtain ⟨css, h1, h2, h3, h4⟩ := h
    exact ⟨css, RelLL.plain hio hp h1, h2, h3, h4⟩
  | gone => exact h
  | mp kk es => cases hp
end
/-- A CONTRACT FOR ARGUMENTS OF KIND 0 holds for arguments of any kind, where nothing from without comes back. -/
theorem Contract.tag {P : Program} {f : FuncId} {args : List AV} {post : List (Nat × AObj)} {r : AV} (hC : Contract P f (Yz args) [] r post) (h98 : Xv args = true) (hr : Qcg r = true) (hp : (post.all fun p => Qch p.2) = true) :
    Contract P f args [] r post := by
  intro io w loc vs hio hwf hargs
  have hback : ∀ {t b w loc M}, t ≠ 0 → Ctx.ok ⟨io0 io, w, loc, M⟩ t b → Ctx.ok ⟨io, w, loc, M⟩ t b := fun ht h => ⟨h.1.elim id fun k => absurd k.1 ht, h.2⟩
  have hwf0 : WfM ⟨io0 io, w, loc, getM []⟩ := ⟨fun o obj h => by simp [getM] at h, hwf.dom, hwf.inj, globOk.okx ⟨fun t b h => ⟨Qq8 h, rfl⟩⟩ hwf.glob⟩
  refine (hC (io0 io) w loc vs ⟨fun b hb => .inl (hio.1 b hb), fun b h => h.elim (hio.2 b) fun k => by omega⟩ hwf0 (RelL.tag0 args vs h98 hargs)).mono ?_
  rintro e w' ⟨v, loc', rfl, hwf', hX, hv, hev, hnew⟩
  have hno : ∀ {b}, ¬ Ctx.ownB ⟨io, w, loc, getM []⟩ b := by
    rintro b ⟨o, x, h1, h2⟩
    obtain ⟨obj, ho⟩ := hwf.dom o x h1
    simp [getM] at ho
  have hokb : ∀ t b, Ctx.ok ⟨io, w, loc, getM []⟩ t b → Ctx.ok ⟨io, w', loc', getM post⟩ t b ∧ w'.heap[b]? = w.heap[b]? := fun t b h => by
    obtain ⟨h1, h2⟩ := hX.ok t b (Qq8 h)
    exact ⟨⟨h.1, h1.2⟩, h2⟩
  refine ⟨v, loc', rfl, ⟨fun o obj h => ?_, hwf'.dom, hwf'.inj, globOk.okx ⟨hokb⟩ hwf.glob⟩, ⟨hokb, fun o obj hv0 h1 h2 => by simp [getM] at h1⟩, RelV.plain (fun t b ht h => h.elim id fun k => absurd k.1 ht) _ _ hr hv, hev, hnew⟩
  obtain ⟨x, h1, h2⟩ := hwf'.obj o obj h
  refine ⟨x, h1, objAt.plain (fun t b ht h => h.elim id fun k => absurd k.1 ht) ?_ h2⟩
  rw [List.all_eq_true] at hp
  exact hp (o, obj) (Ku h)
end Go.Ve

namespace Go.Ve
open Go.RowKit
/-- A call that is told by a contract of the library: what it gives is plain, what was there stays. -/
theorem Contract.of_calls {P : Program} {f : FuncId} {args : List AV} {r : AV} {vs : List Value} {v : Value}
    (hargs : ∀ C us, RelL C args us → us = vs) (hr : ∀ C, RelV C r v)
    (h : ∀ w, Calls P f vs.toArray w fun e w' => e = .returned v ∧ Below w.heap.size w w') : Contract P f args [] r [] := by
  intro io w loc us hio hwf ha
  obtain rfl := hargs _ _ ha
  refine (h w).mono ?_
  rintro e w' ⟨rfl, hb⟩
  have hok : ∀ t b, Ctx.ok ⟨io, w, loc, getM []⟩ t b → Ctx.ok ⟨io, w', loc, getM []⟩ t b ∧ w'.heap[b]? = w.heap[b]? := fun t b h =>
    ⟨⟨h.1, Nat.lt_of_lt_of_le h.2.1 hb.size, h.2.2⟩, hb.block b h.2.1⟩
  refine ⟨v, loc, rfl, ⟨fun o obj h => by simp [getM] at h, hwf.dom, hwf.inj, globOk.okx ⟨hok⟩ hwf.glob⟩, ⟨hok, fun o obj hv h => by simp [getM] at h⟩, hr _,
    ⟨hb.os, hb.tape, hb.output, hb.size, fun b h _ => hb.block b h⟩, fun o hv b h1 h2 => .inr ⟨hv, h1, h2⟩⟩
theorem Qs3 (k : IntKind) (n : Int) : ∀ C us, RelL C [.int k n] us → us = [.int k n] := by
  rintro C us ⟨c, cs, rfl, h1, h2⟩
  rw [h1, h2]
theorem QrZ (s t : ByteArray) : ∀ C us, RelL C [.str s, .str t] us → us = [.string s, .string t] := by
  rintro C us ⟨c, cs, rfl, h1, c2, cs2, rfl, h2, h3⟩
  rw [h1, h2, h3]
end Go.Ve

namespace Go.Ve
open Go.RowKit
/-! ## sets of objects that a walk carries along as one -/
def gone (l : List (Nat × AObj)) : List (Nat × AObj) := l.map fun p => (p.1, AObj.gone)
theorem QpN {l : List (Nat × AObj)} : dom (gone l) = dom l := by simp [dom, gone]
theorem QnW {l : List (Nat × AObj)} {d : List Nat} : ((gone l).all fun p => Qc d p.2) = true := by
  rw [List.all_eq_true]
  intro p hp
  obtain ⟨q, _, rfl⟩ := List.mem_map.1 hp
  rfl
theorem Qci {l : List (Nat × AObj)} {p : Nat × AObj} (h : p ∈ gone l) : ∃ x, (p.1, x) ∈ l := by
  obtain ⟨q, hq, rfl⟩ := List.mem_map.1 h
  exact ⟨q.2, hq⟩
theorem QhK {P : Program} {f : FuncId} {args : List AV} {pre : List (Nat × AObj)} {r : AV} {M : Nat → Option AObj} (hC : Contract P f args pre r (gone pre)) (hM : ∀ p ∈ pre, M p.1 = some p.2) (ha : Qb (dom pre) args = true) (hp : (pre.all fun p => Qc (dom pre) p.2) = true) (hr : noref r = true) :
    QbK P f args M r (gone pre) := by
  refine .inl ⟨pre, hC, hM, fun p hp => .inl ?_, ?_, ha, hp, Qad _ _ hr, QnW⟩
  · obtain ⟨x, hx⟩ := Qci hp
    simpa using QbM hx
  · rw [QpN, List.all_eq_true]
    intro o ho; simpa using ho
/-- No object of the set has this number. -/
def Qbj (U : List (Nat × AObj)) (o : Nat) : Prop := ∀ p ∈ U, p.1 ≠ o
/-- Two sets have no number in common. -/
def dis (U V : List (Nat × AObj)) : Prop := ∀ p ∈ U, ∀ q ∈ V, p.1 ≠ q.1
/-- Each number once. -/
def Zb (U : List (Nat × AObj)) : Prop := U.Pairwise fun a b => a.1 ≠ b.1
theorem QnX {U : List (Nat × AObj)} {o : Nat} (h : Qbj U o) : Qbj (gone U) o := fun p hp => by
  obtain ⟨x, hx⟩ := Qci hp
  exact h (p.1, x) hx
theorem Qa0 {U : List (Nat × AObj)} {o : Nat} (h : Qbj U o) : Qbj U.reverse o := fun p hp => h p (List.mem_reverse.1 hp)
theorem K2 {U V : List (Nat × AObj)} (h : dis U V) : dis V U := fun p hp q hq e => h q hq p hp e.symm
theorem Qah {U V : List (Nat × AObj)} (h : dis U V) : dis (gone U) V := fun p hp q hq => by
  obtain ⟨x, hx⟩ := Qci hp
  exact h (p.1, x) hx q hq
theorem QnY {U V : List (Nat × AObj)} (h : dis U V) : dis U (gone V) := K2 (Qah (K2 h))
theorem Qa1 {U V : List (Nat × AObj)} (h : dis U V) : dis U V.reverse := fun p hp q hq => h p hp q (List.mem_reverse.1 hq)
theorem Q9 {U : List (Nat × AObj)} {o : Nat} (h : Qbj U o) : getM U o = none := by
  cases hg : getM U o with
  | none => rfl
  | some x => exact absurd rfl (h _ (Ku hg))
theorem Jz {U B : List (Nat × AObj)} {o : Nat} (h : Qbj U o) : getM (U ++ B) o = getM B o := Jd (Q9 h)
theorem JA {U B : List (Nat × AObj)} {o : Nat} {x : AObj} (h : Qbj U o) : JP (U ++ B) o x = U ++ JP B o x := Yw (Q9 h)
theorem JH {U : List (Nat × AObj)} {o : Nat} {x : AObj} (h : Qbj U o) : JP U o x = U ++ [(o, x)] := Xr (Q9 h)
theorem Qkm {U V : List (Nat × AObj)} (h : dis U V) {p : Nat × AObj} (hp : p ∈ V) : getM U p.1 = none := Q9 fun q hq => h q hq p hp
theorem QF {U : List (Nat × AObj)} (h : Zb U) : ∀ p ∈ U, getM U p.1 = some p.2 := by
  induction U with
  | nil => intro p hp; cases hp
  | cons q U ih =>
    unfold Zb at h
    rw [List.pairwise_cons] at h
    obtain ⟨k, x⟩ := q
    intro p hp
    rcases List.mem_cons.1 hp with rfl | hp
    · simp [getM]
    · simp only [getM]
      rw [if_neg fun e => h.1 p hp e.symm]
      exact ih h.2 p hp
theorem JF {U M : List (Nat × AObj)} {o : Nat} {x : AObj} (h : Qbj U o) : QR ((o, x) :: M) U = (o, x) :: QR M U := by
  induction U with
  | nil => rfl
  | cons p U ih =>
    show JP (QR ((o, x) :: M) U) p.1 p.2 = _
    rw [ih fun q hq => h q (by simp [hq])]
    show JP ((o, x) :: QR M U) p.1 p.2 = (o, x) :: JP (QR M U) p.1 p.2
    simp only [JP]
    rw [if_neg (h p (by simp))]
theorem XG {A U B : List (Nat × AObj)} (h : dis A U) : QR (A ++ B) U = A ++ QR B U := by
  induction A with
  | nil => rfl
  | cons p A ih =>
    obtain ⟨k, x⟩ := p
    rw [List.cons_append, JF, ih fun p hp => h p (by simp [hp])]
    · rfl
    · intro q hq e
      exact h (k, x) (by simp) q hq e.symm
theorem Gb {A U : List (Nat × AObj)} (h : dis A U) : QR A U = A ++ QR [] U := by
  have := XG (B := []) h
  simpa using this
theorem QbP {U B : List (Nat × AObj)} (h : Zb U) : QR (U ++ B) (gone U) = gone U ++ B := by
  induction U with
  | nil => rfl
  | cons p U ih =>
    unfold Zb at h
    rw [List.pairwise_cons] at h
    obtain ⟨k, x⟩ := p
    show JP (QR ((k, x) :: (U ++ B)) (gone U)) k .gone = (k, .gone) :: (gone U ++ B)
    rw [JF, ih h.2]
    · simp [JP]
    · intro q hq e
      obtain ⟨y, hy⟩ := Qci hq
      exact h.1 _ hy e.symm
theorem Qa2 {U : List (Nat × AObj)} (h : Zb U) : QR U (gone U) = gone U := by
  have := QbP (B := []) h
  simpa using this
theorem QnZ {M K : List (Nat × AObj)} (h : ∀ p ∈ K, getM M p.1 = some p.2) : QR M K = M := by
  induction K with
  | nil => rfl
  | cons p K ih =>
    show JP (QR M K) p.1 p.2 = M
    rw [ih fun q hq => h q (by simp [hq])]
    have := h p (by simp)
    clear ih h
    induction M with
    | nil => simp [getM] at this
    | cons q M ih =>
      obtain ⟨k, x⟩ := q
      simp only [getM] at this
      simp only [JP]
      split at this
      · rename_i e; cases this; rw [if_pos e]
      · rename_i e; rw [if_neg e, ih this]
theorem QbQ {U B : List (Nat × AObj)} (h : Zb U) : QR (U ++ B) U = U ++ B := QnZ fun p hp => by
  rw [Ke (QF h p hp)]
theorem Zc {U : List (Nat × AObj)} (h : Zb U) : QR U U = U := QnZ (QF h)
theorem Qih {U : List (Nat × AObj)} (h : Zb U) : Zb U.reverse := by
  unfold Zb; rw [List.pairwise_reverse]
  exact h.imp fun h => Ne.symm h
/-- A set of new objects. -/
theorem VC {U : List (Nat × AObj)} (h : Zb U) : QR [] U.reverse = U := by
  rw [aU (fun p hp => rfl) (Qih h), List.nil_append, List.reverse_reverse]
theorem VD {A B M' : List (Nat × AObj)} (h : keepB A M' = true) : keepB (A ++ B) M' = keepB B M' := by
  unfold keepB at h ⊢
  rw [Qkl, List.all_append, h, Bool.true_and]
theorem Qgh {T : List (Nat × AObj)} (h : YJ T) : YJ (gone T) := fun p hp => by
  obtain ⟨x, hx⟩ := Qci hp
  exact h (p.1, x) hx
theorem Contract.post_eq {P : Program} {f : FuncId} {args : List AV} {pre post post' : List (Nat × AObj)} {r : AV} (h : Contract P f args pre r post) (e : getM post' = getM post) : Contract P f args pre r post' := by
  unfold Contract at h ⊢
  rw [e]; exact h
/-! ## values that are told -/
theorem Qjj (K : Nat → Option AObj) : ∀ {r : List AV}, flatOk r = true → Qnv K r = some r
  | [], _ => rfl
  | x :: xs, h => by
    simp only [flatOk, Bool.and_eq_true] at h
    have ih := Qjj K h.2
    cases x <;> first | (simp [noref] at h; done) | (simp only [Qnv, ih]; rw [if_pos]; simp only [h.1.1, h.1.2, Bool.and_self])
theorem QhL (K : Nat → Option AObj) : ∀ {rs : List (List AV)}, (∀ r ∈ rs, flatOk r = true) → Qhe K rs = some rs
  | [], _ => rfl
  | r :: rs, h => by
    have ih := QhL K (rs := rs) fun x hx => h x (by simp [hx])
    simp only [Qhe, Qjj K (h r (by simp)), ih]
def NRow.ys (r : NRow) : List (List AV) := match r.ob with | .arr _ _ _ ys => ys | _ => []
theorem Qgi {M K : Nat → Option AObj} {o e v sz n : Nat} {rows : List (List AV)} (hM : M o = some (.arr e v sz rows)) (hf : ∀ r ∈ rows, flatOk r = true) (hn : n = rows.length) : UO M K (.own o v 0 n) = some (.sl 99 sz rows) := by
  simp only [UO, hM, if_true, hn, List.take_length, List.drop_zero, QhL K hf, Option.map_some]
theorem JZ {M K : Nat → Option AObj} {x y : AV} {l m : List AV} (h : UO M K x = some y) (h2 : UP M K l = some m) : UP M K (x :: l) = some (y :: m) := by simp only [UP, h, h2]
theorem Qlj {α : Type} {f : Nat → α → List AV} {t : Nat} (h : ∀ x, Yz (f t x) = f 0 x) (l : List α) : Zm (l.map (f t)) = l.map (f 0) := by
  rw [VB, List.map_map]; exact List.map_congr_left fun x _ => h x
theorem Wm {α : Type} {f : α → List AV} (h : ∀ x, Yz (f x) = f x) (l : List α) : Zm (l.map f) = l.map f := by
  rw [VB, List.map_map]; exact List.map_congr_left fun x _ => h x
theorem Gc {α : Type} {f : α → List AV} (h : ∀ x, Xv (f x) = true) (l : List α) : Qag (l.map f) = true := by
  induction l with
  | nil => rfl
  | cons x l ih => simp only [List.map_cons, Qag, h x, ih, Bool.and_self]
/-- A call that looks at objects of the function's own, and may give new ones. -/
theorem Ky {P : Program} {f : FuncId} {args args' : List AV} {r : AV} {news keep : List (Nat × AObj)} {M : Nat → Option AObj} (hC : Contract P f (Yz args') [] r news)
    (hM : ∀ p ∈ keep, M p.1 = some p.2) (hr : UP M (getM keep) args = some args') (h98 : Xv args' = true) (hp : Qcg r = true) (hpo : (news.all fun p => Qch p.2) = true) (hn : ∀ p ∈ news, M p.1 = none)
    (hrf : Qd (dom news) r = true) (hro : (news.all fun p => Qc (dom news) p.2) = true) (h9 : No99 r) (h9o : ∀ p ∈ news, Z8 p.2) : QbK P f args M r (news ++ keep) :=
  .inr (.inr (.inr ⟨args', keep, news, rfl, hM, hr, Contract.tag hC h98 hp hpo, hn, hrf, hro, h9, h9o⟩))
theorem Zn {M U V : List (Nat × AObj)} : QR M (U ++ V) = QR (QR M V) U := by
  unfold QR
  rw [List.foldr_append]
theorem QD {o : Nat} {x : AObj} {M K : List (Nat × AObj)} (h : Qbj K o) (hM : ∀ p ∈ K, getM M p.1 = some p.2) : ∀ p ∈ K, getM ((o, x) :: M) p.1 = some p.2 := fun p hp => by
  simp only [getM]
  rw [if_neg (h p hp)]
  exact hM p hp
theorem Qcj {A M K : List (Nat × AObj)} (h : dis A K) (hM : ∀ p ∈ K, getM M p.1 = some p.2) : ∀ p ∈ K, getM (A ++ M) p.1 = some p.2 := fun p hp => by
  rw [Jd (Qkm h hp)]
  exact hM p hp
theorem Kf {K B : List (Nat × AObj)} (hu : Zb K) : ∀ p ∈ K, getM (K ++ B) p.1 = some p.2 := fun p hp => Ke (QF hu p hp)
theorem Qkn {M : Nat → Option AObj} {o : Nat} {x : AObj} (h : M o = none) : ∀ p ∈ [(o, x)], M p.1 = none := fun p hp => by
  simp only [List.mem_cons, List.not_mem_nil, or_false] at hp
  subst hp; exact h
theorem Jl {o : Nat} {x : AObj} {M K : List (Nat × AObj)} (h : Qbj K o) (hM : ∀ p ∈ K, getM M p.1 = none) : ∀ p ∈ K, getM ((o, x) :: M) p.1 = none := fun p hp => by
  simp only [getM]
  rw [if_neg (h p hp)]
  exact hM p hp
theorem QfC {A M K : List (Nat × AObj)} (h : dis A K) (hM : ∀ p ∈ K, getM M p.1 = none) : ∀ p ∈ K, getM (A ++ M) p.1 = none := fun p hp => by
  rw [Jd (Qkm h hp)]
  exact hM p hp
theorem Xs {K : List (Nat × AObj)} : ∀ p ∈ K, getM [] p.1 = none := fun _ _ => rfl
theorem Qn0 {A K : List (Nat × AObj)} (h : dis A K) : ∀ p ∈ K, getM A p.1 = none := fun p hp => Qkm h hp
theorem Xt {M K : List (Nat × AObj)} (h : ∀ p ∈ K, getM M p.1 = none) : ∀ p ∈ K.reverse, getM M p.1 = none := fun p hp => h p (List.mem_reverse.1 hp)
end Go.Ve

namespace Go.Ve
open Go.RowKit

/-! ## rows with own slices inside, of any Qhj: a leaf '.sl v sz xs' of a told row stands for an own slice of version v -/
def QmE (k i : Nat) (x : AV) : AV := match x with
  | .sl v _ xs => .own (fam k i) v 0 xs.length
  | y => y
def Qck (k i c : Nat) : List AV → List AV
  | [] => []
  | x :: r => QmE (k + c) i x :: Qck k i (c + 1) r
def QpO (e k i : Nat) (x : AV) : List (Nat × AObj) := match x with
  | .sl v sz xs => [(fam k i, .arr e v sz xs)]
  | _ => []
def QhM (es : Nat → Nat) (k i c : Nat) : List AV → List (Nat × AObj)
  | [] => []
  | x :: r => QpO (es c) (k + c) i x ++ QhM es k i (c + 1) r
def Qai : AV → Bool
  | .int .. | .bool .. | .str .. => true
  | _ => false
def simpleV : AV → Bool
  | .int .. | .bool .. | .str .. => true
  | .sl _ _ xs => xs.all fun r => r.all Qai
  | _ => false
structure RowOk {α : Type} (n : Nat) (f : α → List AV) : Prop where
  len : ∀ x, (f x).length = n
  sim : ∀ x, (f x).all simpleV = true
section
variable {α : Type}
def QQ (f : α → List AV) (k i0 : Nat) (a : List α) : List (List AV) := a.mapIdx fun i x => Qck k (i0 + i) 0 (f x)
def QA (es : Nat → Nat) (f : α → List AV) (k i0 : Nat) (a : List α) : List (Nat × AObj) := (a.mapIdx fun i x => QhM es k (i0 + i) 0 (f x)).flatten
def OO (o e v sz : Nat) (es : Nat → Nat) (f : α → List AV) (k i0 : Nat) (a : List α) : List (Nat × AObj) := (o, .arr (1000000 + e) v sz (QQ f k i0 a)) :: QA es f k i0 a
variable {f : α → List AV} {es : Nat → Nat} {k n i0 : Nat} {a : List α}

theorem Q7 : (QQ f k i0 a).length = a.length := by simp [QQ]
theorem Qgj [Inhabited α] {i : Nat} (h : i < a.length) : (QQ f k i0 a).getD i [] = Qck k (i0 + i) 0 (f (a.getD i default)) := by simp [QQ, h]
theorem Qd7 {x : α} : QQ f k i0 (a ++ [x]) = QQ f k i0 a ++ [Qck k (i0 + a.length) 0 (f x)] := by simp [QQ, List.mapIdx_append]
theorem QmF {x : α} : QA es f k i0 (a ++ [x]) = QA es f k i0 a ++ QhM es k (i0 + a.length) 0 (f x) := by simp [QA, List.mapIdx_append]
theorem QmG : (QQ f k i0 a).take a.length = QQ f k i0 a := List.take_of_length_le (by rw [Q7]; exact Nat.le_refl _)
theorem Qa3 {k i : Nat} {p : Nat × AObj} : ∀ {r : List AV} {c : Nat}, p ∈ QhM es k i c r ↔ ∃ j v sz xs, r[j]? = some (.sl v sz xs) ∧ p = (fam (k + (c + j)) i, .arr (es (c + j)) v sz xs)
  | [], _ => by simp [QhM]
  | x :: r, c => by
    simp only [QhM, List.mem_append, Qa3 (r := r)]
    constructor
    · rintro (h | ⟨j, v, sz, xs, h1, h2⟩)
      · cases x <;> simp [QpO] at h
        rename_i v sz xs
        exact ⟨0, v, sz, xs, rfl, h⟩
      · exact ⟨j + 1, v, sz, xs, by simpa using h1, by rw [h2, show c + 1 + j = c + (j + 1) from by omega]⟩
    · rintro ⟨j, v, sz, xs, h1, h2⟩
      cases j with
      | zero =>
        simp only [List.getElem?_cons_zero, Option.some.injEq] at h1
        subst h1
        left; rw [h2]; simp [QpO]
      | succ j => exact .inr ⟨j, v, sz, xs, by simpa using h1, by rw [h2, show c + 1 + j = c + (j + 1) from by omega]⟩
theorem Kg [Inhabited α] {p : Nat × AObj} : p ∈ QA es f k i0 a ↔ ∃ i j v sz xs, i < a.length ∧ (f (a.getD i default))[j]? = some (.sl v sz xs) ∧ p = (fam (k + j) (i0 + i), .arr (es j) v sz xs) := by
  simp only [QA, List.mem_flatten, List.mem_mapIdx]
  constructor
  · rintro ⟨l, ⟨i, hi, rfl⟩, hp⟩
    obtain ⟨j, v, sz, xs, h1, h2⟩ := Qa3.1 hp
    rw [Nat.zero_add] at h2
    exact ⟨i, j, v, sz, xs, hi, by simpa [hi] using h1, h2⟩
  · rintro ⟨i, j, v, sz, xs, hi, h1, h2⟩
    refine ⟨_, ⟨i, hi, rfl⟩, Qa3.2 ⟨j, v, sz, xs, by simpa [hi] using h1, by rw [Nat.zero_add]; exact h2⟩⟩
theorem QeX {r : List AV} {j : Nat} {x : AV} (h : r[j]? = some x) : j < r.length := (List.getElem?_eq_some_iff.1 h).1
theorem Kh [Inhabited α] (hr : RowOk n f) (hk : k + n ≤ 1000) {p : Nat × AObj} (h : p ∈ QA es f k i0 a) : 1000 ≤ p.1 ∧ k ≤ p.1 % 1000 ∧ p.1 % 1000 < k + n := by
  obtain ⟨i, j, v, sz, xs, hi, h1, rfl⟩ := Kg.1 h
  have := QeX h1
  rw [hr.len] at this
  refine ⟨by simp only [fam]; omega, ?_⟩
  rw [Qaf (by omega)]; omega
theorem Qjk {k i : Nat} : ∀ {r : List AV} {c : Nat}, (QhM es k i c r).Pairwise fun a b => a.1 ≠ b.1
  | [], _ => by simp [QhM]
  | x :: r, c => by
    simp only [QhM]
    rw [List.pairwise_append]
    refine ⟨?_, Qjk, fun p hp q hq => ?_⟩
    · cases x <;> simp [QpO]
    · obtain ⟨j, v, sz, xs, _, rfl⟩ := Qa3.1 hq
      cases x <;> simp [QpO] at hp
      subst hp
      simp only [fam]; omega
theorem KR [Inhabited α] (hr : RowOk n f) (hk : k + n ≤ 1000) : Zb (QA es f k i0 a) := by
  unfold Zb QA
  rw [List.pairwise_flatten]
  constructor
  · intro l hl
    obtain ⟨i, hi, rfl⟩ := List.mem_mapIdx.1 hl
    exact Qjk
  · rw [List.pairwise_iff_getElem]
    intro i j hi hj hij p hp q hq
    simp only [List.getElem_mapIdx] at hp hq
    obtain ⟨c, v, sz, xs, h1, rfl⟩ := Qa3.1 hp
    obtain ⟨d, v', sz', xs', h2, rfl⟩ := Qa3.1 hq
    have h1 := QeX h1
    have h2 := QeX h2
    rw [hr.len] at h1 h2
    simp only [fam]; omega
theorem Qcl [Inhabited α] (hr : RowOk n f) (hk : k + n ≤ 1000) {i j : Nat} {v sz : Nat} {xs : List (List AV)} (hi : i < a.length) (h : (f (a.getD i default))[j]? = some (.sl v sz xs)) : getM (QA es f k i0 a) (fam (k + j) (i0 + i)) = some (.arr (es j) v sz xs) :=
  QF (KR hr hk) (fam (k + j) (i0 + i), .arr (es j) v sz xs) (Kg.2 ⟨i, j, v, sz, xs, hi, h, rfl⟩)
theorem Qn1 [Inhabited α] (hr : RowOk n f) (hk : k + n ≤ 1000) {i q : Nat} (hq : q < 1000) (hi : i0 + a.length ≤ i) : getM (QA es f k i0 a) (fam q i) = none := Q9 fun p hp e => by
  obtain ⟨i', j, v, sz, xs, hi', h1, rfl⟩ := Kg.1 hp
  have := QeX h1
  rw [hr.len] at this
  simp only [fam] at e; omega
theorem Qa4 [Inhabited α] : QpM (QA es f k i0 a) := fun p hp => by
  obtain ⟨i, j, v, sz, xs, hi, h1, rfl⟩ := Kg.1 hp
  simp only [fam]; omega
theorem JB [Inhabited α] (hr : RowOk n f) (hk : k + n ≤ 1000) (h : 100 ≤ k) : YJ (QA es f k i0 a) := fun p hp => by
  have := (Kh hr hk hp).2.1; omega
theorem Qjl {o e v sz : Nat} {p : Nat × AObj} (h : p ∈ OO o e v sz es f k i0 a) : p = (o, .arr (1000000 + e) v sz (QQ f k i0 a)) ∨ p ∈ QA es f k i0 a := by
  simpa [OO] using h
theorem Yb [Inhabited α] {o e v sz : Nat} (hr : RowOk n f) (hk : k + n ≤ 1000) {p : Nat × AObj} (h : p ∈ OO o e v sz es f k i0 a) : p.1 = o ∨ (1000 ≤ p.1 ∧ k ≤ p.1 % 1000 ∧ p.1 % 1000 < k + n) := by
  rcases Qjl h with rfl | h
  · exact .inl rfl
  · exact .inr (Kh hr hk h)
theorem UG [Inhabited α] {o e v sz : Nat} (hr : RowOk n f) (hk : k + n ≤ 1000) (ho : o < 1000) : Zb (OO o e v sz es f k i0 a) := by
  unfold Zb OO
  rw [List.pairwise_cons]
  exact ⟨fun p hp => by have := (Kh hr hk hp).1; simp only; omega, KR hr hk⟩
theorem Qlk [Inhabited α] {o e v sz : Nat} (hr : RowOk n f) (hk : k + n ≤ 1000) (h : 100 ≤ k) (ho : 100 ≤ o % 1000) : YJ (OO o e v sz es f k i0 a) := QY ho (JB hr hk h)
theorem YK {o e v sz : Nat} : getM (OO o e v sz es f k i0 a) o = some (.arr (1000000 + e) v sz (QQ f k i0 a)) := by simp only [OO, getM, if_true]
theorem Kz {o e v sz : Nat} {B : List (Nat × AObj)} : getM (OO o e v sz es f k i0 a ++ B) o = some (.arr (1000000 + e) v sz (QQ f k i0 a)) := Ke YK
/-! references -/
theorem Qjm {k i : Nat} {d : List Nat} : ∀ {r : List AV} {c : Nat}, r.all simpleV = true → (∀ j v sz xs, r[j]? = some (.sl v sz xs) → fam (k + (c + j)) i ∈ d) → Qb d (Qck k i c r) = true
  | [], _, _, _ => rfl
  | x :: r, c, h, hd => by
    simp only [List.all_cons, Bool.and_eq_true] at h
    simp only [Qck, Qb, Bool.and_eq_true]
    refine ⟨?_, Qjm h.2 fun j v sz xs hj => ?_⟩
    · cases x <;> simp [simpleV] at h <;> first | rfl | skip
      rename_i v sz xs
      simp only [QmE, Qd, List.contains_iff_mem]
      exact hd 0 v sz xs rfl
    · have := hd (j + 1) v sz xs (by simpa using hj)
      rwa [show c + 1 + j = c + (j + 1) from by omega]
theorem VE [Inhabited α] (hr : RowOk n f) {d : List Nat} (h : ∀ p ∈ QA es f k i0 a, p.1 ∈ d) : (QQ f k i0 a).all (Qb d) = true := by
  rw [List.all_eq_true]
  intro x hx
  obtain ⟨i, hi, rfl⟩ := List.mem_iff_getElem.1 hx
  have hi' : i < a.length := by simpa [Q7] using hi
  simp only [QQ, List.getElem_mapIdx]
  refine Qjm (hr.sim _) fun j v sz xs hj => ?_
  rw [Nat.zero_add]
  exact h (fam (k + j) (i0 + i), .arr (es j) v sz xs) (Kg.2 ⟨i, j, v, sz, xs, hi', by simpa [hi'] using hj, rfl⟩)
theorem Qa5 [Inhabited α] (hes : ∀ c, es c < 1000000) {d : List Nat} : ((QA es f k i0 a).all fun p => Qc d p.2) = true := by
  rw [List.all_eq_true]
  intro p hp
  obtain ⟨i, j, v, sz, xs, hi, h1, rfl⟩ := Kg.1 hp
  simp [Qc, hes]
theorem Wn [Inhabited α] {o e v sz : Nat} (hr : RowOk n f) (hes : ∀ c, es c < 1000000) {d : List Nat} (h : ∀ p ∈ QA es f k i0 a, p.1 ∈ d) : ((OO o e v sz es f k i0 a).all fun p => Qc d p.2) = true := by
  simp only [OO, List.all_cons, Bool.and_eq_true]
  refine ⟨?_, Qa5 hes⟩
  simp only [Qc]
  rw [if_neg (by omega)]
  exact VE hr h
theorem Jx {l : List (Nat × AObj)} {p : Nat × AObj} (h : p ∈ l) : p.1 ∈ dom l := List.mem_map.2 ⟨p, h, rfl⟩
theorem UH [Inhabited α] {o e v sz : Nat} (hr : RowOk n f) (hes : ∀ c, es c < 1000000) : ((OO o e v sz es f k i0 a).all fun p => Qc (dom (OO o e v sz es f k i0 a)) p.2) = true :=
  Wn hr hes fun p hp => Jx (List.mem_cons_of_mem _ hp)
theorem Qn2 [Inhabited α] {o e v sz : Nat} (hr : RowOk n f) (hes : ∀ c, es c < 1000000) : ((OO o e v sz es f k i0 a).reverse.all fun p => Qc (dom (OO o e v sz es f k i0 a).reverse) p.2) = true := by
  rw [List.all_reverse]
  exact Wn hr hes fun p hp => Jx (List.mem_reverse.2 (List.mem_cons_of_mem _ hp))
/-! other numbers -/
theorem Qcm {s : Nat → Nat} : ∀ {l : List (Nat × AObj)}, Ks s l = l.map fun p => (s p.1, renO s p.2)
  | [] => rfl
  | (k, x) :: l => by simp only [Ks, List.map_cons, Qcm]
theorem Qii {s : Nat → Nat} {k k' i i' : Nat} (hes : ∀ c, es c < 1000000) : ∀ {r : List AV} {c : Nat}, (∀ j, j < c + r.length → s (fam (k + j) i) = fam (k' + j) i') → (QhM es k i c r).map (fun p => (s p.1, renO s p.2)) = QhM es k' i' c r
  | [], _, _ => rfl
  | x :: r, c, h => by
    simp only [QhM, List.map_append]
    rw [Qii hes fun j hj => h j (by simp only [List.length_cons]; omega)]
    congr 1
    cases x <;> simp [QpO, renO, hes, h c (by simp only [List.length_cons]; omega)]
theorem Qij {s : Nat → Nat} {k k' i i' : Nat} : ∀ {r : List AV} {c : Nat}, r.all simpleV = true → (∀ j, j < c + r.length → s (fam (k + j) i) = fam (k' + j) i') → K8 s (Qck k i c r) = Qck k' i' c r
  | [], _, _, _ => rfl
  | x :: r, c, hx, h => by
    simp only [List.all_cons, Bool.and_eq_true] at hx
    simp only [Qck, K8]
    rw [Qij hx.2 fun j hj => h j (by simp only [List.length_cons]; omega)]
    congr 1
    cases x <;> simp [simpleV] at hx <;> simp [QmE, ren, h c (by simp only [List.length_cons]; omega)]
theorem Qjn {s : Nat → Nat} {k' i1 : Nat} (hr : RowOk n f) (hes : ∀ c, es c < 1000000) (hs : ∀ j i, j < n → s (fam (k + j) (i0 + i)) = fam (k' + j) (i1 + i)) : Ks s (QA es f k i0 a) = QA es f k' i1 a := by
  rw [Qcm]
  simp only [QA, List.map_flatten]
  congr 1
  refine List.ext_getElem (by simp) fun i h1 h2 => ?_
  simp only [List.getElem_map, List.getElem_mapIdx]
  refine Qii (k := k) (k' := k') hes fun j hj => hs j i ?_
  rw [hr.len] at hj; omega
theorem Qjo {s : Nat → Nat} {k' i1 : Nat} (hr : RowOk n f) (hs : ∀ j i, j < n → s (fam (k + j) (i0 + i)) = fam (k' + j) (i1 + i)) : (QQ f k i0 a).map (K8 s) = QQ f k' i1 a := by
  refine List.ext_getElem (by simp [QQ]) fun i h1 h2 => ?_
  simp only [QQ, List.getElem_map, List.getElem_mapIdx]
  refine Qij (k := k) (k' := k') (hr.sim _) fun j hj => hs j i ?_
  rw [hr.len] at hj; omega
theorem Qbt {o e v sz : Nat} {s : Nat → Nat} {k' i1 : Nat} (hr : RowOk n f) (hes : ∀ c, es c < 1000000) (hs : ∀ j i, j < n → s (fam (k + j) (i0 + i)) = fam (k' + j) (i1 + i)) : Ks s (OO o e v sz es f k i0 a) = OO (s o) e v sz es f k' i1 a := by
  simp only [OO, Ks, renO, Qjn hr hes hs, Qjo hr hs]
  rw [if_neg (by omega)]
theorem Qjp {b : List α} : QQ f k i0 (a ++ b) = QQ f k i0 a ++ QQ f k (i0 + a.length) b := by
  simp only [QQ, List.mapIdx_append]
  congr 1
  refine List.ext_getElem (by simp) fun i h1 h2 => ?_
  simp only [List.getElem_mapIdx]
  rw [show i0 + (i + a.length) = i0 + a.length + i from by omega]
theorem Qjq {b : List α} : QA es f k i0 (a ++ b) = QA es f k i0 a ++ QA es f k (i0 + a.length) b := by
  simp only [QA, List.mapIdx_append, List.flatten_append]
  congr 2
  refine List.ext_getElem (by simp) fun i h1 h2 => ?_
  simp only [List.getElem_mapIdx]
  rw [show i0 + (i + a.length) = i0 + a.length + i from by omega]
/-- A span of families changes places with another one. -/
def J5 (a b n o : Nat) : Nat := if 1000 ≤ o then (if a ≤ o % 1000 ∧ o % 1000 < a + n then o - a + b else if b ≤ o % 1000 ∧ o % 1000 < b + n then o - b + a else o) else o
theorem KB {a b n : Nat} (ha : a + n ≤ 1000) (hb : b + n ≤ 1000) (hd : a + n ≤ b ∨ b + n ≤ a) (o : Nat) : J5 a b n (J5 a b n o) = o := by
  by_cases h0 : 1000 ≤ o
  · by_cases h1 : a ≤ o % 1000 ∧ o % 1000 < a + n
    · have e : J5 a b n o = o - a + b := by unfold J5; rw [if_pos h0, if_pos h1]
      rw [e]; unfold J5
      rw [if_pos (by omega), if_neg (by omega), if_pos (by omega)]; omega
    · by_cases h2 : b ≤ o % 1000 ∧ o % 1000 < b + n
      · have e : J5 a b n o = o - b + a := by unfold J5; rw [if_pos h0, if_neg h1, if_pos h2]
        rw [e]; unfold J5
        rw [if_pos (by omega), if_pos (by omega)]; omega
      · have e : J5 a b n o = o := by unfold J5; rw [if_pos h0, if_neg h1, if_neg h2]
        rw [e, e]
  · have e : J5 a b n o = o := by unfold J5; rw [if_neg h0]
    rw [e, e]
theorem YA {a b n j i : Nat} (ha : a + n ≤ 1000) (hj : j < n) : J5 a b n (fam (a + j) i) = fam (b + j) i := by
  unfold J5 fam
  rw [if_pos (by omega), if_pos (by omega)]; omega
theorem Qr0 {a b n o : Nat} (h : o < 1000) : J5 a b n o = o := by unfold J5; rw [if_neg (by omega)]
theorem Gd {a b n k i : Nat} (hk : k < 1000) (h1 : k < a ∨ a + n ≤ k) (h2 : k < b ∨ b + n ≤ k) : J5 a b n (fam k i) = fam k i := by
  unfold J5 fam
  rw [if_pos (by omega), if_neg (by omega), if_neg (by omega)]
/-! told -/
def QtF (t : Nat) (x : AV) : AV := match x with
  | .sl _ sz xs => .sl t sz xs
  | y => y
theorem Qll {K : Nat → Option AObj} {k i : Nat} (hes : ∀ c, es c < 1000000) : ∀ {r : List AV} {c : Nat}, r.all simpleV = true → (∀ j v sz xs, r[j]? = some (.sl v sz xs) → K (fam (k + (c + j)) i) = some (.arr (es (c + j)) v sz xs)) → Qnv K (Qck k i c r) = some (r.map (QtF 99))
  | [], _, _, _ => rfl
  | x :: r, c, hx, h => by
    simp only [List.all_cons, Bool.and_eq_true] at hx
    have ih := Qll hes (c := c + 1) hx.2 fun j v sz xs hj => by
      have := h (j + 1) v sz xs (by simpa using hj)
      rwa [show c + 1 + j = c + (j + 1) from by omega]
    cases x <;> simp [simpleV] at hx <;> simp only [Qck, QmE, Qnv, ih, isLeaf, noref, Bool.and_self, if_true, List.map_cons, QtF]
    rename_i v sz xs
    have h0 := h 0 v sz xs rfl
    rw [Nat.add_zero] at h0
    simp only [h0, if_true, hes, List.take_length, List.drop_zero]
theorem QeY {β : Type} {K : Nat → Option AObj} {g : β → List AV} : ∀ {l : List β} {F : Nat → β → List AV}, (∀ i (h : i < l.length), Qnv K (F i l[i]) = some (g l[i])) → Qhe K (l.mapIdx F) = some (l.map g)
  | [], _, _ => rfl
  | x :: l, F, h => by
    have h0 := h 0 (by simp)
    have ih := QeY (K := K) (g := g) (l := l) (F := fun i => F (i + 1)) fun i hi => h (i + 1) (by simpa using hi)
    simp only [List.getElem_cons_zero] at h0
    simp only [List.mapIdx_cons, Qhe, ih, h0, List.map_cons]
theorem Qko [Inhabited α] {K : Nat → Option AObj} (hr : RowOk n f) (hes : ∀ c, es c < 1000000) (hK : ∀ p ∈ QA es f k i0 a, K p.1 = some p.2) : Qhe K (QQ f k i0 a) = some (a.map fun x => (f x).map (QtF 99)) :=
  QeY fun i hi => Qll hes (hr.sim _) fun j v sz xs hj => by
    rw [Nat.zero_add]
    exact hK (fam (k + j) (i0 + i), .arr (es j) v sz xs) (Kg.2 ⟨i, j, v, sz, xs, hi, by simpa [hi] using hj, rfl⟩)
theorem Qn3 [Inhabited α] {M K : Nat → Option AObj} {o e v sz m : Nat} (hr : RowOk n f) (hes : ∀ c, es c < 1000000) (hn : m = a.length) (hM : ∀ p ∈ OO o e v sz es f k i0 a, M p.1 = some p.2) (hK : ∀ p ∈ OO o e v sz es f k i0 a, K p.1 = some p.2) :
    UO M K (.own o v 0 m) = some (.sl 99 sz (a.map fun x => (f x).map (QtF 99))) := by
  have h1 := hM (o, .arr (1000000 + e) v sz (QQ f k i0 a)) (by simp [OO])
  simp only at h1
  have hA := Qko (K := K) (k := k) (a := a) hr hes fun p hp => hK p (List.mem_cons_of_mem _ hp)
  subst hn
  simp only [UO, h1, if_true, List.drop_zero, QmG, hA, Option.map_some]
theorem Qjr : ∀ {xs : List (List AV)}, (xs.all fun r => r.all Qai) = true → Jh xs
  | [], _ => by simp [Jh]
  | r :: xs, h => by
    simp only [List.all_cons, Bool.and_eq_true] at h
    simp only [Jh]
    refine ⟨?_, Qjr h.2⟩
    have : ∀ {l : List AV}, l.all Qai = true → JI l := fun {l} => by
      induction l with
      | nil => intro _; simp [JI]
      | cons x l ih =>
        intro h
        simp only [List.all_cons, Bool.and_eq_true] at h
        simp only [JI]
        refine ⟨?_, ih h.2⟩
        cases x <;> simp [Qai] at h <;> simp [No99]
    exact this h.1
theorem Qn4 {k i : Nat} : ∀ {r : List AV} {c : Nat}, r.all simpleV = true → JI (Qck k i c r)
  | [], _, _ => by simp [Qck, JI]
  | x :: r, c, h => by
    simp only [List.all_cons, Bool.and_eq_true] at h
    simp only [Qck, JI]
    refine ⟨?_, Qn4 h.2⟩
    cases x <;> simp [simpleV] at h <;> simp [QmE, No99]
theorem QhN {r : List AV} (h : r.all simpleV = true) {j v sz : Nat} {xs : List (List AV)} (hj : r[j]? = some (.sl v sz xs)) : (xs.all fun r => r.all Qai) = true := by
  rw [List.all_eq_true] at h
  have := h _ (List.mem_of_getElem? hj)
  simpa only [simpleV] using this
theorem QmH {l : List (List AV)} (h : ∀ r ∈ l, JI r) : Jh l := by
  induction l with
  | nil => simp [Jh]
  | cons x l ih => simp only [Jh]; exact ⟨h x (by simp), ih fun r hr => h r (by simp [hr])⟩
theorem QpP (hr : RowOk n f) : Jh (QQ f k i0 a) := QmH fun r hr' => by
  obtain ⟨i, hi, rfl⟩ := List.mem_mapIdx.1 hr'
  exact Qn4 (hr.sim _)
theorem QpQ [Inhabited α] (hr : RowOk n f) : ∀ p ∈ QA es f k i0 a, Z8 p.2 := fun p hp => by
  obtain ⟨i, j, v, sz, xs, hi, h1, rfl⟩ := Kg.1 hp
  exact Qjr (QhN (hr.sim _) h1)
theorem QpR [Inhabited α] {o e v sz : Nat} (hr : RowOk n f) : ∀ p ∈ OO o e v sz es f k i0 a, Z8 p.2 := fun p hp => by
  rcases Qjl hp with rfl | hp
  · exact QpP hr
  · exact QpQ hr p hp
theorem Qlm : ∀ {r : List AV}, r.all Qai = true → Wy r = true
  | [], _ => rfl
  | x :: r, h => by
    simp only [List.all_cons, Bool.and_eq_true] at h
    simp only [Wy, Qlm h.2, Bool.and_true]
    cases x <;> simp [Qai] at h <;> rfl
theorem QhO {k i : Nat} : ∀ {r : List AV} {c : Nat}, r.all simpleV = true → Wy (Qck k i c r) = true
  | [], _, _ => rfl
  | x :: r, c, h => by
    simp only [List.all_cons, Bool.and_eq_true] at h
    simp only [Qck, Wy, QhO h.2, Bool.and_true]
    cases x <;> simp [simpleV] at h <;> rfl
theorem Qln [Inhabited α] {o e v sz : Nat} (hr : RowOk n f) : ((OO o e v sz es f k i0 a).all fun p => Qch p.2) = true := by
  rw [List.all_eq_true]
  intro p hp
  rcases Qjl hp with rfl | hp
  · simp only [Qch]
    rw [List.all_eq_true]
    intro r hr'
    obtain ⟨i, hi, rfl⟩ := List.mem_mapIdx.1 hr'
    exact QhO (hr.sim _)
  · obtain ⟨i, j, v, sz, xs, hi, h1, rfl⟩ := Kg.1 hp
    have := QhN (hr.sim _) h1
    simp only [Qch]
    rw [List.all_eq_true] at this ⊢
    exact fun r hr => Qlm (this r hr)
/-! reads in a walk -/
/-! stores in a walk: a row set to another one of the same numbers -/
/-- The objects after one row was changed, from what the memory holds. -/
theorem Qn5 [Inhabited α] {M : List (Nat × AObj)} {i : Nat} {x : α} (h0 : ∀ p ∈ QA es f k i0 a, (∀ c, c < 1000 → p.1 ≠ fam c (i0 + i)) → getM M p.1 = some p.2) (hr : RowOk n f) (hk : k + n ≤ 1000)
    (h1 : ∀ j v sz xs, (f x)[j]? = some (.sl v sz xs) → getM M (fam (k + j) (i0 + i)) = some (.arr (es j) v sz xs)) : ∀ p ∈ QA es f k i0 (a.set i x), getM M p.1 = some p.2 := fun p hp => by
  obtain ⟨i', j, v, sz, xs, hi, h2, rfl⟩ := Kg.1 hp
  rw [List.length_set] at hi
  by_cases e : i' = i
  · subst e
    rw [show (a.set i' x).getD i' default = x from by simp [hi]] at h2
    exact h1 j v sz xs h2
  · rw [show (a.set i x).getD i' default = a.getD i' default from by simp [List.getElem?_set_ne (Ne.symm e)]] at h2
    have hj := QeX h2
    rw [hr.len] at hj
    refine h0 _ (Kg.2 ⟨i', j, v, sz, xs, hi, h2, rfl⟩) fun c hc => ?_
    simp only [fam]; omega
/-! rows that are put into rows of zeros -/
def zR (f : α → List AV) (k : Nat) (a : List α) (i : Nat) (z : List AV) : List (List AV) := QQ f k 0 (a.take i) ++ List.replicate (a.length - i) z
theorem Qn6 {z : List AV} : List.replicate a.length z = zR f k a 0 z := by simp [zR, QQ]
theorem Qq9 {z : List AV} : zR f k a a.length z = QQ f k 0 a := by simp [zR]
theorem Qra [Inhabited α] {z : List AV} {i : Nat} {row : List AV} (h : i < a.length) (hr : row = Qck k i 0 (f (a.getD i default))) (hz : z.length = row.length) : (zR f k a i z).set i (QU ((zR f k a i z).getD i []) 0 row) = zR f k a (i + 1) z := by
  have hl : (QQ f k 0 (a.take i)).length = i := by rw [Q7, List.length_take]; omega
  have e1 : (zR f k a i z).getD i [] = z := by
    simp only [zR, List.getD_eq_getElem?_getD]
    rw [List.getElem?_append_right (by omega), hl, Nat.sub_self, List.getElem?_replicate, if_pos (by omega)]; rfl
  have e2 : QU z 0 row = row := by simp [QU, ← hz]
  rw [e1, e2, hr]
  have e3 : a.take (i + 1) = a.take i ++ [a.getD i default] := by rw [List.take_succ_eq_append_getElem h]; simp [h]
  have hl2 : (a.take i).length = i := by rw [List.length_take]; omega
  simp only [zR, e3, Qd7, hl2, Nat.zero_add]
  rw [List.set_append, if_neg (by omega), hl, Nat.sub_self, show a.length - i = (a.length - (i + 1)) + 1 from by omega, List.replicate_succ]
  simp
theorem Qn7 [Inhabited α] (hr : RowOk n f) {z : List AV} {i : Nat} {d : List Nat} (hz : Qb d z = true) (h : ∀ p ∈ QA es f k 0 (a.take i), p.1 ∈ d) : (zR f k a i z).all (Qb d) = true := by
  unfold zR
  rw [List.all_append, VE hr h, Bool.true_and, List.all_eq_true]
  intro x hx
  rw [List.eq_of_mem_replicate hx]; exact hz
theorem Qa6 [Inhabited α] {i : Nat} (h : i < a.length) : QA es f k 0 (a.take (i + 1)) = QA es f k 0 (a.take i) ++ QhM es k i 0 (f (a.getD i default)) := by
  have e3 : a.take (i + 1) = a.take i ++ [a.getD i default] := by rw [List.take_succ_eq_append_getElem h]; simp [h]
  have hl2 : (a.take i).length = i := by rw [List.length_take]; omega
  rw [e3, QmF, hl2, Nat.zero_add]
theorem Qa7 [Inhabited α] (hr : RowOk n f) (hk : k + n ≤ 1000) {i q : Nat} (hq : q < 1000) : getM (QA es f k 0 (a.take i)) (fam q i) = none := Qn1 hr hk hq (by rw [List.length_take]; omega)
theorem QbR [Inhabited α] {o e v sz : Nat} (hr : RowOk n f) (hk : k + n ≤ 1000) (ho : o < 1000) : ∀ p ∈ OO o e v sz es f k i0 a, getM (OO o e v sz es f k i0 a) p.1 = some p.2 := QF (UG hr hk ho)
theorem Qik {T : List (Nat × AObj)} {c : Nat → Bool} (h : YJ T) : ((List.map (fun x => x.1) T).all fun o => decide (100 ≤ o % 1000) || c o) = true := by
  rw [List.all_eq_true]
  intro o ho
  obtain ⟨p, hp, rfl⟩ := List.mem_map.1 ho
  simp [h p hp]
/-! rows of one Qhj; marks -/
def Qbk : AV → Bool
  | .sl .. => true
  | _ => false
def QtM (k i c : Nat) : List Bool → List Nat
  | [] => []
  | b :: r => (if b then [fam (k + c) i] else []) ++ QtM k i (c + 1) r
theorem Qlo {k i : Nat} : ∀ {r : List AV} {c : Nat}, dom (QhM es k i c r) = QtM k i c (r.map Qbk)
  | [], _ => rfl
  | x :: r, c => by
    simp only [QhM, Qkl, List.map_cons, QtM, Qlo (r := r)]
    cases x <;> simp [QpO, Qbk, dom]
theorem Qkp {l : List (List (Nat × AObj))} : dom l.flatten = (l.map dom).flatten := by
  simp only [dom, List.map_flatten]; rfl
theorem Qn8 (hsh : ∀ x y, (f x).map Qbk = (f y).map Qbk) {b : List α} (h : a.length = b.length) : dom (QA es f k i0 a) = dom (QA es f k i0 b) := by
  simp only [QA, Qkp]
  congr 1
  refine List.ext_getElem (by simp [h]) fun i h1 h2 => ?_
  simp only [List.getElem_map, List.getElem_mapIdx, Qlo]
  rw [hsh]
theorem Qbu {o e v v' sz : Nat} (hsh : ∀ x y, (f x).map Qbk = (f y).map Qbk) {b : List α} (h : a.length = b.length) : dom (OO o e v sz es f k i0 a) = dom (OO o e v' sz es f k i0 b) := by
  have := Qn8 (es := es) (k := k) (i0 := i0) hsh h
  simp only [dom] at this
  simp only [OO, dom, List.map_cons, this]
theorem Qlp {M : List (Nat × AObj)} {o : Nat} {x : AObj} (h : o ∈ dom M) : dom (JP M o x) = dom M := by
  induction M with
  | nil => simp [dom] at h
  | cons p M ih =>
    obtain ⟨q, y⟩ := p
    simp only [JP]
    by_cases e : o = q
    · subst e; rw [if_pos rfl]; rfl
    · rw [if_neg e]
      have : o ∈ dom M := by simpa [dom, e] using h
      have := ih this
      simp only [dom, List.map_cons] at this ⊢
      rw [this]
theorem Yc {M M' : List (Nat × AObj)} (h : dom M = dom M') : keepB M M' = true := by
  unfold keepB
  rw [h, List.all_eq_true]
  intro o ho
  simp only [Bool.or_eq_true]; right; simpa using ho
theorem Qjs [Inhabited α] {i : Nat} {r : List AV} {y : α} (h : i < a.length) (hr : r = Qck k (i0 + i) 0 (f y)) : (QQ f k i0 a).set i r = QQ f k i0 (a.set i y) := by
  refine List.ext_getElem (by simp [QQ]) fun j h1 h2 => ?_
  by_cases e : j = i
  · subst e; simp [QQ, hr]
  · simp [QQ, List.getElem_set_ne (Ne.symm e)]
theorem Qcn {rows : List (List AV)} {i : Nat} {r : List AV} (h : i < rows.length) : (rows.set i r).getD i [] = r := by simp [h]
theorem Qhl {e cv sz ver i off : Nat} {xs : List (List AV)} {K : AV → List (Nat × AObj) → Prop} : Y6 (QpH (some (.arr e cv sz xs)) ver i off KL) K = (ver = cv ∧ Y6 (KL ((xs.getD i []).drop off)) K) := by
  simp only [Y6, QpH, and_assoc]
/-- Marks: the objects after a row was changed. -/
theorem Qrb [Inhabited α] {M : List (Nat × AObj)} {o e v sz : Nat} {i : Nat} {x : α} (hr : RowOk n f) (hk : k + n ≤ 1000) (h2 : getM M o = some (.arr (1000000 + e) v sz (QQ f k i0 (a.set i x))))
    (h0 : ∀ p ∈ QA es f k i0 a, (∀ c, c < 1000 → p.1 ≠ fam c (i0 + i)) → getM M p.1 = some p.2)
    (h1 : ∀ j v sz xs, (f x)[j]? = some (.sl v sz xs) → getM M (fam (k + j) (i0 + i)) = some (.arr (es j) v sz xs)) : ∀ p ∈ OO o e v sz es f k i0 (a.set i x), getM M p.1 = some p.2 := fun p hp => by
  rcases Qjl hp with rfl | hp
  · exact h2
  · exact Qn5 h0 hr hk h1 p hp
theorem Qgk [Inhabited α] (hr : RowOk n f) (hk : k + n ≤ 1000) : ∀ p ∈ QA es f k i0 a, getM (QA es f k i0 a) p.1 = some p.2 := QF (KR hr hk)
end
end Go.Ve

namespace Go.Ve
open Go.RowKit
/-! ## nil slices of a contract's rows, told as own empty slices -/
theorem Qjt {C : Ctx} : ∀ {xs : List (List AV)} {css : List (List Value)} {i : Nat} {y : List AV} {u : List Value}, RelLL C xs css → css[i]? = some u → RelL C y u → RelLL C (xs.set i y) css
  | [], vs, i, y, u, h, _, _ => by simpa using h
  | z :: zs, vs, i, y, u, h, hu, hy => by
    simp only [RelLL] at h
    obtain ⟨c', cs', rfl, h10, h11⟩ := h
    cases i with
    | zero => simp at hu; subst hu; exact RelLL.cons hy h11
    | succ i => simp only [List.set_cons_succ]; exact RelLL.cons h10 (Qjt h11 (by simpa using hu) hy)
theorem Qr1 {A : A0} {io : Nat → Nat → Prop} {w : World} {loc : Nat → Option Value} {M : List (Nat × AObj)} (hI : Inv A ⟨io, w, loc, getM M⟩) {o e v sz i c : Nat} {rows : List (List AV)} {y : AV} (hB : getM M o = some (.arr e v sz rows)) (he : 1000000 ≤ e)
    (hi : i < rows.length) (hc : c < (rows.getD i []).length) (hleaf : isLeaf y = true)
    (hy : ∀ u, RelV ⟨io, w, loc, getM M⟩ ((rows.getD i []).getD c .junk) u → RelV ⟨io, w, loc, getM M⟩ y u) :
    ∃ loc', Inv A ⟨io, w, loc', getM (JP M o (.arr e v sz (rows.set i ((rows.getD i []).set c y))))⟩ ∧ Ext ⟨io, w, loc, getM M⟩ ⟨io, w, loc', getM (JP M o (.arr e v sz (rows.set i ((rows.getD i []).set c y))))⟩ := by
  obtain ⟨hv, h6, css, h7, h8, h9, h10⟩ := hI.wf.obj o _ hB
  have h6 : loc o = some hv := h6
  obtain ⟨us, hus, hur⟩ := h7.get i [] hi
  obtain ⟨u, hu, hur2⟩ := hur.get c .junk hc
  have k4 := Inv.upd (A := A) hI (w' := w) (o := o) (obj' := .arr e v sz (rows.set i ((rows.getD i []).set c y))) (hv' := hv) (Grow.refl _ _)
    (fun b' hb => .inr ⟨_, h6, hb⟩) (fun obj hv h h' => by
      have h : getM M o = some obj := h
      have h' : loc o = some hv := h'
      rw [hB] at h; cases h; rw [h6] at h'; cases h'
      exact .inr ⟨rfl, by simp, rfl, rfl⟩)
    (fun hext => by
      refine ⟨css, Qjt (h7.mono hext) hus (Qif (hur.mono hext) hu ((hy u hur2).mono hext)), h8, ?_, ?_⟩
      · rw [List.length_set]; exact h9
      · intro r hr
        rcases List.mem_or_eq_of_mem_set hr with h | rfl
        · exact h10 r h
        · have hrow : rows.getD i [] ∈ rows := by
            simp only [List.getD_eq_getElem?_getD, List.getElem?_eq_getElem hi, Option.getD_some]; exact List.getElem_mem hi
          have := rowB.leaf (h10 _ hrow)
          unfold rowB
          rw [if_neg (by omega), List.all_eq_true]
          rw [List.all_eq_true] at this
          intro x hx
          rcases List.mem_or_eq_of_mem_set hx with h | rfl
          · exact this x h
          · exact hleaf)
  rw [← JM] at k4
  exact ⟨_, k4.1, k4.2⟩
theorem Contract.own_nil {P : Program} {f : FuncId} {args : List AV} {pre post : List (Nat × AObj)} {r : AV} {o o' e e' v sz s i c : Nat} {rows : List (List AV)} (h : Contract P f args pre r post) (hp : (dom pre).all (decide <| · % 1000 < 100) = true)
    (hM : getM post o = some (.arr e v sz rows)) (he : 1000000 ≤ e) (hi : i < rows.length) (hc : (rows.getD i [])[c]? = some (.sl 98 s [])) (hn : getM post o' = none) :
    Contract P f args pre r (JP (JP post o' (.arr e' 0 s [])) o (.arr e v sz (rows.set i ((rows.getD i []).set c (.own o' 0 0 0))))) := by
  intro io w loc vs hio hwf hargs
  refine (h io w loc vs hio hwf hargs).mono ?_
  rintro ex w' ⟨val, loc', rfl, hwf', hX, hv, hev, hnew⟩
  have hold : ∀ q b, (∃ hv0, loc q = some hv0 ∧ blkOf hv0 = some b) → q % 1000 < 100 := by
    rintro q b ⟨hv0, h1, _⟩
    obtain ⟨obj, h2⟩ := hwf.dom q hv0 h1
    rw [List.all_eq_true] at hp
    have := hp q (by have := JE (l := pre) h2; simpa using this)
    simpa using this
  have hI : Inv ⟨io, w, 100, fun q b => ∃ hv0, loc q = some hv0 ∧ blkOf hv0 = some b, 0⟩ ⟨io, w', loc', getM post⟩ :=
    ⟨rfl, Nat.le_refl _, hio, hwf', fun q b h => hold q b h, ⟨hev.os, hev.tape, hev.output, hev.size, fun b hb ho => hev.block b hb fun ⟨q, x, h1, h2⟩ => ho ⟨q, x, h1, h2⟩⟩, fun q hv0 b h1 h2 => by
      rcases hnew q hv0 b h1 h2 with h | ⟨hv1, h3, h4⟩
      · exact .inl h
      · right
        have hb : b < w.heap.size ∨ w.heap.size ≤ b := Nat.lt_or_ge _ _
        exact ⟨hv1, h3, h4⟩⟩
  obtain ⟨k1, k2, k3⟩ := QnL hI (o := o') (e := e') (sz := s) hn
  have ho : o ≠ o' := fun e1 => by rw [e1, hn] at hM; cases hM
  have hM2 : getM (JP post o' (.arr e' 0 s [])) o = some (.arr e v sz rows) := by rw [QT, if_neg ho]; exact hM
  have hcl : c < (rows.getD i []).length := (List.getElem?_eq_some_iff.1 hc).1
  have hcd : (rows.getD i []).getD c .junk = .sl 98 s [] := by rw [List.getD_eq_getElem?_getD, hc]; rfl
  obtain ⟨loc2, k4, k5⟩ := Qr1 k1 hM2 he hi hcl (y := .own o' 0 0 0) rfl (fun u hu => by
    rw [hcd] at hu
    have : u = .slice none 0 0 := QrM k1 hu
    rw [this]; exact k3)
  refine ⟨val, loc2, rfl, k4.wf, (hX.trans k2).trans k5, (hv.mono k2).mono k5, hev, fun q hv0 b h1 h2 => ?_⟩
  exact k4.new q hv0 b h1 h2
/-! calls that change the objects of a set in Qe5 -/
theorem Qaj {B : List (Nat × AObj)} : ∀ {U V : List (Nat × AObj)}, Zb U → dom V = dom U → QR (U ++ B) V = V ++ B
  | [], V, _, hd => by
    have : V = [] := by simpa [dom] using hd
    subst this; rfl
  | (k, x) :: U, [], _, hd => by simp [dom] at hd
  | (k, x) :: U, (k', y) :: V, h, hd => by
    simp only [dom, List.map_cons, List.cons.injEq] at hd
    obtain ⟨rfl, hd⟩ := hd
    unfold Zb at h
    rw [List.pairwise_cons] at h
    show JP (QR ((k', x) :: (U ++ B)) V) k' y = (k', y) :: (V ++ B)
    rw [JF, Qaj h.2 hd]
    · simp [JP]
    · intro q hq e
      have : q.1 ∈ List.map (fun x => x.1) U := by rw [← hd]; exact List.mem_map.2 ⟨q, hq, rfl⟩
      obtain ⟨p, hp, hpe⟩ := List.mem_map.1 this
      exact h.1 p hp (by rw [hpe, e])
theorem Qa8 {U V : List (Nat × AObj)} (h : Zb U) (hd : dom V = dom U) : QR U V = V := by
  have := Qaj (B := []) h hd
  simpa using this
theorem J9 {P : Program} {f : FuncId} {args : List AV} {pre post : List (Nat × AObj)} {r : AV} {M : Nat → Option AObj} (hC : Contract P f args pre r post) (hd : dom post = dom pre) (hM : ∀ p ∈ pre, M p.1 = some p.2) (ha : Qb (dom pre) args = true) (hp : (pre.all fun p => Qc (dom pre) p.2) = true) (hr : noref r = true) (hq : (post.all fun p => Qc (dom post) p.2) = true) :
    QbK P f args M r post := by
  refine .inl ⟨pre, hC, hM, fun p hp => .inl ?_, ?_, ha, hp, Qad _ _ hr, hq⟩
  · have : p.1 ∈ dom post := QbM hp
    rw [hd] at this
    simpa using this
  · rw [hd, List.all_eq_true]
    intro o ho; simpa using ho
end Go.Ve

namespace Go.Ve
open Go.RowKit
theorem Qgl {a b o : Nat} (h1 : o ≠ a) (h2 : o ≠ b) : swp a b o = o := by unfold swp; rw [if_neg h1, if_neg h2]
theorem QmI {s : Nat → Nat} {M : List (Nat × AObj)} (h : YJ M) (hs : ∀ o, 100 ≤ o % 1000 → 100 ≤ s o % 1000) : YJ (Ks s M) := fun p hp => by
  rw [Qcm] at hp
  obtain ⟨q, hq, rfl⟩ := List.mem_map.1 hp
  exact hs _ (h q hq)
theorem Qr2 {a b : Nat} (ha : 100 ≤ a % 1000) (hb : 100 ≤ b % 1000) : ∀ o, 100 ≤ o % 1000 → 100 ≤ swp a b o % 1000 := fun o ho => by
  unfold swp; split
  · exact hb
  · split
    · exact ha
    · exact ho
theorem Qs4 {a b : Nat} (ha : 100 ≤ a % 1000) (hb : 100 ≤ b % 1000) : ∀ o, o % 1000 < 100 → swp a b o = o := fun o ho => Qgl (by omega) (by omega)
section
variable {α : Type} {f : α → List AV} {es : Nat → Nat} {k n i0 : Nat} {a : List α}
/-! other numbers, of the rows that are there -/
theorem QhP {s : Nat → Nat} {k' i1 : Nat} (hr : RowOk n f) (hes : ∀ c, es c < 1000000) (hs : ∀ j i, j < n → i < a.length → s (fam (k + j) (i0 + i)) = fam (k' + j) (i1 + i)) : Ks s (QA es f k i0 a) = QA es f k' i1 a := by
  rw [Qcm]
  simp only [QA, List.map_flatten]
  congr 1
  refine List.ext_getElem (by simp) fun i h1 h2 => ?_
  simp only [List.getElem_map, List.getElem_mapIdx]
  have hi : i < a.length := by simpa using h2
  refine Qii (k := k) (k' := k') hes fun j hj => hs j i ?_ hi
  rw [hr.len] at hj; omega
theorem Qd8 {s : Nat → Nat} {k' i1 : Nat} (hr : RowOk n f) (hs : ∀ j i, j < n → i < a.length → s (fam (k + j) (i0 + i)) = fam (k' + j) (i1 + i)) : (QQ f k i0 a).map (K8 s) = QQ f k' i1 a := by
  refine List.ext_getElem (by simp [QQ]) fun i h1 h2 => ?_
  simp only [QQ, List.getElem_map, List.getElem_mapIdx]
  have hi : i < a.length := by simpa [QQ] using h2
  refine Qij (k := k) (k' := k') (hr.sim _) fun j hj => hs j i ?_ hi
  rw [hr.len] at hj; omega
end
end Go.Ve

