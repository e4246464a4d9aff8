/- Part 2 of the proof: laws and contracts of functions, each proved; they are joined in the last part. No conditions beyond those that the theorems state. -/
import Derived.Below
import Derived.Carry
import Derived.ChangeOld
import Derived.Deep.Slices
import Derived.Handed
import Derived.JoinedOf
import Derived.OpenVars
import Derived.RowKit
import Derived.Scope
import Derived.Test.YtppifjfappcbgaaGreatHw1
set_option linter.all false
namespace Go.Ve
open Go.RowKit

/-! Regions that draw their order: an operation's slots and objects, and that two that are apart may change places. -/

def oX : Option SX → List SX | some x => [x] | none => []
def SOp.xs : SOp → List SX
  | .mv x | .neg x | .not x | .conv _ x | .box _ x | .load1 x | .loadN _ x | .nilck x | .faddr _ x | .field1 _ x | .fieldN _ _ x | .lenS x | .lenL x | .ext _ x | .mk _ _ _ _ x | .mvfrz x | .b2s x => [x]
  | .newnil .. | .alloc .. | .mkmap .. => []
  | .look _ _ _ m k => [m, k]
  | .mset _ m k x => [m, k, x]
  | .idx _ x i | .idxN _ _ x i | .iaddrA _ _ x i => [x, i]
  | .isnil _ x => [x]
  | .pick c a b => [c, a, b]
  | .bin _ x y | .binN _ x y | .eqB _ x y | .eqS _ _ x y | .store _ x y | .iaddr _ x y | .istr x y | .mx x y | .mn x y | .app _ _ _ x y | .appN _ _ _ x y => [x, y]
  | .slStr x lo hi | .slSl _ x lo hi => x :: (oX lo ++ oX hi)
  | .build _ ps => ps.map (·.2.2)
  | .lit _ _ ps | .litOwn _ _ _ ps => ps
  | .call _ args => args
  | .clos _ caps => caps
  | .callV x args => x :: args
def rdL : List SX → List Nat
  | [] => []
  | .v k :: r => k :: rdL r
  | .c _ :: r => rdL r
  | .g _ :: r => rdL r
def SOper.reads (s : SOper) : List Nat := (match s.g with | some (t, _) => [t] | none => []) ++ rdL s.op.xs
/-- 0: looks at no object; 1: looks; 2: may write. -/
def SOp.cls : SOp → Nat
  | .load1 .. | .loadN .. | .nilck .. | .faddr .. | .slSl .. | .lenL .. | .iaddr .. | .b2s .. | .look .. | .iaddrA .. | .isnil .. => 1
  | .newnil .. | .alloc .. | .box .. | .store .. | .litOwn .. | .app .. | .appN .. | .mk .. | .mvfrz .. | .call .. | .callV .. | .mkmap .. | .mset .. => 2
  | _ => 0
mutual
def refs : AV → List Nat
  | .agg ls => Yx ls
  | .tup ls => Yx ls
  | .fn _ a b => Yx a ++ Yx b
  | .own o .. | .ptr o .. | .elt o .. => [o]
  | _ => []
def Yx : List AV → List Nat
  | [] => []
  | x :: xs => refs x ++ Yx xs
end
def fpX (E : Nat → AV) : List SX → List Nat
  | [] => []
  | x :: r => refs (ev E x) ++ fpX E r
def QhT (s : SOp) (E : Nat → AV) (ups : List (Nat × AObj)) : List Nat := fpX E s.xs ++ dom ups

theorem QlY {E E' : Nat → AV} {l : List SX} (h : ∀ k ∈ rdL l, E' k = E k) : ∀ x ∈ l, ev E' x = ev E x := by
  induction l with
  | nil => intro x hx; cases hx
  | cons y r ih =>
    intro x hx
    cases y with
    | v k =>
      rcases List.mem_cons.1 hx with rfl | hx
      · exact h k (by simp [rdL])
      · exact ih (fun k hk => h k (by simp [rdL, hk])) x hx
    | c v =>
      rcases List.mem_cons.1 hx with rfl | hx
      · rfl
      · exact ih (fun k hk => h k (by simpa [rdL] using hk)) x hx
    | g v =>
      rcases List.mem_cons.1 hx with rfl | hx
      · rfl
      · exact ih (fun k hk => h k (by simpa [rdL] using hk)) x hx
theorem Qn9 {E E' : Nat → AV} {l : List SX} (h : ∀ x ∈ l, ev E' x = ev E x) : fpX E' l = fpX E l := by
  induction l with
  | nil => rfl
  | cons y r ih => simp only [fpX, h y (by simp), ih fun x hx => h x (by simp [hx])]
theorem QrY {E : Nat → AV} {l : List SX} {x : SX} (hx : x ∈ l) {o : Nat} (ho : o ∈ refs (ev E x)) : o ∈ fpX E l := by
  induction l with
  | nil => cases hx
  | cons y r ih =>
    simp only [fpX, List.mem_append]
    rcases List.mem_cons.1 hx with rfl | hx
    · exact .inl ho
    · exact .inr (ih hx)

theorem ZK {E E' : Nat → AV} (d : Int) {o : Option SX} (h : ∀ x ∈ oX o, ev E' x = ev E x) : QjF E' d o = QjF E d o := by
  cases o with
  | none => rfl
  | some x => simp only [QjF, h x (by simp [oX])]
theorem QmI {s : SOp} {E E' : Nat → AV} {M : Nat → Option AObj} (h : ∀ x ∈ s.xs, ev E' x = ev E x) : eff s E' M = eff s E M := by
  cases s
  case slStr x lo hi =>
    simp only [SOp.xs, List.mem_cons, List.mem_append] at h
    simp only [eff, h x (by simp)]
    split
    · rw [ZK 0 fun y hy => h y (.inr (.inl hy)), ZK _ fun y hy => h y (.inr (.inr hy))]
    · rfl
  case slSl sz x lo hi =>
    simp only [SOp.xs, List.mem_cons, List.mem_append] at h
    simp only [eff, h x (by simp)]
    split
    · rw [ZK 0 fun y hy => h y (.inr (.inl hy)), ZK _ fun y hy => h y (.inr (.inr hy))]
    · split
      · rw [ZK 0 fun y hy => h y (.inr (.inl hy)), ZK _ fun y hy => h y (.inr (.inr hy))]
      · rfl
    · rfl
  case clos f caps =>
    simp only [SOp.xs] at h
    simp only [eff]
    rw [List.map_congr_left h]
  case build zs ps =>
    simp only [SOp.xs] at h
    have h1 : ∀ p ∈ ps, ev E' p.2.2 = ev E p.2.2 := fun p hp => h _ (List.mem_map.2 ⟨p, hp, rfl⟩)
    simp only [eff, Eff.mk.injEq, and_true]
    refine ⟨propext (forall_congr' fun p => forall_congr' fun hp => by rw [h1 p hp]), ?_⟩
    congr 1
    clear h
    induction ps generalizing zs with
    | nil => rfl
    | cons p ps ih =>
      simp only [List.foldl_cons, h1 p (by simp)]
      exact ih _ fun q hq => h1 q (by simp [hq])
  case lit e sz ps =>
    simp only [SOp.xs] at h
    simp only [eff, Eff.mk.injEq, and_true]
    exact ⟨propext (forall_congr' fun p => forall_congr' fun hp => by rw [h p hp]), by rw [List.map_congr_left fun p hp => by rw [h p hp]]⟩
  case litOwn o e sz ps =>
    simp only [SOp.xs] at h
    simp only [eff, Eff.mk.injEq, true_and]
    exact ⟨by rw [propext (forall_congr' fun p => forall_congr' fun hp => by rw [h p hp])], by rw [List.map_congr_left fun p hp => by rw [h p hp]]⟩
  case app o e sz x y =>
    simp only [SOp.xs, List.mem_cons, List.not_mem_nil, or_false, forall_eq_or_imp, forall_eq] at h
    simp only [eff, h.2]
    unfold QdO
    cases x with
    | v k => have := h.1; simp only [ev] at this; simp only [this]
    | c x => cases x <;> rfl
    | g x => rfl
  case appN o e sz x y =>
    simp only [SOp.xs, List.mem_cons, List.not_mem_nil, or_false, forall_eq_or_imp, forall_eq] at h
    simp only [eff, h.2]
    unfold QdO
    cases x with
    | v k => have := h.1; simp only [ev] at this; simp only [this]
    | c x => cases x <;> rfl
    | g x => rfl
  all_goals (simp only [SOp.xs, List.mem_cons, List.not_mem_nil, or_false, forall_eq_or_imp, forall_eq] at h; simp only [eff, h])

theorem QgL {M M' : Nat → Option AObj} {x : AV} {k : List AV → Eff} (h : ∀ o ∈ refs x, M' o = M o) : GH M' x k = GH M x k := by
  cases x <;> simp only [GH] <;> first | rfl | (simp only [refs, List.mem_singleton, forall_eq] at h; simp only [h])
theorem Qfv {M M' : Nat → Option AObj} {x : AV} {sz : Nat} (h : ∀ o ∈ refs x, M' o = M o) : Gv M' sz x = Gv M sz x := by
  cases x <;> simp only [Gv] <;> first | rfl | (simp only [refs, List.mem_singleton, forall_eq] at h; simp only [h])
theorem Qk3 {M M' : Nat → Option AObj} {x : AV} {sz : Nat} (h : ∀ o ∈ refs x, M' o = M o) : GE M' sz x = GE M sz x := by
  cases x <;> simp only [GE] <;> first | rfl | (simp only [refs, List.mem_singleton, forall_eq] at h; simp only [h])
theorem Qp0 {s : SOp} (hs : s.cls = 0) {E : Nat → AV} {M M' : Nat → Option AObj} : eff s E M' = eff s E M := by
  cases s <;> simp [SOp.cls] at hs <;> rfl
theorem Qp1 {s : SOp} (hs : s.cls ≤ 1) {E : Nat → AV} {M : Nat → Option AObj} : (eff s E M).ups = [] := by
  cases s <;> simp [SOp.cls] at hs <;> simp only [eff, KS, Kl, GH, KV, KW, Qb3, QkM, ok1, bad] <;> (repeat' split) <;> rfl

theorem QmJ {s : SOp} {E : Nat → AV} {M M' : Nat → Option AObj} (hp : (eff s E M).pre) (h : ∀ o ∈ QhT s E (eff s E M).ups, M' o = M o) : eff s E M' = eff s E M := by
  have hx : ∀ x ∈ s.xs, ∀ o ∈ refs (ev E x), M' o = M o := fun x hx o ho => h o (List.mem_append_left _ (QrY hx ho))
  have hu : ∀ o ∈ dom (eff s E M).ups, M' o = M o := fun o ho => h o (List.mem_append_right _ ho)
  clear h
  cases s
  case load1 x => simp only [SOp.xs, List.mem_singleton, forall_eq] at hx; simp only [eff, QgL hx]
  case loadN n x => simp only [SOp.xs, List.mem_singleton, forall_eq] at hx; simp only [eff, QgL hx]
  case nilck x =>
    simp only [SOp.xs, List.mem_singleton, forall_eq] at hx
    simp only [eff]
    generalize ev E x = y at hx
    cases y <;> first | rfl | (simp only [refs, List.mem_singleton, forall_eq] at hx; simp only [hx])
  case faddr off x =>
    simp only [SOp.xs, List.mem_singleton, forall_eq] at hx
    simp only [eff, KW]
    generalize ev E x = y at hx
    cases y <;> first | rfl | (simp only [refs, List.mem_singleton, forall_eq] at hx; simp only [hx])
  case lenL x =>
    simp only [SOp.xs, List.mem_singleton, forall_eq] at hx
    simp only [eff]
    generalize ev E x = y at hx
    cases y <;> first | rfl | (simp only [refs, List.mem_singleton, forall_eq] at hx; simp only [hx])
  case mvfrz x =>
    simp only [SOp.xs, List.mem_singleton, forall_eq] at hx
    simp only [eff]
    generalize ev E x = y at hx
    cases y <;> first | rfl | (simp only [refs, List.mem_singleton, forall_eq] at hx; simp only [hx])
  case iaddr sz x i =>
    simp only [SOp.xs, List.mem_cons, List.not_mem_nil, or_false, forall_eq_or_imp, forall_eq] at hx
    have hx := hx.1
    simp only [eff, Qb3]
    generalize ev E x = y at hx
    split
    · cases y <;> first | rfl | (simp only [refs, List.mem_singleton, forall_eq] at hx; simp only [hx])
    · rfl
  case iaddrA n sz x i =>
    simp only [SOp.xs, List.mem_cons, List.not_mem_nil, or_false, forall_eq_or_imp, forall_eq] at hx
    have hx := hx.1
    simp only [eff, KW]
    generalize ev E x = y at hx
    split
    · cases y <;> first | rfl | (simp only [refs, List.mem_singleton, forall_eq] at hx; simp only [hx])
    · rfl
  case isnil neg x =>
    simp only [SOp.xs, List.mem_singleton, forall_eq] at hx
    simp only [eff]
    generalize ev E x = y at hx
    cases y <;> first | rfl | (simp only [refs, List.mem_singleton, forall_eq] at hx; simp only [hx])
  case slSl sz x lo hi =>
    have hx := hx x (by simp [SOp.xs])
    simp only [eff]
    generalize ev E x = y at hx
    cases y <;> first | rfl | (simp only [refs, List.mem_singleton, forall_eq] at hx; simp only [hx])
  case store n x y =>
    have hx := hx x (by simp [SOp.xs])
    simp only [eff]
    generalize ev E x = z at hx
    cases z <;> first | rfl | (simp only [refs, List.mem_singleton, forall_eq] at hx; simp only [hx])
  case app o e sz x y =>
    have hy := hx y (by simp [SOp.xs])
    have hx := hx x (by simp [SOp.xs])
    simp only [eff, Qfv hy] at hu hp ⊢
    cases x with
    | v k =>
      simp only [ev] at hx
      simp only [QdO] at hp ⊢
      generalize E k = z at hx hp
      cases z <;> try rfl
      rename_i o' ver lo hi
      simp only [refs, List.mem_singleton, forall_eq] at hx
      have : o = o' := by
        simp only at hp
        split at hp
        · exact hp.1
        · exact hp.elim
      subst this
      simp only [hx]
    | c z =>
      cases z <;> simp only [QdO] at hu ⊢
      rw [hu o (by simp [dom])]
    | g z => rfl
  case appN o e sz x y =>
    have hy := hx y (by simp [SOp.xs])
    have hx := hx x (by simp [SOp.xs])
    simp only [eff, Qk3 hy] at hu hp ⊢
    cases x with
    | v k =>
      simp only [ev] at hx
      simp only [QdO] at hp ⊢
      generalize E k = z at hx hp
      cases z <;> try rfl
      rename_i o' ver lo hi
      simp only [refs, List.mem_singleton, forall_eq] at hx
      have : o = o' := by
        simp only at hp
        split at hp
        · exact hp.1
        · exact hp.elim
      subst this
      simp only [hx]
    | c z =>
      cases z <;> simp only [QdO] at hu ⊢
      rw [hu o (by simp [dom])]
    | g z => rfl
  case b2s x =>
    have hx := hx x (by simp [SOp.xs])
    simp only [eff, Qfv hx]
  case look ok kk z m k =>
    have hx := hx m (by simp [SOp.xs])
    simp only [eff]
    generalize ev E m = y at hx
    cases y <;> simp only [QkM] <;> first | rfl | (simp only [refs, List.mem_singleton, forall_eq] at hx; simp only [hx])
  case mset kk m k x =>
    have hx := hx m (by simp [SOp.xs])
    simp only [eff]
    generalize ev E m = y at hx
    cases y <;> simp only [QkN] <;> first | rfl | (simp only [refs, List.mem_singleton, forall_eq] at hx; simp only [hx])
  case mkmap o kk => simp only [eff] at hu ⊢; rw [hu o (by simp [dom])]
  case newnil o e sz => simp only [eff] at hu ⊢; rw [hu o (by simp [dom])]
  case alloc o zs => simp only [eff] at hu ⊢; rw [hu o (by simp [dom])]
  case box o x => simp only [eff] at hu ⊢; rw [hu o (by simp [dom])]
  case litOwn o e sz ps => simp only [eff] at hu ⊢; rw [hu o (by simp [dom])]
  case mk o e sz zs n =>
    simp only [eff] at hu ⊢
    split
    · rename_i k n' hn
      simp only [hn] at hu
      rw [hu o (by simp [dom])]
    · rfl
  all_goals rfl

theorem Qiu {M M' : Nat → Option AObj} : ∀ (l : List AV), (∀ o ∈ Yx l, M' o = M o) → QaJ M' l = QaJ M l := by
  suffices h : (∀ (x : AV), (∀ o ∈ refs x, M' o = M o) → pur M' x = pur M x) from by
    intro l
    induction l with
    | nil => intro _; simp [QaJ]
    | cons x xs ih =>
      intro hl
      simp only [Yx, List.mem_append] at hl
      simp only [QaJ, h x fun o ho => hl o (.inl ho), ih fun o ho => hl o (.inr ho)]
  intro x
  exact AV.rec (motive_1 := fun x => (∀ o ∈ refs x, M' o = M o) → pur M' x = pur M x) (motive_2 := fun l => (∀ o ∈ Yx l, M' o = M o) → QaJ M' l = QaJ M l) (motive_3 := fun _ => True)
    (fun _ _ _ => by simp [pur]) (fun _ _ => by simp [pur]) (fun _ _ => by simp [pur]) (fun ls ih hl => by simp only [refs] at hl; simp only [pur, ih hl]) (fun _ _ _ => by simp [pur])
    (fun _ _ _ _ _ => by simp [pur]) (fun o ver lo hi hl => by simp only [pur, hl o (by simp [refs])]) (fun _ _ _ => by simp [pur]) (fun _ _ _ _ _ => by simp [pur]) (fun _ _ _ _ => by simp [pur])
    (fun _ _ _ _ _ _ => by simp [pur]) (fun _ => by simp [pur]) (fun _ => by simp [QaJ])
    (fun x xs ih1 ih2 hl => by simp only [Yx, List.mem_append] at hl; simp only [QaJ, ih1 fun o ho => hl o (.inl ho), ih2 fun o ho => hl o (.inr ho)]) trivial (fun _ _ _ _ => trivial) x

theorem Qk4 {M M' K : Nat → Option AObj} : ∀ (l : List AV), (∀ o ∈ Yx l, M' o = M o) → Vx M' K l = Vx M K l := by
  suffices h : (∀ (x : AV), (∀ o ∈ refs x, M' o = M o) → Vo M' K x = Vo M K x) from by
    intro l
    induction l with
    | nil => intro _; simp [Vx]
    | cons x xs ih =>
      intro hl
      simp only [Yx, List.mem_append] at hl
      simp only [Vx, h x fun o ho => hl o (.inl ho), ih fun o ho => hl o (.inr ho)]
  intro x
  exact AV.rec (motive_1 := fun x => (∀ o ∈ refs x, M' o = M o) → Vo M' K x = Vo M K x) (motive_2 := fun l => (∀ o ∈ Yx l, M' o = M o) → Vx M' K l = Vx M K l) (motive_3 := fun _ => True)
    (fun _ _ _ => by simp [Vo]) (fun _ _ => by simp [Vo]) (fun _ _ => by simp [Vo]) (fun ls ih hl => by simp only [refs] at hl; simp only [Vo, ih hl]) (fun _ _ _ => by simp [Vo])
    (fun _ _ _ _ _ => by simp [Vo]) (fun o ver lo hi hl => by simp only [Vo, hl o (by simp [refs])]) (fun _ _ _ => by simp [Vo]) (fun _ _ _ _ _ => by simp [Vo]) (fun _ _ _ _ => by simp [Vo])
    (fun _ _ _ _ _ _ => by simp [Vo]) (fun _ => by simp [Vo]) (fun _ => by simp [Vx])
    (fun x xs ih1 ih2 hl => by simp only [Yx, List.mem_append] at hl; simp only [Vx, ih1 fun o ho => hl o (.inl ho), ih2 fun o ho => hl o (.inr ho)]) trivial (fun _ _ _ _ => trivial) x

theorem QjW {E : Nat → AV} (l : List SX) : Yx (l.map (ev E)) = fpX E l := by
  induction l with
  | nil => simp [Yx, fpX]
  | cons x xs ih => simp only [List.map_cons, Yx, fpX, ih]

theorem Qco {l : List (Nat × AObj)} {p : Nat × AObj} (h : p ∈ l) : p.1 ∈ dom l := List.mem_map.2 ⟨p, h, rfl⟩

variable {P : Program}
theorem QgM {f : FuncId} {args : List AV} {M M' : Nat → Option AObj} {v : AV} {ups : List (Nat × AObj)} (h : ∀ o ∈ Yx args ++ dom ups, M' o = M o) (hc : Qcm P f args M v ups) : Qcm P f args M' v ups := by
  rcases hc with ⟨pre, h1, h2, h3, h4, h5, h6, h7, h8⟩ | ⟨h1, args', h2, h3⟩ | ⟨args', h1, h2, h3, h4⟩ | ⟨args', keep, news, rfl, hk, h1, h2, h3, h4⟩
  · refine .inl ⟨pre, h1, fun p hp => ?_, fun p hp => ?_, h4, h5, h6, h7, h8⟩
    · rw [h p.1, h2 p hp]
      refine List.mem_append_right _ ?_
      rw [List.all_eq_true] at h4
      simpa using h4 p.1 (Qco hp)
    · rw [h p.1 (List.mem_append_right _ (Qco hp))]
      exact h3 p hp
  · exact .inr (.inl ⟨h1, args', by rw [Qiu args fun o ho => h o (List.mem_append_left _ ho)]; exact h2, h3⟩)
  · exact .inr (.inr (.inl ⟨args', by rw [Qiu args fun o ho => h o (List.mem_append_left _ ho)]; exact h1, h2, fun p hp => by rw [h p.1 (List.mem_append_right _ (Qco hp))]; exact h3 p hp, h4⟩))
  · exact .inr (.inr (.inr ⟨args', keep, news, rfl, fun p hp => by rw [h p.1 (List.mem_append_right _ (Qco (List.mem_append_right _ hp)))]; exact hk p hp,
      by rw [Qk4 args fun o ho => h o (List.mem_append_left _ ho)]; exact h1, h2, fun p hp => by rw [h p.1 (List.mem_append_right _ (Qco (List.mem_append_left _ hp)))]; exact h3 p hp, h4⟩))

theorem QjX (a b : List AV) : Yx (a ++ b) = Yx a ++ Yx b := by
  induction a with
  | nil => simp [Yx]
  | cons x xs ih => simp only [List.cons_append, Yx, ih, List.append_assoc]
/-- One operation's run. -/
def QhZ (P : Program) (s : SOp) (E : Nat → AV) (M : Nat → Option AObj) (v : AV) (ups : List (Nat × AObj)) : Prop :=
  match s with
  | .call f args => Qcm P f (args.map (ev E)) M v ups
  | .callV x args => match ev E x with
    | .fn f a b => W3 P f = true ∧ Qcm P f (a ++ (args.map (ev E) ++ b)) M v ups
    | _ => False
  | s => (eff s E M).pre ∧ v = (eff s E M).v ∧ ups = (eff s E M).ups

theorem QmK {f : FuncId} {args : List SX} {E : Nat → AV} {M : Nat → Option AObj} {v : AV} {ups : List (Nat × AObj)} : QhZ P (.call f args) E M v ups = Qcm P f (args.map (ev E)) M v ups := rfl
theorem Qcp {x : SX} {args : List SX} {E : Nat → AV} {M : Nat → Option AObj} {v : AV} {ups : List (Nat × AObj)} : QhZ P (.callV x args) E M v ups = (match ev E x with
    | .fn f a b => W3 P f = true ∧ Qcm P f (a ++ (args.map (ev E) ++ b)) M v ups
    | _ => False) := rfl
theorem Qge {s : SOp} (hs : ∀ f args, s ≠ .call f args) (hs2 : ∀ x args, s ≠ .callV x args) {E : Nat → AV} {M : Nat → Option AObj} {v : AV} {ups : List (Nat × AObj)} : QhZ P s E M v ups = ((eff s E M).pre ∧ v = (eff s E M).v ∧ ups = (eff s E M).ups) := by
  unfold QhZ
  split
  · exact absurd rfl (hs _ _)
  · exact absurd rfl (hs2 _ _)
  · rfl
theorem QlZ {X : Env P} {s : SOp} {st : St} {K : AV → List (Nat × AObj) → Prop} (h : Gk X s st K) : ∃ v ups, QhZ P s (getE st.E) (getM st.M) v ups ∧ K v ups := by
  unfold Gk at h
  split at h
  · exact QbD h
  · rename_i x args
    unfold QdT at h
    split at h
    · rename_i f a b hf
      obtain ⟨h0, h⟩ := h
      obtain ⟨v, ups, h1, h2⟩ := QbD h
      exact ⟨v, ups, by rw [Qcp, hf]; exact ⟨h0, h1⟩, h2⟩
    · exact h.elim
  · rename_i hs hs2
    obtain ⟨h1, h2⟩ := h
    exact ⟨_, _, by rw [Qge hs hs2]; exact ⟨h1, rfl, rfl⟩, h2⟩
theorem Qoa {f : FuncId} {args : List AV} {M : Nat → Option AObj} {K : AV → List (Nat × AObj) → Prop} {v : AV} {ups : List (Nat × AObj)} (h : Qcm P f args M v ups) (hk : K v ups) : Qfu (Env.nil P) f args M K := by
  show Qk1 P (Env.nil P) f args M K (QaJ M args)
  cases QaJ M args <;> exact ⟨v, ups, h, hk⟩
theorem Qp2 {s : SOp} {st : St} {v : AV} {ups : List (Nat × AObj)} (h : QhZ P s (getE st.E) (getM st.M) v ups) : Gk (Env.nil P) s st fun v' ups' => v' = v ∧ ups' = ups := by
  unfold Gk
  split
  · exact Qoa h ⟨rfl, rfl⟩
  · rw [Qcp] at h
    unfold QdT
    split at h
    · rename_i f a b hf
      rw [hf]
      exact ⟨h.1, Qoa h.2 ⟨rfl, rfl⟩⟩
    · exact h.elim
  · rename_i hs hs2
    rw [Qge hs hs2] at h
    exact ⟨h.1, h.2.1.symm, h.2.2.symm⟩

theorem Qk5 {s : SOp} {E E' : Nat → AV} {M M' : Nat → Option AObj} {v : AV} {ups : List (Nat × AObj)} (hE : ∀ x ∈ s.xs, ev E' x = ev E x) (hM : s.cls = 0 ∨ ∀ o ∈ QhT s E ups, M' o = M o) (h : QhZ P s E M v ups) : QhZ P s E' M' v ups := by
  by_cases hs2 : ∃ x args, s = .callV x args
  · obtain ⟨x, args, rfl⟩ := hs2
    rw [Qcp] at h ⊢
    rcases hM with hM | hM
    · simp [SOp.cls] at hM
    have hx : ev E' x = ev E x := hE x (by simp [SOp.xs])
    have ha : args.map (ev E') = args.map (ev E) := List.map_congr_left fun y hy => hE y (by simp [SOp.xs, hy])
    rw [hx, ha]
    split at h
    · rename_i f a b hf
      refine ⟨h.1, QgM (fun o ho => hM o ?_) h.2⟩
      simp only [QhT, SOp.xs, fpX, hf, refs, List.mem_append] at ho ⊢
      rw [QjX, QjX, QjW] at ho
      simp only [List.mem_append] at ho
      rcases ho with (h1 | h1 | h1) | h1
      · exact .inl (.inl (.inl h1))
      · exact .inl (.inr h1)
      · exact .inl (.inl (.inr h1))
      · exact .inr h1
    · exact h
  have hs2 : ∀ x args, s ≠ .callV x args := fun x args e => hs2 ⟨x, args, e⟩
  by_cases hs : ∀ f args, s ≠ .call f args
  · rw [Qge hs hs2] at h ⊢
    have h1 : eff s E' M' = eff s E M := by
      rw [QmI hE]
      rcases hM with hM | hM
      · exact Qp0 hM
      · exact QmJ h.1 (by rw [← h.2.2]; exact hM)
    rw [h1]; exact h
  · have hs : ∃ f args, s = .call f args := Classical.byContradiction fun hn => hs fun f args e => hn ⟨f, args, e⟩
    obtain ⟨f, args, rfl⟩ := hs
    rw [QmK] at h ⊢
    rcases hM with hM | hM
    · simp [SOp.cls] at hM
    rw [List.map_congr_left (l := args) (f := ev E') (g := ev E) hE]
    exact QgM (by rw [QjW]; exact hM) h
theorem Qob {s : SOp} {E : Nat → AV} {M : Nat → Option AObj} {v : AV} {ups : List (Nat × AObj)} (h : QhZ P s E M v ups) (hs : s.cls ≤ 1) : ups = [] := by
  have hs' : ∀ f args, s ≠ .call f args := by rintro f args rfl; simp [SOp.cls] at hs
  have hs2 : ∀ x args, s ≠ .callV x args := by rintro f args rfl; simp [SOp.cls] at hs
  rw [Qge hs' hs2] at h
  rw [h.2.2, Qp1 hs]
end Go.Ve

namespace Go.Ve
open Go.RowKit

structure Eqv (s t : St) : Prop where
  e : getE s.E = getE t.E
  m : getM s.M = getM t.M
theorem Eqv.refl (s : St) : Eqv s s := ⟨rfl, rfl⟩
theorem Eqv.symm {s t : St} (h : Eqv s t) : Eqv t s := ⟨h.e.symm, h.m.symm⟩
theorem Eqv.trans {s t u : St} (h : Eqv s t) (k : Eqv t u) : Eqv s u := ⟨h.e.trans k.e, h.m.trans k.m⟩

theorem UQ (st : St) (dst : Option Nat) (v : AV) (ups : List (Nat × AObj)) (k : Nat) : getE (st.put dst v ups).E k = if dst = some k then v else getE st.E k := by
  cases dst with
  | none => simp [St.put]
  | some d =>
    simp only [St.put, ZP]
    by_cases e : k = d
    · subst e; simp
    · simp [e, Ne.symm e]
theorem UR (st : St) (dst : Option Nat) (v : AV) (ups : List (Nat × AObj)) (o : Nat) : getM (st.put dst v ups).M o = (getM ups o).or (getM st.M o) := by
  simp only [St.put, W2]
theorem Eqv.put {s t : St} (h : Eqv s t) (dst : Option Nat) (v : AV) (ups : List (Nat × AObj)) : Eqv (s.put dst v ups) (t.put dst v ups) :=
  ⟨funext fun k => by rw [UQ, UQ, h.e], funext fun o => by rw [UR, UR, h.m]⟩

section
variable {P : Program} {A : A0} {C0 : Ctx}

theorem Rel.eqv {s t : St} {a : Act} {w : World} (h : Rel A C0 s a w) (k : Eqv s t) : Rel A C0 t a w := by
  obtain ⟨⟨loc, h1, h2, h3⟩, h4, h5⟩ := h
  rw [k.m] at h1 h2 h3
  exact ⟨⟨loc, h1, h2, fun i => by rw [← k.e]; exact h3 i⟩, h4, h5⟩

/-- One operation's step, with the objects that it comes to. -/
def Stp (P : Program) (s : SOper) (st : St) (fp : List Nat) (st' : St) : Prop :=
  ((s.g = none ∨ ∃ t b, s.g = some (t, b) ∧ getE st.E t = .bool b) ∧ ∃ v ups, QhZ P s.op (getE st.E) (getM st.M) v ups ∧ fp = QhT s.op (getE st.E) ups ∧ Eqv (st.put s.dst v ups) st') ∨
  (fp = [] ∧ ∃ t b, s.g = some (t, b) ∧ (getE st.E t = .bool (!b) ∨ getE st.E t = .tup []) ∧ Eqv (st.put s.dst (.tup []) []) st')

/-- What a step comes to: its value, what it writes. -/
theorem Stp.cases {s : SOper} {st : St} {fp : List Nat} {st' : St} (h : Stp P s st fp st') : ∃ v ups, Eqv (st.put s.dst v ups) st' ∧ (∀ o ∈ dom ups, o ∈ fp) ∧ (s.op.cls ≤ 1 → ups = []) ∧
    ∀ s2 : St, (∀ k ∈ s.reads, getE s2.E k = getE st.E k) → (s.op.cls = 0 ∨ ∀ o ∈ fp, getM s2.M o = getM st.M o) → Stp P s s2 fp (s2.put s.dst v ups) := by
  rcases h with ⟨hg, v, ups, hr, rfl, he⟩ | ⟨rfl, t, b, hg, ht, he⟩
  · refine ⟨v, ups, he, fun o ho => List.mem_append_right _ ho, Qob hr, fun s2 hE hM => .inl ⟨?_, v, ups, ?_, ?_, Eqv.refl _⟩⟩
    · rcases hg with hg | ⟨t, b, hg, ht⟩
      · exact .inl hg
      · exact .inr ⟨t, b, hg, by rw [hE t (by simp [SOper.reads, hg])]; exact ht⟩
    · exact Qk5 (QlY fun k hk => hE k (by simp [SOper.reads, hk])) hM hr
    · unfold QhT
      rw [Qn9 (QlY fun k hk => hE k (by simp [SOper.reads, hk]))]
  · refine ⟨.tup [], [], he, fun o ho => by simp [dom] at ho, fun _ => rfl, fun s2 hE hM => .inr ⟨rfl, t, b, hg, ?_, Eqv.refl _⟩⟩
    rw [hE t (by simp [SOper.reads, hg])]; exact ht

theorem Stp.eqv {s : SOper} {st st2 : St} {fp : List Nat} {st' st'2 : St} (h : Stp P s st fp st') (h1 : Eqv st st2) (h2 : Eqv st' st'2) : Stp P s st2 fp st'2 := by
  unfold Stp at *
  rw [← h1.e, ← h1.m]
  rcases h with ⟨hg, v, ups, hr, hf, he⟩ | ⟨hf, t, b, hg, ht, he⟩
  · exact .inl ⟨hg, v, ups, hr, hf, (h1.put _ _ _).symm.trans (he.trans h2)⟩
  · exact .inr ⟨hf, t, b, hg, ht, (h1.put _ _ _).symm.trans (he.trans h2)⟩

/-- Slots apart. -/
def Ql0 (a b : SOper) : Bool :=
  (match a.dst with | some d => !b.reads.contains d && b.dst != some d | none => true) &&
  (match b.dst with | some d => !a.reads.contains d | none => true)
def QfJ (l r : List Nat) : Bool := l.all fun x => !r.contains x
def Qp3 (ca cb : Nat) : Bool := ca == 0 || cb == 0 || (decide (ca ≤ 1) && decide (cb ≤ 1))

/-- Two steps change places. -/
theorem Stp.swap {a b : SOper} {s s1 s2 : St} {fa fb : List Nat} (ha : Stp P a s fa s1) (hb : Stp P b s1 fb s2) (hap : Ql0 a b = true) (hf : Qp3 a.op.cls b.op.cls = true ∨ QfJ fa fb = true) :
    ∃ s1', Stp P b s fb s1' ∧ Stp P a s1' fa s2 := by
  obtain ⟨va, ua, ea, da, ca, ra⟩ := ha.cases
  obtain ⟨vb, ub, eb, db, cb, rb⟩ := hb.cases
  simp only [Ql0, Bool.and_eq_true] at hap
  obtain ⟨h1, h2⟩ := hap
  have hab : ∀ k ∈ b.reads, a.dst ≠ some k := by
    intro k hk e
    rw [e] at h1
    simp only [Bool.and_eq_true, Bool.not_eq_true', List.contains_eq_mem, decide_eq_false_iff_not] at h1
    exact h1.1 hk
  have hba : ∀ k ∈ a.reads, b.dst ≠ some k := by
    intro k hk e
    rw [e] at h2
    simp only [Bool.not_eq_true', List.contains_eq_mem, decide_eq_false_iff_not] at h2
    exact h2 hk
  have hdd : ∀ d, a.dst = some d → b.dst ≠ some d := by
    intro d hd e
    rw [hd] at h1
    simp [e] at h1
  have hmem : QfJ fa fb = true → ∀ o, o ∈ fa → o ∈ fb → False := by
    intro h o h1 h2
    simp only [QfJ, List.all_eq_true, Bool.not_eq_true', List.contains_eq_mem, decide_eq_false_iff_not] at h
    exact h o h1 h2
  have hnot : ∀ {u : List (Nat × AObj)} {o : Nat}, o ∉ dom u → getM u o = none := by
    intro u o ho
    cases h : getM u o with
    | none => rfl
    | some x => exact absurd (by simpa using JV h) ho
  have hfoot : a.op.cls = 0 ∨ b.op.cls = 0 ∨ (a.op.cls ≤ 1 ∧ b.op.cls ≤ 1) ∨ QfJ fa fb = true := by
    rcases hf with hf | hf
    · simp only [Qp3, Bool.or_eq_true, beq_iff_eq, Bool.and_eq_true, decide_eq_true_eq] at hf
      rcases hf with (hf | hf) | hf
      · exact .inl hf
      · exact .inr (.inl hf)
      · exact .inr (.inr (.inl hf))
    · exact .inr (.inr (.inr hf))
  -- b first
  have hb1 : Stp P b s fb (s.put b.dst vb ub) := by
    refine rb s (fun k hk => ?_) ?_
    · rw [← ea.e, UQ, if_neg (hab k hk)]
    · by_cases hb0 : b.op.cls = 0
      · exact .inl hb0
      refine .inr fun o ho => ?_
      rw [← ea.m, UR]
      have : getM ua o = none := by
        rcases hfoot with h | h | h | h
        · rw [ca (by omega)]; rfl
        · exact absurd h hb0
        · rw [ca h.1]; rfl
        · exact hnot fun hu => hmem h o (da o hu) ho
      rw [this]; rfl
  refine ⟨_, hb1, ?_⟩
  have ha1 := ra (s.put b.dst vb ub) (fun k hk => by rw [UQ, if_neg (hba k hk)]) (by
    by_cases ha0 : a.op.cls = 0
    · exact .inl ha0
    refine .inr fun o ho => ?_
    rw [UR]
    have : getM ub o = none := by
      rcases hfoot with h | h | h | h
      · exact absurd h ha0
      · rw [cb (by omega)]; rfl
      · rw [cb h.2]; rfl
      · exact hnot fun hu => hmem h o ho (db o hu)
    rw [this]; rfl)
  refine ha1.eqv (Eqv.refl _) (Eqv.trans ⟨?_, ?_⟩ eb)
  · funext k
    rw [UQ, UQ, UQ, ← ea.e, UQ]
    by_cases e1 : a.dst = some k
    · simp [e1, hdd k e1]
    · simp [e1]
  · funext o
    rw [UR, UR, UR, ← ea.m, UR]
    rcases hfoot with h | h | h | h
    · rw [ca (by omega)]; rfl
    · rw [cb (by omega)]; rfl
    · rw [ca h.1]; rfl
    · cases hu : getM ua o with
      | none => rfl
      | some x =>
        have : getM ub o = none := hnot fun hv => hmem h o (da o (by simpa using JV hu)) (db o hv)
        rw [this]; rfl

/-- A step of a chain: its number, the operation, its objects. -/
structure Lk where
  i : Nat
  s : SOper
  fp : List Nat
def Chain (P : Program) : List Lk → St → St → Prop
  | [], st, st' => Eqv st st'
  | x :: r, st, st' => ∃ st1, Stp P x.s st x.fp st1 ∧ Chain P r st1 st'

def okPair (x y : Lk) : Prop := Ql0 x.s y.s = true ∧ (Qp3 x.s.op.cls y.s.op.cls = true ∨ QfJ x.fp y.fp = true)

theorem Chain.bubble {y : Lk} {r : List Lk} : ∀ {l : List Lk} {s s' : St}, Chain P (l ++ y :: r) s s' → (∀ x ∈ l, okPair x y) → ∃ s1, Stp P y.s s y.fp s1 ∧ Chain P (l ++ r) s1 s'
  | [], s, s', h, _ => h
  | x :: l, s, s', h, hp => by
    obtain ⟨s1, h1, h2⟩ := h
    obtain ⟨s2, h3, h4⟩ := Chain.bubble (l := l) h2 fun z hz => hp z (List.mem_cons_of_mem _ hz)
    obtain ⟨s1', h5, h6⟩ := h1.swap h3 (hp x (by simp)).1 (hp x (by simp)).2
    exact ⟨s1', h5, s2, h6, h4⟩

/-- One operation, at whatever QhU. -/
theorem Qoc {st st' : St} {a : Act} {w : World} {ops : Array Oper} {i : Nat} {o : Oper} {s : SOper} {fp : List Nat} (ho : ops[i]? = some o) (hok : okOper P A.n ops o s = true) (hR : Rel A C0 st a w) (hS : Stp P s st fp st') {Q : Exit → Act → World → Prop} {K : Act → World → Prop}
    (hl : ∀ a' w', Rel A C0 st' a' w' → K a' w') : wpOp P ops Q i K a w := by
  have hok' := hok
  simp only [okOper, Bool.and_eq_true] at hok'
  obtain ⟨⟨hd, _⟩, hg⟩ := hok'
  unfold wpOp
  simp only [ho]
  have hy : ∀ {t : Nat} {b : Bool}, s.g = some (t, b) → ∃ j, o.guard = some (j, b) ∧ (∀ b', getE st.E t = .bool b' → yielded ops a.tmps j = some b') ∧ (getE st.E t = .tup [] → yielded ops a.tmps j = none) := by
    intro t b hsg
    rw [hsg] at hg
    split at hg
    · rename_i h; cases h
    · rename_i j want' t' want'' hog h
      cases h
      simp only [Bool.and_eq_true, beq_iff_eq] at hg
      obtain ⟨rfl, hg⟩ := hg
      split at hg
      · rename_i t2 hj
        simp only [Bool.and_eq_true, beq_iff_eq, decide_eq_true_eq] at hg
        obtain ⟨rfl, ht⟩ := hg
        obtain ⟨loc, hI, h0, hE⟩ := hR.ex
        exact ⟨j, hog, fun b' hb => QgJ hR.size hE hj ht hb, fun hb => QcO hR.size hE hj ht hb⟩
      · cases hg
    · cases hg
  rcases hS with ⟨hg', v, ups, hr, rfl, he⟩ | ⟨rfl, t, b, hsg, hb, he⟩
  · have : Region.wanted o (yielded ops a.tmps) = true := by
      rcases hg' with hsg | ⟨t, b, hsg, hb⟩
      · rw [hsg] at hg
        split at hg
        · rename_i hog _; simp [Region.wanted, hog]
        · rename_i h; cases h
        · cases hg
      · obtain ⟨j, h1, h2, _⟩ := hy hsg
        simp [Region.wanted, h1, h2 b hb]
    rw [if_pos this]
    refine .inl (Oper.wp_mono ?_ (Qit hok hR (Qp2 hr) Q))
    rintro a' w' ⟨v', ups', ⟨rfl, rfl⟩, h2⟩
    exact hl a' w' (h2.eqv he)
  · obtain ⟨j, h1, h2, h3⟩ := hy hsg
    have : Region.wanted o (yielded ops a.tmps) = false := by
      rcases hb with hb | hb
      · simp [Region.wanted, h1, h2 _ hb]
      · simp [Region.wanted, h1, h3 hb]
    simp only [this]
    obtain ⟨loc, hI, h0, hE⟩ := hR.ex
    exact hl _ w (Rel.eqv (Qcn (n := A.n) hR.size hR.defers hd hE hI h0 (Ext.refl _) QgI) he)

/-! ## what must come ahead -/
def befs (o : Oper) : List Nat := (o.after.toList.filter (Region.binds .any)).map (·.on)
def dd : List Nat → List Nat
  | [] => []
  | x :: r => if (dd r).contains x then dd r else x :: dd r
theorem Qod {k : Nat} : ∀ {l : List Nat}, k ∈ dd l → k ∈ l
  | [], h => h
  | x :: r, h => by
    simp only [dd] at h
    split at h
    · exact List.mem_cons_of_mem _ (Qod h)
    · rcases List.mem_cons.1 h with rfl | h
      · simp
      · exact List.mem_cons_of_mem _ (Qod h)
/-- Of each operation: all that come up ahead of it in every order. -/
def ancs : List Oper → List (List Nat) → List (List Nat)
  | [], acc => acc
  | o :: r, acc => ancs r (acc ++ [dd ((befs o).flatMap fun j => j :: acc.getD j [])])

theorem Qi0 : ∀ (l : List Oper) (acc : List (List Nat)) (i : Nat), i < acc.length → (ancs l acc).getD i [] = acc.getD i []
  | [], acc, i, _ => rfl
  | o :: r, acc, i, h => by
    simp only [ancs]
    rw [Qi0 r _ i (by simp; omega), List.getD_eq_getElem?_getD, List.getD_eq_getElem?_getD, List.getElem?_append_left h]
theorem Ql1 : ∀ (l : List Oper) (acc : List (List Nat)) (i : Nat) (o : Oper), l[i]? = some o → ∀ k ∈ (ancs l acc).getD (acc.length + i) [], ∃ j ∈ befs o, k = j ∨ (j < acc.length + i ∧ k ∈ (ancs l acc).getD j [])
  | [], acc, i, o, h => by simp at h
  | o' :: r, acc, 0, o, h => by
    simp at h; subst h
    intro k hk
    simp only [ancs, Nat.add_zero] at hk
    rw [Qi0 r _ _ (by simp)] at hk
    simp only [List.getD_eq_getElem?_getD] at hk
    simp at hk
    have hk := Qod hk
    simp at hk
    obtain ⟨j, hj, h1⟩ := hk
    refine ⟨j, hj, ?_⟩
    rcases h1 with h1 | h1
    · exact .inl h1
    · by_cases hlt : j < acc.length
      · refine .inr ⟨by omega, ?_⟩
        simp only [ancs]
        rw [Qi0 r _ _ (by simp; omega), List.getD_eq_getElem?_getD, List.getElem?_append_left hlt]
        exact h1
      · rw [List.getElem?_eq_none (by omega)] at h1
        simp at h1
  | o' :: r, acc, i + 1, o, h => by
    have := Ql1 r (acc ++ [dd ((befs o').flatMap fun j => j :: acc.getD j [])]) i o (by simpa using h)
    simp only [ancs]
    simp only [List.length_append, List.length_cons, List.length_nil, Nat.zero_add] at this
    rw [show acc.length + (i + 1) = acc.length + 1 + i by omega]
    exact this

def ListedClosed (ops : Array Oper) (listed : Array Bool) : Prop :=
  ∀ j o, ops[j]? = some o → listed.getD j true = true → ∀ k ∈ befs o, listed.getD k false = true

theorem Ql2 {o : Oper} {k : Nat} : k ∈ befs o ↔ ∃ e ∈ o.after, Region.binds .any e = true ∧ e.on = k := by
  simp [befs, and_assoc]

theorem QmL {ops : Array Oper} {listed : Array Bool} (hsz : listed.size = ops.size) (hc : ListedClosed ops listed) : ∀ (i : Nat) (o : Oper), ops[i]? = some o → (∀ k ∈ befs o, listed.getD k false = true) → ∀ k ∈ (ancs ops.toList []).getD i [], listed.getD k false = true := by
  intro i
  induction i using Nat.strongRecOn with
  | _ i ih =>
    intro o ho hb k hk
    have := Ql1 ops.toList [] i o (by simpa using ho) k (by simpa using hk)
    obtain ⟨j, hj, h1⟩ := this
    have hlj := hb j hj
    rcases h1 with rfl | ⟨h1, h2⟩
    · exact hlj
    · simp only [List.length_nil, Nat.zero_add] at h1
      have hlt : j < listed.size := by
        rcases Nat.lt_or_ge j listed.size with h' | h'
        · exact h'
        · rw [Array.getD_eq_getD_getElem?, Array.getElem?_eq_none h'] at hlj
          cases hlj
      obtain ⟨oj, hoj⟩ : ∃ oj, ops[j]? = some oj := ⟨ops[j]'(by omega), by simp [hsz ▸ hlt]⟩
      refine ih j h1 oj hoj (hc j oj hoj ?_) k h2
      simp [hlt] at hlj ⊢
      exact hlj

/-- The chain's invariant. -/
structure Unl (P : Program) (n : Nat) (ops : Array Oper) (listed : Array Bool) (l : List Lk) : Prop where
  size : listed.size = ops.size
  closed : ListedClosed ops listed
  ex : ∀ i, i < ops.size → listed.getD i true = false → ∃ x ∈ l, x.i = i
  un : ∀ x ∈ l, listed.getD x.i true = false ∧ ∃ o, ops[x.i]? = some o ∧ okOper P n ops o x.s = true ∧ ∀ k ∈ befs o, k < x.i
  pw : l.Pairwise fun x y => x.i < y.i ∧ (okPair x y ∨ x.i ∈ (ancs ops.toList []).getD y.i [])

theorem QjY {ops : Array Oper} {Q : Exit → Act → World → Prop} {sf : St} (hQ : ∀ st a w, Eqv st sf → Rel A C0 st a w → Q .normal a w) :
    ∀ (fuel : Nat) (listed : Array Bool) (l : List Lk) (st : St) (a : Act) (w : World), l.length = fuel → Unl P A.n ops listed l → Chain P l st sf → Rel A C0 st a w → wpAny P .any ops Q fuel listed a w
  | 0, listed, l, st, a, w, hl, hU, hC, hR => by
    cases l with
    | cons _ _ => simp at hl
    | nil =>
      refine ⟨?_, hQ st a w hC hR⟩
      refine List.eq_nil_iff_forall_not_mem.2 fun i hi => ?_
      obtain ⟨h1, o, ho, _⟩ := mem_ready.1 hi
      obtain ⟨x, hx, _⟩ := hU.ex i (Array.getElem?_eq_some_iff.1 ho).1 h1
      cases hx
  | fuel + 1, listed, l, st, a, w, hl, hU, hC, hR => by
    refine ⟨fun hnil => ?_, fun i hi => ?_⟩
    · -- the first of the chain is ready
      cases l with
      | nil => simp at hl
      | cons x r =>
        exfalso
        obtain ⟨h1, o, ho, hok, hb⟩ := hU.un x (by simp)
        have : x.i ∈ Region.ready .any ops listed := by
          refine mem_ready.2 ⟨h1, o, ho, fun e he hbd => ?_⟩
          have hlt := hb e.on (Ql2.2 ⟨e, he, hbd, rfl⟩)
          have hsz : x.i < ops.size := (Array.getElem?_eq_some_iff.1 ho).1
          cases hq : listed.getD e.on false with
          | true => rfl
          | false =>
            exfalso
            have hlt' : e.on < listed.size := by rw [hU.size]; omega
            obtain ⟨y, hy, hyi⟩ := hU.ex e.on (by omega) (by simp [hlt'] at hq ⊢; exact hq)
            rcases List.mem_cons.1 hy with rfl | hy
            · omega
            · have := (List.rel_of_pairwise_cons hU.pw hy).1
              omega
        rw [hnil] at this
        cases this
    · obtain ⟨h1, o, ho, hall⟩ := mem_ready.1 hi
      have hsz : i < ops.size := (Array.getElem?_eq_some_iff.1 ho).1
      obtain ⟨y, hy, rfl⟩ := hU.ex i hsz h1
      obtain ⟨l1, l2, rfl⟩ := List.append_of_mem hy
      obtain ⟨_, o', ho', hok, hb⟩ := hU.un y hy
      have : o' = o := by rw [ho] at ho'; exact (Option.some.inj ho').symm
      subst this
      have hbl : ∀ k ∈ befs o', listed.getD k false = true := fun k hk => by
        obtain ⟨e, he, h2, rfl⟩ := Ql2.1 hk
        exact hall e he h2
      have hpw := List.pairwise_append.1 hU.pw
      have hp : ∀ x ∈ l1, okPair x y := by
        intro x hx
        rcases (hpw.2.2 x hx y (by simp)).2 with h | h
        · exact h
        · exfalso
          have h2 := QmL hU.size hU.closed y.i o' ho' hbl x.i h
          have h3 := (hU.un x (by simp [hx])).1
          obtain ⟨_, ox, hox, _⟩ := hU.un x (by simp [hx])
          have hlt : x.i < listed.size := by rw [hU.size]; exact (Array.getElem?_eq_some_iff.1 hox).1
          simp [hlt] at h2 h3
          rw [h2] at h3; cases h3
      obtain ⟨s1, h2, h3⟩ := hC.bubble hp
      have hlt : y.i < listed.size := by rw [hU.size]; exact hsz
      have hne : ∀ x ∈ l1 ++ l2, x.i ≠ y.i := by
        intro x hx
        rcases List.mem_append.1 hx with hx | hx
        · have := (hpw.2.2 x hx y (by simp)).1; omega
        · have := (List.rel_of_pairwise_cons hpw.2.1 hx).1; omega
      have hsub : (l1 ++ l2).Sublist (l1 ++ y :: l2) := List.Sublist.append (List.Sublist.refl _) (List.sublist_cons_self _ _)
      refine Qoc ho hok hR h2 fun a' w' hR' => QjY hQ fuel _ (l1 ++ l2) s1 a' w' (by simp at hl ⊢; omega) ⟨by simp [hU.size], ?_, ?_, ?_, hU.pw.sublist hsub⟩ h3 hR'
      · intro j oj hoj hlj k hk
        by_cases e : y.i = j
        · subst e
          have : oj = o' := by rw [ho] at hoj; exact (Option.some.inj hoj).symm
          subst this
          exact getD_set_true (hbl k hk)
        · rw [getD_set_ne true e] at hlj
          exact getD_set_true (hU.closed j oj hoj hlj k hk)
      · intro j hj hlj
        by_cases e : y.i = j
        · subst e
          simp [hlt] at hlj
        · rw [getD_set_ne true e] at hlj
          obtain ⟨x, hx, hxi⟩ := hU.ex j hj hlj
          refine ⟨x, ?_, hxi⟩
          simp only [List.mem_append, List.mem_cons] at hx ⊢
          rcases hx with hx | rfl | hx
          · exact .inl hx
          · exact absurd hxi e
          · exact .inr hx
      · intro x hx
        obtain ⟨h4, h5⟩ := hU.un x (hsub.subset hx)
        exact ⟨by rw [getD_set_ne true (Ne.symm (hne x hx))]; exact h4, h5⟩
end
end Go.Ve

namespace Go.Ve
open Go.RowKit

/-- A region that draws its order: the operations in their places; what 'ck' names is to be apart. -/
def nxt : List (Option (List Nat)) → List Nat → List Nat
  | some _ :: _, fp => fp
  | _, _ => []
def trk : List (Option (List Nat)) → List (List Nat) → List Nat → Prop
  | some js :: _, tr, fp => (js.all fun d => QfJ (tr.getD d []) fp) = true
  | _, _, _ => True
def drK (ck : List (Option (List Nat))) (tr : List (List Nat)) (s : SOper) (st : St) (K : List (List Nat) → St → Prop) (v : AV) (ups : List (Nat × AObj)) : Prop :=
  trk ck tr (QhT s.op (getE st.E) ups) ∧ K (nxt ck (QhT s.op (getE st.E) ups) :: tr) (st.put s.dst v ups)
def Qh0 {P : Program} (X : Env P) : List SOper → List (Option (List Nat)) → (St → Prop) → List (List Nat) → St → Prop
  | [], _, K, _, st => K st
  | s :: rest, ck, K, tr, st =>
    match s.g with
    | none => Gk X s.op st (drK ck tr s st (Qh0 X rest ck.tail K))
    | some (t, want) =>
      match getE st.E t with
      | .bool b => (b = want → Gk X s.op (st.lit t want) (drK ck tr s (st.lit t want) (Qh0 X rest ck.tail K))) ∧
        (b = !want → Qh0 X rest ck.tail K ([] :: tr) ((st.lit t (!want)).put s.dst (.tup []) []))
      | .tup [] => Qh0 X rest ck.tail K ([] :: tr) (st.put s.dst (.tup []) [])
      | _ => False

def Qoe (ops : Array Oper) (ss : List SOper) (ck : List (Option (List Nat))) : Bool :=
  let tbl := ancs ops.toList []
  ss.length == ops.size && (List.range ops.size).all fun i => match ops[i]?, ss[i]? with
    | some o, some s => (befs o).all (fun k => decide (k < i)) && (List.range i).all fun j => (tbl.getD i []).contains j || (match ss[j]? with
      | some sj => Ql0 sj s && (Qp3 sj.op.cls s.op.cls || ((match ck[j]? with | some (some _) => true | _ => false) && (match ck[i]? with | some (some js) => js.contains (i - 1 - j) | _ => false)))
      | none => false)
    | _, _ => false

section
variable {P : Program} {X : Env P} {A : A0} {C0 : Ctx}

theorem Qof {ck : List (Option (List Nat))} {tr : List (List Nat)} : trk ck tr [] := by
  cases ck with
  | nil => trivial
  | cons c ck =>
    cases c with
    | none => trivial
    | some js =>
      simp only [trk, List.all_eq_true]
      intro d hd
      unfold QfJ
      simp
theorem Qog {st : St} {t : Nat} {b : Bool} : getE (st.lit t b).E t = .bool b := by simp [St.lit, ZP]
theorem Qoh {st : St} {t : Nat} {b : Bool} (hb : getE st.E t = .bool b) : Eqv (st.lit t b) st := by
  refine ⟨funext fun k => ?_, rfl⟩
  simp only [St.lit, ZP]
  split
  · rename_i e; subst e; exact hb.symm
  · rfl
theorem Qiv {K : St → Prop} : ∀ (ss : List SOper) (ck : List (Option (List Nat))) (k : Nat) (st : St) (tr : List (List Nat)), Qh0 X ss ck K tr st →
    ∃ l st', Chain P l st st' ∧ K st' ∧ l.length = ss.length ∧ (∀ i x, l[i]? = some x → x.i = k + i ∧ ss[i]? = some x.s) ∧
      (∀ i x js d j y ks, l[i]? = some x → ck[i]? = some (some js) → d ∈ js → j + d + 1 = i → l[j]? = some y → ck[j]? = some (some ks) → QfJ y.fp x.fp = true) ∧
      (∀ i x js d e, l[i]? = some x → ck[i]? = some (some js) → d ∈ js → d = i + e → QfJ (tr.getD e []) x.fp = true)
  | [], ck, k, st, tr, h => ⟨[], st, Eqv.refl _, h, rfl, fun i x h => by simp at h, fun i x js d j y ks h => by simp at h, fun i x js d e h => by simp at h⟩
  | s :: rest, ck, k, st, tr, h => by
    have step : ∀ (fp : List Nat) (st1 : St) (t0 : List Nat), Stp P s st fp st1 → trk ck tr fp → (∀ js, ck[0]? = some (some js) → t0 = fp ∨ fp = [] ) → Qh0 X rest ck.tail K (t0 :: tr) st1 →
        ∃ l st', Chain P l st st' ∧ K st' ∧ l.length = (s :: rest).length ∧ (∀ i x, l[i]? = some x → x.i = k + i ∧ (s :: rest)[i]? = some x.s) ∧
        (∀ i x js d j y ks, l[i]? = some x → ck[i]? = some (some js) → d ∈ js → j + d + 1 = i → l[j]? = some y → ck[j]? = some (some ks) → QfJ y.fp x.fp = true) ∧
        (∀ i x js d e, l[i]? = some x → ck[i]? = some (some js) → d ∈ js → d = i + e → QfJ (tr.getD e []) x.fp = true) := by
      intro fp st1 t0 hs htr ht0 h
      obtain ⟨l, st', h1, h2, h3, h4, h5, h6⟩ := Qiv rest ck.tail (k + 1) st1 (t0 :: tr) h
      have tl : ∀ i, ck[i + 1]? = ck.tail[i]? := fun i => by cases ck <;> simp
      refine ⟨⟨k, s, fp⟩ :: l, st', ⟨st1, hs, h1⟩, h2, by simp [h3], fun i x hx => ?_, fun i x js d j y ks hx hc hd hj hy hcj => ?_, fun i x js d e hx hc hd he => ?_⟩
      · cases i with
        | zero => simp at hx; subst hx; simp
        | succ i =>
          obtain ⟨h7, h8⟩ := h4 i x (by simpa using hx)
          exact ⟨by omega, by simpa using h8⟩
      · cases i with
        | zero => omega
        | succ i =>
          rw [tl] at hc
          simp only [List.getElem?_cons_succ] at hx
          cases j with
          | zero =>
            simp at hy; subst hy
            have := h6 i x js d 0 hx hc hd (by omega)
            rcases ht0 ks hcj with h | h
            · subst h; simpa using this
            · subst h; rfl
          | succ j =>
            rw [tl] at hcj
            exact h5 i x js d j y ks hx hc hd (by omega) (by simpa using hy) hcj
      · cases i with
        | zero =>
          simp at hx; subst hx
          have : e = d := by omega
          subst this
          cases ck with
          | nil => simp at hc
          | cons c ck =>
            simp at hc; subst hc
            simp only [trk, List.all_eq_true] at htr
            exact htr e hd
        | succ i =>
          rw [tl] at hc
          simp only [List.getElem?_cons_succ] at hx
          have := h6 i x js d (e + 1) hx hc hd (by omega)
          simpa using this
    simp only [Qh0] at h
    split at h
    · rename_i hg
      obtain ⟨v, ups, h1, h2, h3⟩ := QlZ h
      refine step _ _ _ (.inl ⟨.inl hg, v, ups, h1, rfl, Eqv.refl _⟩) h2 (fun js hc => ?_) h3
      cases ck with
      | nil => simp at hc
      | cons c ck => simp at hc; subst hc; exact .inl rfl
    · rename_i t want hg
      split at h
      · rename_i b hb
        by_cases e : b = want
        · subst e
          obtain ⟨v, ups, h1, h2, h3⟩ := QlZ (h.1 rfl)
          refine step _ _ _ (Stp.eqv (.inl ⟨.inr ⟨t, b, hg, Qog⟩, v, ups, h1, rfl, Eqv.refl _⟩) (Qoh hb) (Eqv.refl _)) h2 (fun js hc => ?_) h3
          cases ck with
          | nil => simp at hc
          | cons c ck => simp at hc; subst hc; exact .inl rfl
        · have e' : b = !want := by cases b <;> cases want <;> simp_all
          refine step _ _ _ (Stp.eqv (.inr ⟨rfl, t, want, hg, .inl Qog, Eqv.refl _⟩) (Qoh (e' ▸ hb)) (Eqv.refl _)) Qof (fun js hc => .inr rfl) (h.2 e')
      · rename_i hb
        exact step _ _ _ (.inr ⟨rfl, t, want, hg, .inr hb, Eqv.refl _⟩) Qof (fun js hc => .inr rfl) h
      · exact h.elim

theorem Rel.drew {st : St} {a : Act} {w : World} (h : Rel A C0 st a w) : Rel A C0 st a { w with drawn := w.drawn + 1 } := by
  obtain ⟨⟨loc, h1, h2, h3⟩, h4, h5⟩ := h
  obtain ⟨h6, h7⟩ := h1.grow (w' := { w with drawn := w.drawn + 1 }) (Grow.drew w none)
  exact ⟨⟨loc, h6, h2.trans h7, fun k => (h3 k).mono h7⟩, h4, h5⟩

theorem QjZ : ∀ {n : Nat} {ops : Array Oper} {os : List Oper} {ss : List SOper}, QgK P n ops os ss = true → ∀ {i : Nat} {o : Oper} {s : SOper}, os[i]? = some o → ss[i]? = some s → okOper P n ops o s = true
  | n, ops, [], ss, h, i, o, s, h1, h2 => by simp at h1
  | n, ops, o' :: os, [], h, i, o, s, h1, h2 => by simp at h2
  | n, ops, o' :: os, s' :: ss, h, i, o, s, h1, h2 => by
    simp only [QgK, Bool.and_eq_true] at h
    cases i with
    | zero => simp at h1 h2; subst h1; subst h2; exact h.1
    | succ i => exact QjZ h.2 (by simpa using h1) (by simpa using h2)

theorem QmM (hm : P.follows .mixedOrders = true) {id : Nat} {ops : Array Oper} {ss : List SOper} {ck : List (Option (List Nat))} (hok : QgK P A.n ops ops.toList ss = true) (hd : Qoe ops ss ck = true) {Q : Exit → Act → World → Prop} {K : St → Prop}
    (hQ : ∀ st a w, Rel A C0 st a w → K st → Q .normal a w) {st : St} {a : Act} {w : World} (hR : Rel A C0 st a w) (h : Qh0 X ss ck K [] st) : (Code.region id ops true).wp P Q a w := by
  refine wp_region_any hm ?_
  obtain ⟨l, sf, h1, h2, h3, h4, h5, _⟩ := Qiv ss ck 0 st [] h
  simp only [Qoe, Bool.and_eq_true, beq_iff_eq, List.all_eq_true, List.mem_range] at hd
  obtain ⟨hlen, hd⟩ := hd
  refine QjY (sf := sf) (fun st a w he hR => hQ sf a w (hR.eqv he) h2) ops.size _ l st a _ (by omega) ⟨by simp, ?_, ?_, ?_, ?_⟩ h1 hR.drew
  · intro j o hj hl
    exfalso
    have : j < ops.size := (Array.getElem?_eq_some_iff.1 hj).1
    simp [this] at hl
  · intro i hi _
    have hlt : i < l.length := by omega
    exact ⟨l[i], List.getElem_mem hlt, by have := (h4 i l[i] (by simp [hlt])).1; omega⟩
  · intro x hx
    obtain ⟨i, hi, rfl⟩ := List.mem_iff_getElem.1 hx
    obtain ⟨h6, h7⟩ := h4 i l[i] (by simp [hi])
    have hio : i < ops.size := by omega
    have e : l[i].i = i := by omega
    rw [e]
    refine ⟨by simp [hio], ops[i], by simp [hio], QjZ hok (by simp [hio]) h7, ?_⟩
    have := hd i hio
    rw [show ops[i]? = some ops[i] by simp [hio], h7] at this
    simp only [Bool.and_eq_true, List.all_eq_true, decide_eq_true_eq] at this
    exact this.1
  · rw [List.pairwise_iff_getElem]
    intro j i hj hi hji
    obtain ⟨h6, h7⟩ := h4 i l[i] (by simp [hi])
    obtain ⟨h8, h9⟩ := h4 j l[j] (by simp [hj])
    have hio : i < ops.size := by omega
    refine ⟨by omega, ?_⟩
    have := hd i hio
    rw [show ops[i]? = some ops[i] by simp [hio], h7] at this
    simp only [Bool.and_eq_true, List.all_eq_true, decide_eq_true_eq, List.mem_range] at this
    have := this.2 j hji
    rw [h9] at this
    simp only [Bool.or_eq_true, Bool.and_eq_true] at this
    rcases this with h | ⟨h10, h11⟩
    · refine .inr ?_
      rw [h6, h8]
      simpa using h
    · refine .inl ⟨h10, ?_⟩
      rcases h11 with h | ⟨h12, h13⟩
      · exact .inl h
      · refine .inr ?_
        split at h12
        · rename_i ks hks
          split at h13
          · rename_i js hjs
            exact h5 i l[i] js (i - 1 - j) j l[j] ks (by simp [hi]) hjs (by simpa using h13) (by omega) (by simp [hj]) hks
          · cases h13
        · cases h12
end
end Go.Ve

namespace Go.Ve
open Go.RowKit

/-! ## objects under other numbers -/
mutual
def ren (s : Nat → Nat) : AV → AV
  | .agg ls => .agg (K4 s ls)
  | .tup ls => .tup (K4 s ls)
  | .own o ver lo hi => .own (s o) ver lo hi
  | .ptr o off => .ptr (s o) off
  | .elt o ver i off => .elt (s o) ver i off
  | .fn f a b => .fn f (K4 s a) (K4 s b)
  | .int k n => .int k n
  | .bool b => .bool b
  | .str b => .str b
  | .sl t sz xs => .sl t sz xs
  | .pp t ls => .pp t ls
  | .junk => .junk
def K4 (s : Nat → Nat) : List AV → List AV
  | [] => []
  | x :: xs => ren s x :: K4 s xs
end
def renO (s : Nat → Nat) : AObj → AObj
  | .box ls => .box (K4 s ls)
  | .arr e ver sz xs => .arr e ver sz (if e < 1000000 then xs else xs.map (K4 s))
  | .gone => .gone
  | .mp kk es => .mp kk es
def J5 (s : Nat → Nat) : List (Nat × AObj) → List (Nat × AObj)
  | [] => []
  | (k, x) :: r => (s k, renO s x) :: J5 s r

section
variable {s : Nat → Nat} (hs : ∀ n, s (s n) = n)
include hs
mutual
theorem QrZ : ∀ x : AV, ren s (ren s x) = x
  | .agg ls => by simp only [ren, XP ls]
  | .tup ls => by simp only [ren, XP ls]
  | .own o ver lo hi => by simp only [ren, hs]
  | .ptr o off => by simp only [ren, hs]
  | .elt o ver i off => by simp only [ren, hs]
  | .fn f a b => by simp only [ren, XP a, XP b]
  | .int .. => rfl
  | .bool .. => rfl
  | .str .. => rfl
  | .sl .. => rfl
  | .pp .. => rfl
  | .junk => rfl
theorem XP : ∀ x : List AV, K4 s (K4 s x) = x
  | [] => rfl
  | x :: xs => by simp only [K4, QrZ x, XP xs]
end
theorem Qj0 (x : AObj) : renO s (renO s x) = x := by
  cases x <;> simp only [renO, XP hs]
  split
  · rfl
  · rw [List.map_map, show (K4 s ∘ K4 s) = id from funext fun x => XP hs x, List.map_id]
theorem ZS (l : List (Nat × AObj)) (o : Nat) : getM (J5 s l) o = (getM l (s o)).map (renO s) := by
  induction l with
  | nil => rfl
  | cons p l ih =>
    obtain ⟨k, x⟩ := p
    simp only [J5, getM]
    by_cases e : o = s k
    · subst e; simp [hs]
    · have : ¬ s o = k := fun h => e (by rw [← h, hs])
      simp only [if_neg e, if_neg this, ih]
end

theorem US {s : Nat → Nat} {e : Nat} {xs : List (List AV)} : (if e < 1000000 then xs else xs.map (K4 s)).length = xs.length := by
  split <;> simp
theorem ownRel.ren (s : Nat → Nat) {obj : AObj} {hv v : Value} {ver lo hi : Nat} (h : ownRel obj hv ver lo hi v) : ownRel (renO s obj) hv ver lo hi v := by
  cases obj <;> simpa only [ownRel, renO, US] using h
theorem eltRel.ren (s : Nat → Nat) {obj : AObj} {hv v : Value} {ver i off : Nat} (h : eltRel obj hv ver i off v) : eltRel (renO s obj) hv ver i off v := by
  cases obj <;> simpa only [eltRel, renO, US] using h
theorem Qp4 {s : Nat → Nat} {x : AV} (h : Jz x = true) : Jz (ren s x) = true := by cases x <;> first | exact h | rfl
theorem Qj1 {s : Nat → Nat} : ∀ {l : List AV}, l.all Jz = true → (K4 s l).all Jz = true
  | [], _ => rfl
  | x :: xs, h => by
    simp only [List.all_cons, Bool.and_eq_true, K4] at h ⊢
    exact ⟨Qp4 h.1, Qj1 h.2⟩
structure RenC (s : Nat → Nat) (C C' : Ctx) : Prop where
  io : C'.io = C.io
  w : C'.w = C.w
  loc : ∀ o, C'.loc o = C.loc (s o)
  M : ∀ o, C'.M o = (C.M (s o)).map (renO s)

section
variable {s : Nat → Nat} (hs : ∀ n, s (s n) = n) {C C' : Ctx} (h : RenC s C C')
include hs h
theorem RenC.own (b : Nat) : C'.ownB b ↔ C.ownB b := by
  constructor
  · rintro ⟨o, v, h1, h2⟩
    exact ⟨s o, v, by rw [← h.loc]; exact h1, h2⟩
  · rintro ⟨o, v, h1, h2⟩
    exact ⟨s o, v, by rw [h.loc, hs]; exact h1, h2⟩
theorem RenC.ok (t b : Nat) : C'.ok t b ↔ C.ok t b := by
  simp only [Ctx.ok, h.io, h.w, RenC.own hs h b]
theorem RenC.okx : Okx C C' := ⟨fun t b hb => ⟨(RenC.ok hs h t b).2 hb, by rw [h.w]⟩⟩
mutual
theorem RelV.ren : ∀ (x : AV) (v : Value), RelV C x v → RelV C' (ren s x) v
  | .int .., v, hv => by simpa only [RelV, Go.Ve.ren] using hv
  | .bool .., v, hv => by simpa only [RelV, Go.Ve.ren] using hv
  | .str .., v, hv => by simpa only [RelV, Go.Ve.ren] using hv
  | .agg ls, v, hv => by
    simp only [RelV, Go.Ve.ren] at hv ⊢; obtain ⟨cs, rfl, h1⟩ := hv; exact ⟨cs, rfl, RelL.ren ls cs h1⟩
  | .tup ls, v, hv => by
    simp only [RelV, Go.Ve.ren] at hv ⊢; obtain ⟨cs, rfl, h1⟩ := hv; exact ⟨cs, rfl, RelL.ren ls cs h1⟩
  | .sl t sz xs, v, hv => RelV.norefs (RenC.okx hs h) _ _ rfl hv
  | .pp t ls, v, hv => RelV.norefs (RenC.okx hs h) _ _ rfl hv
  | .own o ver lo hi, v, hv => by
    simp only [RelV, Go.Ve.ren] at hv ⊢
    obtain ⟨h0, obj, hv0, h1, h2, h3⟩ := hv
    refine ⟨h0, renO s obj, hv0, by rw [h.M, hs, h1]; rfl, by rw [h.loc, hs]; exact h2, ?_⟩
    exact ownRel.ren s h3
  | .ptr o off, v, hv => by
    simp only [RelV, Go.Ve.ren] at hv ⊢
    obtain ⟨h0, obj, hv0, h1, h2, h3⟩ := hv
    refine ⟨h0, renO s obj, hv0, by rw [h.M, hs, h1]; rfl, by rw [h.loc, hs]; exact h2, ?_⟩
    cases obj <;> simpa only [ptrRel, renO] using h3
  | .elt o ver i off, v, hv => by
    simp only [RelV, Go.Ve.ren] at hv ⊢
    obtain ⟨h0, obj, hv0, h1, h2, h3⟩ := hv
    refine ⟨h0, renO s obj, hv0, by rw [h.M, hs, h1]; rfl, by rw [h.loc, hs]; exact h2, ?_⟩
    exact eltRel.ren s h3
  | .fn f a b, v, hv => by
    simp only [RelV, Go.Ve.ren] at hv ⊢
    obtain ⟨us, bs, h1, h2, h3⟩ := hv
    exact ⟨us, bs, h1, RelL.ren a us h2, RelL.ren b bs h3⟩
  | .junk, _, _ => by simp only [RelV, Go.Ve.ren]
theorem RelL.ren : ∀ (x : List AV) (v : List Value), RelL C x v → RelL C' (K4 s x) v
  | [], v, hv => by simpa only [RelL, K4] using hv
  | x :: xs, v, hv => by
    simp only [RelL, K4] at hv ⊢
    obtain ⟨c, cs, rfl, h1, h2⟩ := hv
    exact ⟨c, cs, rfl, RelV.ren x c h1, RelL.ren xs cs h2⟩
end
theorem RelLL.ren : ∀ {x : List (List AV)} {v : List (List Value)}, RelLL C x v → RelLL C' (x.map (K4 s)) v
  | [], v, hv => by simpa only [RelLL, List.map_nil] using hv
  | x :: xs, v, hv => by
    simp only [RelLL, List.map_cons] at hv ⊢
    obtain ⟨c, cs, rfl, h1, h2⟩ := hv
    exact ⟨c, cs, rfl, RelL.ren hs h x c h1, RelLL.ren h2⟩
theorem objAt.ren {hv : Value} {obj : AObj} (ho : objAt C hv obj) : objAt C' hv (renO s obj) := by
  cases obj with
  | box ls =>
    obtain ⟨b, cs, ty, rfl, h1, h2, h3⟩ := ho
    refine ⟨b, cs, ty, rfl, by rw [h.w]; exact h1, RelL.ren hs h ls cs h2, ?_⟩
    clear h1 h2
    induction ls with
    | nil => rfl
    | cons x xs ih =>
      simp only [List.all_cons, Bool.and_eq_true, K4] at h3 ⊢
      refine ⟨?_, ih h3.2⟩
      cases x <;> first | exact h3.1 | rfl
  | arr e ver sz xs =>
    obtain ⟨css, h1, h2, h3, h4⟩ := ho
    simp only [renO]
    split
    · rename_i he
      exact ⟨css, RelLL.norefs (RenC.okx hs h) _ _ (fun r hr => flatOk.noref (by have := h4 r hr; rwa [rowB.flat he] at this)) h1, h2, by rw [h.w]; exact h3, h4⟩
    · rename_i he
      refine ⟨css, RelLL.ren hs h h1, h2, by rw [h.w, List.length_map]; exact h3, fun r hr => ?_⟩
      obtain ⟨r0, hr0, rfl⟩ := List.mem_map.1 hr
      have := h4 r0 hr0
      unfold rowB at this ⊢
      simp only [if_neg he] at this ⊢
      exact Qj1 this
  | gone => exact ho
  | mp kk es =>
    obtain ⟨b, ents, clock, rfl, h1, h2, h3, h4, h5⟩ := ho
    exact ⟨b, ents, clock, rfl, by rw [h.w]; exact h1, RelL.norefs (RenC.okx hs h) _ _ (Qgw h4) h2, RelL.norefs (RenC.okx hs h) _ _ (Qgx h4) h3, h4, h5⟩
theorem WfM.ren (hw : WfM C) : WfM C' := by
  refine ⟨fun o obj ho => ?_, fun o hv hl => ?_, fun o o' hv hv' b h1 h2 h3 h4 => ?_, globOk.okx (RenC.okx hs h) hw.glob⟩
  · rw [h.M] at ho
    cases hm : C.M (s o) with
    | none => rw [hm] at ho; cases ho
    | some x =>
      rw [hm] at ho; cases ho
      obtain ⟨hv, h1, h2⟩ := hw.obj _ _ hm
      exact ⟨hv, by rw [h.loc]; exact h1, objAt.ren hs h h2⟩
  · rw [h.loc] at hl
    obtain ⟨obj, ho⟩ := hw.dom _ _ hl
    exact ⟨renO s obj, by rw [h.M, ho]; rfl⟩
  · rw [h.loc] at h1 h2
    have := hw.inj _ _ _ _ b h1 h2 h3 h4
    have := congrArg s this
    rwa [hs, hs] at this
end

theorem objLe.ren (s : Nat → Nat) {a b : AObj} {x y : Value} (h : objLe (renO s a) x b y) : objLe a x (renO s b) y := by
  cases a <;> cases b <;> simpa only [objLe, renO, US] using h

theorem objLe.renR (s : Nat → Nat) {a b : AObj} {x y : Value} (h : objLe a x b y) : objLe a x (renO s b) y := by
  cases a <;> cases b <;> simpa only [objLe, renO, US] using h
/-- A contract, its objects under other numbers. -/
theorem Contract.ren {P : Program} {f : FuncId} {args : List AV} {pre : List (Nat × AObj)} {r : AV} {post : List (Nat × AObj)} (s : Nat → Nat) (hs : ∀ n, s (s n) = n) (hC : Contract P f args pre r post) :
    Contract P f (K4 s args) (J5 s pre) (ren s r) (J5 s post) := by
  intro io w loc vs hio hwf hargs
  have hr1 : RenC s ⟨io, w, loc, getM (J5 s pre)⟩ ⟨io, w, fun o => loc (s o), getM pre⟩ := by
    refine ⟨rfl, rfl, fun _ => rfl, fun o => ?_⟩
    show getM pre o = (getM (J5 s pre) (s o)).map (renO s)
    rw [ZS hs, hs]
    cases getM pre o with
    | none => rfl
    | some x => simp only [Option.map_some, Qj0 hs]
  have ha := RelL.ren hs hr1 _ _ hargs
  rw [XP hs] at ha
  refine (hC io w _ vs hio (WfM.ren hs hr1 hwf) ha).mono ?_
  rintro e w' ⟨v, loc', rfl, hwf', hX, hv, hev, hnew⟩
  have hr2 : RenC s ⟨io, w', loc', getM post⟩ ⟨io, w', fun o => loc' (s o), getM (J5 s post)⟩ :=
    ⟨rfl, rfl, fun _ => rfl, fun o => ZS hs post o⟩
  refine ⟨v, fun o => loc' (s o), rfl, WfM.ren hs hr2 hwf', ⟨fun t b hb => ?_, fun o obj hv h1 h2 => ?_⟩, RelV.ren hs hr2 _ _ hv, ?_, fun o hv b h1 h2 => ?_⟩
  · obtain ⟨h1, h2⟩ := hX.ok t b ((RenC.ok hs hr1 t b).2 hb)
    exact ⟨(RenC.ok hs hr2 t b).2 h1, h2⟩
  · have h1 : getM (J5 s pre) o = some obj := h1
    have h2 : loc o = some hv := h2
    rw [ZS hs] at h1
    cases hm : getM pre (s o) with
    | none => rw [hm] at h1; cases h1
    | some x =>
      rw [hm] at h1; cases h1
      obtain ⟨obj', hv', h3, h4, h5⟩ := hX.refs (s o) x hv hm (by show loc (s (s o)) = _; rw [hs]; exact h2)
      have h3 : getM post (s o) = some obj' := h3
      refine ⟨renO s obj', hv', ?_, h4, ?_⟩
      · show getM (J5 s post) o = _
        rw [ZS hs, h3]; rfl
      · refine objLe.ren s ?_
        rw [Qj0 hs]; exact h5
  · refine ⟨hev.os, hev.tape, hev.output, hev.size, fun b hb ho => hev.block b hb fun h => ho ((RenC.own hs hr1 b).1 h)⟩
  · obtain h3 | ⟨hv0, h3, h4⟩ := hnew (s o) hv b h1 h2
    · exact .inl h3
    · exact .inr ⟨hv0, by have h3 : loc (s (s o)) = _ := h3; rwa [hs] at h3, h4⟩

/-- Two numbers change places. -/
def swp (a b n : Nat) : Nat := if n = a then b else if n = b then a else n
theorem Q0 (a b n : Nat) : swp a b (swp a b n) = n := by
  unfold swp; split <;> (try split) <;> (try split) <;> simp_all
end Go.Ve

namespace Go.Ve
open Go.RowKit

inductive Gh where
  | frzE (k : Nat)
  | frzB (o off : Nat)
  | nilE (k o e : Nat)
  | nilB (b off o e : Nat)
  | wk
  deriving Inhabited

inductive SCode where
  | skip
  | rg (ops : List SOper) (outs : List Nat)
  | rgd (ops : List SOper) (outs : List Nat) (ck : List (Option (List Nat)))
  | seq (a b : SCode)
  | cond (c : SX) (a b : SCode)
  | block (id : Nat) (c : SCode)
  | loop (c : SCode)
  | exit (id : Nat)
  | ret
  | gh (g : Gh) (c : SCode)
  | scope (c : SCode)
  | label (id : Nat)
  deriving Inhabited

inductive XT where
  | normal
  | exit (id : Nat)
  | ret

def trim (outs : List Nat) (st : St) : St := ⟨outs.map fun k => (k, getE st.E k), st.M⟩

/-- Weaker: fewer values, fewer objects. -/
def wkE (E : List (Nat × AV)) : List (Nat × AV) → Prop
  | [] => True
  | (k, v) :: r => (v = .junk ∨ getE E k = v) ∧ wkE E r
def wkM (M : List (Nat × AObj)) : List (Nat × AObj) → Prop
  | [] => True
  | (k, v) :: r => getM M k = some v ∧ wkM M r
def closedB (st : St) : Bool := (st.E.all fun p => Qc (dom st.M) p.2) && st.M.all fun p => Qd (dom st.M) p.2
def keepB (M M' : List (Nat × AObj)) : Bool := (dom M).all fun o => decide (100 ≤ o % 1000) || (dom M').contains o
structure Wk (st st' : St) : Prop where
  e : wkE st.E st'.E
  m : wkM st.M st'.M
  cl : closedB st' = true
  kp : keepB st.M st'.M = true

def QsZ (s : Nat → Nat) : List (Nat × AV) → List (Nat × AV)
  | [] => []
  | (k, x) :: r => (k, ren s x) :: QsZ s r
theorem Qoi {s : Nat → Nat} (E : List (Nat × AV)) (k : Nat) : getE (QsZ s E) k = ren s (getE E k) := by
  induction E with
  | nil => rfl
  | cons p E ih =>
    obtain ⟨j, x⟩ := p
    simp only [QsZ, getE]
    split
    · rfl
    · exact ih
def St.ren (st : St) (s : Nat → Nat) : St := ⟨QsZ s st.E, J5 s st.M⟩
def Qk6 (g : Gh) (st : St) (K : St → Prop) : Prop :=
  match g with
  | .frzE k => match getE st.E k with
    | .own o ver lo hi => match getM st.M o with
      | some (.arr e cv sz xs) => 100 ≤ o % 1000 ∧ ver = cv ∧ lo = 0 ∧ e < 1000000 ∧ K ⟨QjB st.E k (.sl 0 sz (xs.take hi)), Kj st.M o .gone⟩
      | _ => K st
    | _ => K st
  | .frzB b off => match getM st.M b with
    | some (.box ls) => match ls.getD off .junk with
      | .own o ver lo hi => match getM st.M o with
        | some (.arr e cv sz xs) => 100 ≤ o % 1000 ∧ ver = cv ∧ lo = 0 ∧ e < 1000000 ∧ off < ls.length ∧ o ≠ b ∧ K ⟨st.E, Kj (Kj st.M o .gone) b (.box (ls.set off (.sl 0 sz (xs.take hi))))⟩
        | _ => K st
      | _ => K st
    | _ => K st

  | .nilE k o e => match getE st.E k with
    | .sl 98 sz [] => getM st.M o = none ∧ K ⟨QjB st.E k (.own o 0 0 0), Kj st.M o (.arr e 0 sz [])⟩
    | _ => K st
  | .nilB b off o e => match getM st.M b with
    | some (.box ls) => match ls.getD off .junk with
      | .sl 98 sz [] => getM st.M o = none ∧ off < ls.length ∧ o ≠ b ∧ K ⟨st.E, Kj (Kj st.M o (.arr e 0 sz [])) b (.box (ls.set off (.own o 0 0 0)))⟩
      | _ => K st
    | _ => K st
  | .wk => ∃ (s : Nat → Nat) (st' : St), (∀ o, s (s o) = o) ∧ (∀ o, o % 1000 < 100 → s o = o) ∧ Wk (st.ren s) st' ∧ K st'

def Qh1 (next : St → Prop) (Q : XT → St → Prop) : XT → St → Prop
  | .normal, st => next st
  | e, st => Q e st
def QgN (id : Nat) (Q : XT → St → Prop) : XT → St → Prop
  | .exit id', st => if id' = id then Q .normal st else Q (.exit id') st
  | e, st => Q e st

def Qk7 (outs : List Nat) (Q : XT → St → Prop) (st : St) : Prop := Q .normal (trim outs st)
def Qr0 (I : Nat → St → Prop) (m : Nat) (st : St) : Prop := ∃ m' st', Wk st st' ∧ I m' st' ∧ m' < m
def QgO (body : (XT → St → Prop) → St → Prop) (Q : XT → St → Prop) (st : St) : Prop :=
  ∃ I : Nat → St → Prop, (∃ m0 st0, Wk st st0 ∧ I m0 st0) ∧ ∀ m st, I m st → body (Qh1 (Qr0 I m) Q) st

/-- What must hold ahead of a code, so that Q holds behind it. -/
def SCode.wp {P : Program} (X : Env P) : SCode → (XT → St → Prop) → St → Prop
  | .skip, Q, st => Q .normal st
  | .rg ops outs, Q, st => QgH X ops (Qk7 outs Q) st
  | .rgd ops outs ck, Q, st => Qh0 X ops ck (Qk7 outs Q) [] st
  | .seq a b, Q, st => a.wp X (Qh1 (b.wp X Q) Q) st
  | .cond c a b, Q, st => match ev (getE st.E) c with
    | .bool t => (t = true → a.wp X Q st) ∧ (t = false → b.wp X Q st)
    | _ => False
  | .block id c, Q, st => c.wp X (QgN id Q) st
  | .loop c, Q, st => QgO (c.wp X) Q st
  | .exit id, Q, st => Q (.exit id) st
  | .ret, Q, st => Q .ret st
  | .gh g c, Q, st => Qk6 g st (c.wp X Q)
  | .scope c, Q, st => c.wp X Q st
  | .label _, Q, st => Q .normal st

def Ku (P : Program) (n : Nat) : Code → SCode → Bool
  | c, .gh _ s => Ku P n c s
  | .skip, .skip => true
  | .region _ ops false, .rg ss _ => QgK P n ops ops.toList ss
  | .region _ ops true, .rgd ss _ ck => QgK P n ops ops.toList ss && Qoe ops ss ck
  | .seq a b, .seq a' b' => Ku P n a a' && Ku P n b b'
  | .cond c a b, .cond c' a' b' => okX c c' && Ku P n a a' && Ku P n b b'
  | .block id c, .block id' c' => id == id' && Ku P n c c'
  | .loop c, .loop c' => Ku P n c c'
  | .exit id, .exit id' => id == id'
  | .ret, .ret => true
  | .scope c, .scope c' => Ku P n c c'
  | .label l, .label l' => l == l'
  | _, _ => false

section
variable {P : Program} {X : Env P} {A : A0} {C0 : Ctx}

theorem Rel.trim {st : St} {a : Act} {w : World} (h : Rel A C0 st a w) (outs : List Nat) : Rel A C0 (trim outs st) a w := by
  obtain ⟨⟨loc, h1, h2, h3⟩, h4, h5⟩ := h
  refine ⟨⟨loc, h1, h2, fun k => ?_⟩, h4, h5⟩
  have : getE (outs.map fun k => (k, getE st.E k)) k = getE st.E k ∨ getE (outs.map fun k => (k, getE st.E k)) k = .junk := by
    induction outs with
    | nil => exact .inr rfl
    | cons x xs ih =>
      simp only [List.map_cons, getE]
      split
      · rename_i e; subst e; exact .inl rfl
      · exact ih
  show RelV _ (getE (outs.map fun k => (k, getE st.E k)) k) _
  rcases this with h | h
  · rw [h]; exact h3 k
  · rw [h]; simp [RelV]

theorem Qk8 {E : List (Nat × AV)} : ∀ {E' : List (Nat × AV)} (_ : wkE E E') (k : Nat), getE E' k = .junk ∨ getE E k = getE E' k
  | [], _, k => .inl rfl
  | (j, v) :: r, h, k => by
    simp only [wkE] at h
    simp only [getE]
    split
    · rename_i e; subst e; exact h.1
    · exact Qk8 h.2 k
theorem Qi1 {M : List (Nat × AObj)} : ∀ {M' : List (Nat × AObj)} (_ : wkM M M') (k : Nat) (x : AObj), getM M' k = some x → getM M k = some x
  | [], _, k, x, hx => by simp [getM] at hx
  | (j, v) :: r, h, k, x, hx => by
    simp only [wkM] at h
    simp only [getM] at hx
    split at hx
    · rename_i e; subst e; cases hx; exact h.1
    · exact Qi1 h.2 k x hx

theorem Qj2 {d : List Nat} : ∀ {E : List (Nat × AV)} (_ : (E.all fun p => Qc d p.2) = true) (k : Nat), Qc d (getE E k) = true
  | [], _, k => rfl
  | (j, v) :: r, h, k => by
    simp only [List.all_cons, Bool.and_eq_true] at h
    simp only [getE]
    split
    · exact h.1
    · exact Qj2 h.2 k

/-- Fewer objects are known. -/
theorem Inv.restrict {io : Nat → Nat → Prop} {w : World} {loc : Nat → Option Value} {M M' : List (Nat × AObj)} (hI : Inv A ⟨io, w, loc, getM M⟩) (hM : wkM M M') (hc : (M'.all fun p => Qd (dom M') p.2) = true) :
    Res (dom M') ⟨io, w, loc, getM M⟩ ⟨io, w, fun o => if (dom M').contains o then loc o else none, getM M'⟩ ∧ Inv A ⟨io, w, fun o => if (dom M').contains o then loc o else none, getM M'⟩ := by
  have hown : ∀ b, Ctx.ownB ⟨io, w, fun o => if (dom M').contains o then loc o else none, getM M'⟩ b → Ctx.ownB ⟨io, w, loc, getM M⟩ b := by
    rintro b ⟨o, hv, h1, h2⟩
    simp only at h1
    split at h1
    · exact ⟨o, hv, h1, h2⟩
    · cases h1
  have hres : Res (dom M') ⟨io, w, loc, getM M⟩ ⟨io, w, fun o => if (dom M').contains o then loc o else none, getM M'⟩ := by
    refine ⟨fun t b hb => ⟨⟨hb.1, hb.2.1, fun h => hb.2.2 (hown b h)⟩, rfl⟩, fun o ho => ?_⟩
    obtain ⟨x, hx⟩ := GI ho
    exact ⟨by show getM M' o = getM M o; rw [hx, Qi1 hM o x hx], by simp only [ho, if_true]⟩
  refine ⟨hres, ⟨hI.io, hI.np, hI.fresh, ⟨fun o obj h => ?_, fun o hv h => ?_, fun o o' hv hv' b h1 h2 h3 h4 => ?_, globOk.okx ⟨hres.ok⟩ hI.wf.glob⟩, hI.oldnp, hI.ev, fun o hv b h1 h2 => ?_⟩⟩
  · have h : getM M' o = some obj := h
    obtain ⟨hv, h1, h2⟩ := hI.wf.obj o obj (Qi1 hM o obj h)
    have hd := JV h
    refine ⟨hv, by simp only [hd, if_true]; exact h1, objAt.res hres ?_ (fun b _ => rfl) h2⟩
    rw [List.all_eq_true] at hc
    exact hc (o, obj) (KU h)
  · simp only at h
    split at h
    · rename_i hd; obtain ⟨x, hx⟩ := GI hd; exact ⟨x, hx⟩
    · cases h
  · simp only at h1 h2
    split at h1
    · split at h2
      · exact hI.wf.inj o o' hv hv' b h1 h2 h3 h4
      · cases h2
    · cases h1
  · simp only at h1
    split at h1
    · exact hI.new o hv b h1 h2
    · cases h1

theorem Rel.wk (h100 : ∀ o obj, C0.M o = some obj → o % 1000 < 100) {st st' : St} {a : Act} {w : World} (h : Rel A C0 st a w) (hw : Wk st st') : Rel A C0 st' a w := by
  obtain ⟨⟨loc, h1, h2, h3⟩, h4, h5⟩ := h
  have hcl := hw.cl
  simp only [closedB, Bool.and_eq_true] at hcl
  obtain ⟨hres, hI⟩ := Inv.restrict h1 hw.m hcl.2
  refine ⟨⟨_, hI, ⟨fun t b hb => ?_, fun o obj hv ho hl => ?_⟩, fun k => ?_⟩, h4, h5⟩
  · obtain ⟨h6, h7⟩ := h2.ok t b hb
    exact ⟨(hres.ok t b h6).1, h7⟩
  · obtain ⟨obj', hv', h6, h7, h8⟩ := h2.refs o obj hv ho hl
    have h6 : getM st.M o = some obj' := h6
    have hd : (dom st'.M).contains o = true := by
      have hk := hw.kp
      unfold keepB at hk
      rw [List.all_eq_true] at hk
      have := hk o (by have := JV h6; simpa using this)
      simp only [Bool.or_eq_true, decide_eq_true_eq] at this
      have hlt := h100 o obj ho
      rcases this with h | h
      · omega
      · exact h
    have := hres.obj o hd
    exact ⟨obj', hv', by rw [this.1]; exact h6, by rw [this.2]; exact h7, h8⟩
  · rcases Qk8 hw.e k with h6 | h6
    · rw [h6]; simp [RelV]
    · refine RelV.res hres _ _ (Qj2 hcl.1 k) ?_
      rw [← h6]; exact h3 k

theorem Rel.ren (h100 : ∀ o obj, C0.M o = some obj → o % 1000 < 100) {st : St} {a : Act} {w : World} (h : Rel A C0 st a w) {s : Nat → Nat} (hs : ∀ o, s (s o) = o) (h1s : ∀ o, o % 1000 < 100 → s o = o) : Rel A C0 (st.ren s) a w := by
  obtain ⟨⟨loc, hI, h2, h3⟩, h4, h5⟩ := h
  have hr : RenC s ⟨C0.io, w, loc, getM st.M⟩ ⟨C0.io, w, fun o => loc (s o), getM (J5 s st.M)⟩ := ⟨rfl, rfl, fun _ => rfl, fun o => ZS hs st.M o⟩
  have hold : ∀ o b, A.old (s o) b → s o = o := fun o b hb => by
    have h9 := hI.oldnp (s o) b hb
    have h8 := hI.np
    have h10 := h1s (s o) (by omega)
    rw [hs] at h10
    exact h10.symm
  refine ⟨⟨fun o => loc (s o), ⟨hI.io, hI.np, hI.fresh, WfM.ren hs hr hI.wf, hI.oldnp, hI.ev, fun o hv b h6 h7 => ?_⟩, ⟨fun t b hb => ?_, fun o obj hv ho hl => ?_⟩, fun k => ?_⟩, h4, h5⟩
  · rcases hI.new (s o) hv b h6 h7 with h | h
    · exact .inl h
    · exact .inr (by have := hold o b h; rw [this] at h; exact h)
  · obtain ⟨h6, h7⟩ := h2.ok t b hb
    exact ⟨(RenC.ok hs hr t b).2 h6, h7⟩
  · obtain ⟨obj', hv', h6, h7, h8⟩ := h2.refs o obj hv ho hl
    have hso := h1s o (h100 o obj ho)
    have h6 : getM st.M o = some obj' := h6
    refine ⟨renO s obj', hv', ?_, ?_, objLe.renR s h8⟩
    · show getM (J5 s st.M) o = _
      rw [ZS hs, hso, h6]; rfl
    · show loc (s o) = _
      rw [hso]; exact h7
  · show RelV _ (getE (QsZ s st.E) k) _
    rw [Qoi]
    exact RelV.ren hs hr _ _ (h3 k)

theorem Qr1 (hI : Inv A C0) {sz : Nat} {c : Value} (h : RelV C0 (.sl 98 sz []) c) : c = .slice none 0 0 := by
  simp only [RelV] at h
  rcases h.2 with h | ⟨b, off, cap, css, h1, h2, h3, _⟩
  · rcases h.2 with h | ⟨h, _⟩
    · exact h
    · exact absurd rfl h
  · exact absurd (hI.io ▸ h3.1) (hI.fresh.2 b)

theorem Qoj {io : Nat → Nat → Prop} {w : World} {loc : Nat → Option Value} {M : List (Nat × AObj)} (hI : Inv A ⟨io, w, loc, getM M⟩) {o e sz : Nat} (ho : getM M o = none) :
    Inv A ⟨io, w, GR loc o (.slice none 0 0), getM (Kj M o (.arr e 0 sz []))⟩ ∧ Ext ⟨io, w, loc, getM M⟩ ⟨io, w, GR loc o (.slice none 0 0), getM (Kj M o (.arr e 0 sz []))⟩ ∧
    RelV ⟨io, w, GR loc o (.slice none 0 0), getM (Kj M o (.arr e 0 sz []))⟩ (.own o 0 0 0) (.slice none 0 0) :=
  QgC (A := A) hI (o := o) (obj0 := none) ho (e := e) (ver := 0) (sz := sz) (by simp) (by simp) (by simp) (w' := w) (hv' := .slice none 0 0) (xs := []) (css := []) (Grow.refl _ _) (fun b hb => by simp [blkOf] at hb) (by simp [RelLL]) (by simp) (World.ownsRow_nil w 0 (e % 1000000) sz) (by simp)

theorem Qi2 {C : Ctx} : ∀ {xs : List AV} {vs : List Value} {i : Nat} {y : AV} {u : Value}, RelL C xs vs → vs[i]? = some u → RelV C y u → RelL C (xs.set i y) vs
  | [], vs, i, y, u, h, _, _ => by simpa using h
  | z :: zs, vs, i, y, u, h, hu, hy => by
    simp only [RelL] at h
    obtain ⟨c', cs', rfl, h10, h11⟩ := h
    cases i with
    | zero => simp at hu; subst hu; exact RelL.cons hy h11
    | succ i => simp only [List.set_cons_succ]; exact RelL.cons h10 (Qi2 h11 (by simpa using hu) hy)

theorem Qr2 {io : Nat → Nat → Prop} {w : World} {loc : Nat → Option Value} {M : List (Nat × AObj)} (hI : Inv A ⟨io, w, loc, getM M⟩) {bx off : Nat} {ls : List AV} {y : AV} (hB : getM M bx = some (.box ls)) (hoff : off < ls.length) (hleaf : Jz y = true)
    (hy : ∀ c, RelV ⟨io, w, loc, getM M⟩ (ls.getD off .junk) c → RelV ⟨io, w, loc, getM M⟩ y c) :
    ∃ loc', Inv A ⟨io, w, loc', getM (Kj M bx (.box (ls.set off y)))⟩ ∧ Ext ⟨io, w, loc, getM M⟩ ⟨io, w, loc', getM (Kj M bx (.box (ls.set off y)))⟩ := by
  obtain ⟨hv, h6, b, cs, ty, rfl, h7, h8, h9⟩ := hI.wf.obj bx _ hB
  have h6 : loc bx = some (.pointer (some ⟨b, 0, none⟩)) := h6
  have h7 : w.heap[b]? = _ := h7
  obtain ⟨c, hc, hcr⟩ := h8.get off .junk hoff
  have k4 := Inv.upd (A := A) hI (w' := w) (o := bx) (obj' := .box (ls.set off y)) (hv' := .pointer (some ⟨b, 0, none⟩)) (Grow.refl _ _)
    (fun b' hb => .inr ⟨_, h6, hb⟩) (fun obj hv h h' => by
      have h : getM M bx = some obj := h
      have h' : loc bx = some hv := h'
      rw [hB] at h; cases h; rw [h6] at h'; cases h'; rfl)
    (fun hext => by
      refine ⟨b, cs, ty, rfl, h7, Qi2 (h8.mono hext) hc ((hy c hcr).mono hext), ?_⟩
      rw [List.all_eq_true] at h9 ⊢
      intro x hx
      rcases List.mem_or_eq_of_mem_set hx with h | rfl
      · exact h9 x h
      · exact hleaf)
  rw [← Kb] at k4
  exact ⟨_, k4.1, k4.2⟩

theorem Qk9 (h100 : ∀ o obj, C0.M o = some obj → o % 1000 < 100) {g : Gh} {st : St} {a : Act} {w : World} (h : Rel A C0 st a w) {K : St → Prop} (hK : Qk6 g st K) : ∃ st', Rel A C0 st' a w ∧ K st' := by
  obtain ⟨⟨loc, h1, h2, h3⟩, h4, h5⟩ := id h
  unfold Qk6 at hK
  split at hK
  · rename_i k
    split at hK
    · rename_i o ver lo hi hE
      split at hK
      · rename_i e cv sz xs hM
        obtain ⟨ho, hver, rfl, hef, hK⟩ := hK
        have hk := h3 k
        rw [hE] at hk
        obtain ⟨h6, h7, h8⟩ := QcM h1 hk hM hver ho hef
        refine ⟨_, ⟨⟨_, h6, h2.trans h7, fun j => ?_⟩, h4, h5⟩, hK⟩
        rw [ZP]
        split
        · rename_i e; subst e; exact h8
        · exact (h3 j).mono h7
      · exact ⟨_, h, hK⟩
    · exact ⟨_, h, hK⟩
  · rename_i bx off
    split at hK
    · rename_i ls hB
      split at hK
      · rename_i o ver lo hi hL
        split at hK
        · rename_i e cv sz xs hM
          obtain ⟨ho, hver, rfl, hef, hoff, hne, hK⟩ := hK
          obtain ⟨hv, h6, b, cs, ty, rfl, h7, h8, h9⟩ := h1.wf.obj bx _ hB
          have h7 : w.heap[b]? = _ := h7
          obtain ⟨c, hc, hcr⟩ := h8.get off .junk hoff
          rw [hL] at hcr
          obtain ⟨k1, k2, k3⟩ := QcM h1 hcr hM hver ho hef
          -- the box, its leaf told anew
          have hM2 : getM (Kj st.M o .gone) bx = some (.box ls) := by rw [QM, if_neg (Ne.symm hne)]; exact hB
          have hl2 : GR loc o (.tuple #[]) bx = some (.pointer (some ⟨b, 0, none⟩)) := by simp only [GR, if_neg (Ne.symm hne)]; exact h6
          have k4 := Inv.upd (A := A) k1 (w' := w) (o := bx) (obj' := .box (ls.set off (.sl 0 sz (xs.take hi)))) (hv' := .pointer (some ⟨b, 0, none⟩)) (Grow.refl _ _)
            (fun b' hb => .inr ⟨_, hl2, hb⟩) (fun obj hv h h' => by
              have h : getM (Kj st.M o .gone) bx = some obj := h
              have h' : GR loc o (.tuple #[]) bx = some hv := h'
              rw [hM2] at h; cases h; rw [hl2] at h'; cases h'; rfl)
            (fun hext => by
              refine ⟨b, cs, ty, rfl, h7, ?_, ?_⟩
              · have hset : ∀ (xs : List AV) (vs : List Value) (C : Ctx) (i : Nat) (y : AV) (u : Value), RelL C xs vs → vs[i]? = some u → RelV C y u → RelL C (xs.set i y) vs := by
                  intro xs
                  induction xs with
                  | nil => intro vs C i y u h _ _; simpa using h
                  | cons z zs ih =>
                    intro vs C i y u h hu hy
                    simp only [RelL] at h
                    obtain ⟨c', cs', rfl, h10, h11⟩ := h
                    cases i with
                    | zero => simp at hu; subst hu; exact RelL.cons hy h11
                    | succ i => simp only [List.set_cons_succ]; exact RelL.cons h10 (ih cs' C i y u h11 (by simpa using hu) hy)
                exact hset ls cs _ off _ c ((h8.mono k2).mono hext) hc (k3.mono hext)
              · rw [List.all_eq_true] at h9 ⊢
                intro x hx
                rcases List.mem_or_eq_of_mem_set hx with h | rfl
                · exact h9 x h
                · rfl)
          rw [← Kb] at k4
          exact ⟨_, ⟨⟨_, k4.1, (h2.trans k2).trans k4.2, fun j => ((h3 j).mono k2).mono k4.2⟩, h4, h5⟩, hK⟩
        · exact ⟨_, h, hK⟩
      · exact ⟨_, h, hK⟩
    · exact ⟨_, h, hK⟩
  · rename_i k o e
    split at hK
    · rename_i sz hE
      obtain ⟨ho, hK⟩ := hK
      have hk := h3 k
      rw [hE] at hk
      have hc := Qr1 (C0 := ⟨C0.io, w, loc, getM st.M⟩) h1 hk
      obtain ⟨k1, k2, k3⟩ := Qoj (e := e) (sz := sz) h1 ho
      refine ⟨_, ⟨⟨_, k1, h2.trans k2, fun j => ?_⟩, h4, h5⟩, hK⟩
      rw [ZP]
      split
      · rename_i e; subst e; rw [hc]; exact k3
      · exact (h3 j).mono k2
    · exact ⟨_, h, hK⟩
  · rename_i bx off o e
    split at hK
    · rename_i ls hB
      split at hK
      · rename_i sz hL
        obtain ⟨ho, hoff, hne, hK⟩ := hK
        obtain ⟨k1, k2, k3⟩ := Qoj (e := e) (sz := sz) h1 ho
        have hM2 : getM (Kj st.M o (.arr e 0 sz [])) bx = some (.box ls) := by rw [QM, if_neg (Ne.symm hne)]; exact hB
        obtain ⟨loc', k4, k5⟩ := Qr2 k1 (y := .own o 0 0 0) hM2 hoff rfl (fun c hc => by
          rw [hL] at hc
          rw [Qr1 k1 hc]; exact k3)
        exact ⟨_, ⟨⟨_, k4, (h2.trans k2).trans k5, fun j => ((h3 j).mono k2).mono k5⟩, h4, h5⟩, hK⟩
      · exact ⟨_, h, hK⟩
    · exact ⟨_, h, hK⟩
  · obtain ⟨s, st', h6, h7, h8, h9⟩ := hK
    exact ⟨st', (h.ren h100 h6 h7).wk h100 h8, h9⟩

def xt : XT → Exit
  | .normal => .normal
  | .exit id => .exit id
  | .ret => .ret

theorem QmN {σ : Type} {c : Code} {Q : Exit → Act → World → Prop} (R : σ → Act → World → Prop) (μ : σ → Nat)
    (round : ∀ s a w, R s a w → c.wp P (Exit.then (fun a' w' => ∃ s', R s' a' w' ∧ μ s' < μ s) Q) a w) (s : σ) (a : Act) (w : World) (h : R s a w) : (Code.loop c).wp P Q a w := by
  intro b k cs
  have key : ∀ n s a w, μ s = n → R s a w → ∃ e a' w', Q e a' w' ∧ Arrives P (lone (b.at a (.code c :: .inLoop c :: k)) cs w) b k cs e a' w' := by
    intro n
    induction n using Nat.strongRecOn with
    | _ n ih =>
      intro s a w hn hR
      obtain ⟨e, a1, w1, hq, harr⟩ := round s a w hR b (.inLoop c :: k) cs
      cases e with
      | normal =>
        obtain ⟨s', hR', hlt⟩ := hq
        obtain ⟨e2, a2, w2, hq2, harr2⟩ := ih (μ s') (hn ▸ hlt) s' a1 w1 rfl hR'
        exact ⟨e2, a2, w2, hq2, .of_steps (Steps.trans harr (.one step_inLoop)) harr2⟩
      | exit id => exact ⟨_, a1, w1, hq, .pass (x := .inLoop c) rfl (fun _ _ => .inl (by simp)) harr⟩
      | goto l => exact ⟨_, a1, w1, hq, .pass (x := .inLoop c) rfl (fun _ _ => .inl (by simp)) harr⟩
      | ret => exact ⟨_, a1, w1, hq, .pass (x := .inLoop c) rfl (fun _ _ => .inl (by simp)) harr⟩
      | panic ch => exact ⟨_, a1, w1, hq, .pass (x := .inLoop c) rfl (fun _ _ => .inl (by simp)) harr⟩
      | outgrown => exact ⟨_, a1, w1, hq, .pass (x := .inLoop c) rfl (fun _ _ => .inl (by simp)) harr⟩
  obtain ⟨e, a', w', hq, harr⟩ := key _ s a w rfl h
  exact ⟨e, a', w', hq, .of_steps (.one step_loop) harr⟩

theorem QmO (hm : P.follows .mixedOrders = true)
    (h100 : ∀ o obj, C0.M o = some obj → o % 1000 < 100) : ∀ (s : SCode) (c : Code) (Q : XT → St → Prop) (QC : Exit → Act → World → Prop), Ku P A.n c s = true →
    (∀ e st a w, Rel A C0 st a w → Q e st → QC (xt e) a w) → ∀ (st : St) (a : Act) (w : World), Rel A C0 st a w → s.wp X Q st → c.wp P QC a w := by
  intro s
  induction s with
  | gh g s ih =>
    intro c Q QC hok hQ st a w hR hw
    rw [Ku] at hok
    simp only [SCode.wp] at hw
    obtain ⟨st', hR', hw'⟩ := Qk9 h100 hR hw
    exact ih c Q QC hok hQ st' a w hR' hw'
  | skip =>
    intro c Q QC hok hQ st a w hR hw
    cases c <;> simp [Ku] at hok
    exact wp_skip (hQ .normal st a w hR hw)
  | rg ops outs =>
    intro c Q QC hok hQ st a w hR hw
    cases c with
    | region id ops' d =>
      cases d with
      | true => simp [Ku] at hok
      | false =>
        simp only [Ku] at hok
        exact QpZ hok (K := Qk7 outs Q) (fun st a w h hk => hQ .normal _ a w (h.trim outs) hk) hR hw
    | _ => simp [Ku] at hok
  | rgd ops outs ck =>
    intro c Q QC hok hQ st a w hR hw
    cases c with
    | region id ops' d =>
      cases d with
      | false => simp [Ku] at hok
      | true =>
        simp only [Ku, Bool.and_eq_true] at hok
        exact QmM hm hok.1 hok.2 (K := Qk7 outs Q) (fun st a w h hk => hQ .normal _ a w (h.trim outs) hk) hR hw
    | _ => simp [Ku] at hok
  | seq x y ihx ihy =>
    intro c Q QC hok hQ st a w hR hw
    cases c with
    | seq a' b' =>
      simp only [Ku, Bool.and_eq_true] at hok
      simp only [SCode.wp] at hw
      refine wp_seq (ihx a' (Qh1 (y.wp X Q) Q) _ hok.1 (fun e st a w h hk => ?_) st a w hR hw)
      cases e with
      | normal => exact ihy b' Q QC hok.2 hQ st a w h hk
      | exit id => exact hQ (.exit id) st a w h hk
      | ret => exact hQ .ret st a w h hk
    | _ => simp [Ku] at hok
  | cond x y z ihy ihz =>
    intro c Q QC hok hQ st a w hR hw
    cases c with
    | cond x' a' b' =>
      simp only [Ku, Bool.and_eq_true] at hok
      simp only [SCode.wp] at hw
      split at hw
      · rename_i t ht
        obtain ⟨loc, h1, h2, h3⟩ := hR.ex
        have hx := QT h1.wf.glob h3 hok.1.1
        rw [ht] at hx
        simp only [RelV] at hx
        exact wp_cond_split hx (fun h => ihy a' Q QC hok.1.2 hQ st a w hR (hw.1 h)) (fun h => ihz b' Q QC hok.2 hQ st a w hR (hw.2 h))
      · exact hw.elim
    | _ => simp [Ku] at hok
  | block id x ih =>
    intro c Q QC hok hQ st a w hR hw
    cases c with
    | block id' c' =>
      simp only [Ku, Bool.and_eq_true, beq_iff_eq] at hok
      obtain ⟨rfl, hok⟩ := hok
      simp only [SCode.wp] at hw
      refine wp_block (ih c' (QgN id' Q) _ hok (fun e st a w h hk => ?_) st a w hR hw)
      cases e with
      | normal => exact hQ .normal st a w h hk
      | exit id2 =>
        simp only [QgN] at hk
        show Exit.inBlock id' QC (.exit id2) a w
        simp only [Exit.inBlock]
        split at hk
        · rename_i e; rw [if_pos e]; exact hQ .normal st a w h hk
        · rename_i e; rw [if_neg e]; exact hQ (.exit id2) st a w h hk
      | ret => exact hQ .ret st a w h hk
    | _ => simp [Ku] at hok
  | loop x ih =>
    intro c Q QC hok hQ st a w hR hw
    cases c with
    | loop c' =>
      simp only [Ku] at hok
      simp only [SCode.wp] at hw
      obtain ⟨I, ⟨m0, st0, hwk, hI0⟩, hstep⟩ := hw
      refine QmN (σ := Nat × St) (fun s a w => Rel A C0 s.2 a w ∧ I s.1 s.2) Prod.fst (fun s a w ⟨hR, hI⟩ => ?_) (m0, st0) a w ⟨hR.wk h100 hwk, hI0⟩
      refine ih c' _ _ hok (fun e st' a' w' h hk => ?_) s.2 a w hR (hstep s.1 s.2 hI)
      cases e with
      | normal =>
        obtain ⟨m', st'', hwk, hI', hlt⟩ := hk
        exact ⟨(m', st''), ⟨h.wk h100 hwk, hI'⟩, hlt⟩
      | exit id => exact hQ (.exit id) st' a' w' h hk
      | ret => exact hQ .ret st' a' w' h hk
    | _ => simp [Ku] at hok
  | exit id =>
    intro c Q QC hok hQ st a w hR hw
    cases c <;> simp [Ku] at hok
    subst hok
    exact wp_exit (hQ (.exit _) st a w hR hw)
  | ret =>
    intro c Q QC hok hQ st a w hR hw
    cases c <;> simp [Ku] at hok
    exact wp_ret (hQ .ret st a w hR hw)
  | scope x ih =>
    intro c Q QC hok hQ st a w hR hw
    cases c with
    | scope c' =>
      simp only [Ku] at hok
      simp only [SCode.wp] at hw
      refine wp_scope_straight (ih c' Q _ hok (fun e st a w h hk => ?_) st a w hR hw)
      cases e <;> exact hQ _ st a w h hk
    | _ => simp [Ku] at hok
  | label l =>
    intro c Q QC hok hQ st a w hR hw
    cases c <;> simp [Ku] at hok
    exact wp_label (hQ .normal st a w hR hw)
end
end Go.Ve

namespace Go.Ve
open Go.RowKit

inductive SRes where
  | t (k : Nat)
  | c1 (k : Nat)
  | cN (k n : Nat)
  deriving Inhabited

structure SFun where
  n : Nat
  res : List SRes
  body : SCode

def QaK (P : Program) (n : Nat) : List ResultVar → List SRes → Bool
  | [], [] => true
  | .tmp k :: rs, .t k' :: ss => k == k' && QaK P n rs ss
  | .cell k t :: rs, .c1 k' :: ss => k == k' && ZQ P t && QaK P n rs ss
  | .cell k t :: rs, .cN k' m :: ss => k == k' && Qrm P t && UM P t m && QaK P n rs ss
  | _, _ => false

def QY (P : Program) (f : FuncId) (sf : SFun) : Bool :=
  match P.funcs[f]? with
  | some fn => fn.ntmps == sf.n && QaK P sf.n fn.results.toList sf.res && (match fn.body with | some c => Ku P sf.n c sf.body | none => false)
  | none => false

def QnP (st : St) : SRes → AV → Prop
  | .t k, v => getE st.E k = v
  | .c1 k, v => match getE st.E k with
    | .ptr o off => match getM st.M o with | some (.box ls) => off < ls.length ∧ ls.getD off .junk = v | _ => False
    | _ => False
  | .cN k n, v => match getE st.E k with
    | .ptr o off => match getM st.M o with | some (.box ls) => off + n ≤ ls.length ∧ v = .agg ((ls.drop off).take n) | _ => False
    | _ => False
def QcP (st : St) : List SRes → List AV → Prop
  | [], vs => vs = []
  | x :: xs, vs => ∃ v vs', vs = v :: vs' ∧ QnP st x v ∧ QcP st xs vs'
def QE (res : List SRes) (r : AV) (post : List (Nat × AObj)) (st : St) : Prop :=
  (match res with
   | [x] => QnP st x r
   | xs => ∃ vs, QcP st xs vs ∧ r = .tup vs) ∧
  wkM st.M post ∧ (post.all fun p => Qd (dom post) p.2) = true ∧ Qc (dom post) r = true ∧ keepB st.M post = true

def Qh2 : Nat → List AV → List (Nat × AV)
  | _, [] => []
  | k, x :: xs => (k, x) :: Qh2 (k + 1) xs

def Ql3 (res : List SRes) (r : AV) (post : List (Nat × AObj)) : XT → St → Prop
  | .ret, st => QE res r post st
  | .normal, st => QE res r post st
  | _, _ => False

section
variable {P : Program}

def QgP (tmps : Array Value) : ResultVar → Sem Value
  | .tmp t => pure (tmps.getD t undef)
  | .cell x t => do loadVar t (← asAddr (tmps.getD x undef))
theorem QmP (fn : Func) (tmps : Array Value) : results fn tmps = (do let vs ← fn.results.mapM (QgP tmps); pure (if h : vs.size = 1 then vs[0] else .tuple vs)) := by
  have : (fun rv : ResultVar => (match rv with | .tmp t => pure (tmps.getD t undef) | .cell x t => do loadVar t (← asAddr (tmps.getD x undef)) : Sem Value)) = QgP tmps := by
    funext rv; cases rv <;> rfl
  unfold results
  rw [← this]
  rfl

theorem Qr3 {A : A0} {C0 : Ctx} {st : St} {a : Act} {w : World} {loc : Nat → Option Value} (hI : Inv A ⟨C0.io, w, loc, getM st.M⟩) (hE : ∀ k, RelV ⟨C0.io, w, loc, getM st.M⟩ (getE st.E k) (a.tmps.getD k undef)) {n : Nat} :
    ∀ {rv : ResultVar} {s : SRes} {v : AV}, QaK P n [rv] [s] = true → QnP st s v → ∃ c, (QgP a.tmps rv).run P w = .ok c w ∧ RelV ⟨C0.io, w, loc, getM st.M⟩ v c := by
  intro rv s v hok hr
  cases rv with
  | tmp k =>
    cases s with
    | t k' =>
      simp only [QaK, Bool.and_eq_true, beq_iff_eq] at hok
      obtain ⟨rfl, _⟩ := hok
      simp only [QnP] at hr
      exact ⟨_, rfl, hr ▸ hE k⟩
    | c1 => simp [QaK] at hok
    | cN => simp [QaK] at hok
  | cell k t =>
    cases s with
    | t k' => simp [QaK] at hok
    | c1 k' =>
      simp only [QaK, Bool.and_eq_true, beq_iff_eq] at hok
      obtain ⟨⟨rfl, hpl⟩, _⟩ := hok
      simp only [QnP] at hr
      split at hr
      · rename_i o off hk
        split at hr
        · rename_i ls hM
          have hx := hE k
          rw [hk] at hx
          have hp : (GH (getM st.M) (.ptr o off) KV).pre ∧ (GH (getM st.M) (.ptr o off) KV).v = v := by
            simp only [GH, hM]
            have : ls.drop off = ls.getD off .junk :: ls.drop (off + 1) := by
              rw [List.drop_eq_getElem_cons hr.1]; simp [hr.1]
            rw [this]; exact ⟨trivial, hr.2⟩
          obtain ⟨c, h1, h2, _⟩ := QgA (P := P) hI hx hpl hp.1
          rw [hp.2] at h2
          obtain ⟨_, b, off', cs, _, _, _, hv, _⟩ := QhU hI hx hp.1
          refine ⟨c, ?_, h2⟩
          simp only [Instr.loadAt, Sem.run_bind, hv, Instr.sureAddr, Sem.run_pure, Result.andThen_ok] at h1
          simp only [QgP, Sem.run_bind, hv, asAddr, Sem.run_pure, Result.andThen_ok, h1]
        · exact hr.elim
      · exact hr.elim
    | cN k' m =>
      simp only [QaK, Bool.and_eq_true, beq_iff_eq] at hok
      obtain ⟨⟨⟨rfl, hag⟩, hsz⟩, _⟩ := hok
      simp only [QnP] at hr
      split at hr
      · rename_i o off hk
        split at hr
        · rename_i ls hM
          have hx := hE k
          rw [hk] at hx
          have hp : (GH (getM st.M) (.ptr o off) fun ls => ⟨m ≤ ls.length, .agg (ls.take m), []⟩).pre ∧ (GH (getM st.M) (.ptr o off) fun ls => ⟨m ≤ ls.length, .agg (ls.take m), []⟩).v = v := by
            simp only [GH, hM]
            refine ⟨by rw [List.length_drop]; omega, hr.2.symm⟩
          obtain ⟨c, h1, h2, _⟩ := QgB (P := P) hI hx hag hsz hp.1
          rw [hp.2] at h2
          obtain ⟨_, b, off', cs, _, _, _, hv, _⟩ := QhU hI hx hp.1
          refine ⟨c, ?_, h2⟩
          simp only [Instr.loadAt, Sem.run_bind, hv, Instr.sureAddr, Sem.run_pure, Result.andThen_ok] at h1
          simp only [QgP, Sem.run_bind, hv, asAddr, Sem.run_pure, Result.andThen_ok, h1]
        · exact hr.elim
      · exact hr.elim

theorem Qcq {A : A0} {C0 : Ctx} {st : St} {a : Act} {w : World} {loc : Nat → Option Value} (hI : Inv A ⟨C0.io, w, loc, getM st.M⟩) (hE : ∀ k, RelV ⟨C0.io, w, loc, getM st.M⟩ (getE st.E k) (a.tmps.getD k undef)) {n : Nat} :
    ∀ {rs : List ResultVar} {ss : List SRes} {vs : List AV}, QaK P n rs ss = true → QcP st ss vs →
      ∃ cs, (rs.mapM (QgP a.tmps)).run P w = .ok cs w ∧ RelL ⟨C0.io, w, loc, getM st.M⟩ vs cs ∧ cs.length = ss.length
  | [], [], vs, _, h => by simp only [QcP] at h; subst h; exact ⟨[], by simp, by simp [RelL], rfl⟩
  | [], _ :: _, vs, h, _ => by simp [QaK] at h
  | .tmp _ :: _, [], vs, h, _ => by simp [QaK] at h
  | .cell _ _ :: _, [], vs, h, _ => by simp [QaK] at h
  | rv :: rs, s :: ss, vs, hok, h => by
    simp only [QcP] at h
    obtain ⟨v, vs', rfl, h1, h2⟩ := h
    have hok' : QaK P n [rv] [s] = true ∧ QaK P n rs ss = true := by
      cases rv <;> cases s <;> simp only [QaK, Bool.and_eq_true, Bool.and_true] at hok ⊢ <;> first | exact hok | (simp at hok)
    obtain ⟨c, h3, h4⟩ := Qr3 hI hE hok'.1 h1
    obtain ⟨cs, h5, h6, h7⟩ := Qcq hI hE hok'.2 h2
    refine ⟨c :: cs, ?_, RelL.cons h4 h6, by simp [h7]⟩
    rw [List.mapM_cons]
    simp only [Sem.run_bind, h3, Result.andThen_ok, h5, Sem.run_pure]

/-- A FUNCTION's CONTRACT, out of what its code comes to. -/
theorem Qh (X : Env P) (hm : P.follows .mixedOrders = true)
    {f : FuncId} {sf : SFun} (hok : QY P f sf = true) {args : List AV} (hl : args.length ≤ sf.n) {pre : List (Nat × AObj)} (h100 : (dom pre).all (decide <| · % 1000 < 100) = true) {r : AV} {post : List (Nat × AObj)}
    (h : sf.body.wp X (Ql3 sf.res r post) ⟨Qh2 0 args, pre⟩) : Contract P f args pre r post := by
  intro io w loc vs hio hwf hargs
  unfold QY at hok
  split at hok
  · rename_i fn hfn
    simp only [Bool.and_eq_true, beq_iff_eq] at hok
    obtain ⟨⟨hn, hres⟩, hb⟩ := hok
    split at hb
    · rename_i c hc
      let C0 : Ctx := ⟨io, w, loc, getM pre⟩
      let A : A0 := ⟨io, w, 100, fun o b => ∃ hv, loc o = some hv ∧ blkOf hv = some b, sf.n⟩
      have h100' : ∀ o obj, C0.M o = some obj → o % 1000 < 100 := fun o obj ho => by
        rw [List.all_eq_true] at h100
        have := h100 o (by have := JV (show getM pre o = some obj from ho); simpa using this)
        simpa using this
      have hI : Inv A C0 := ⟨rfl, Nat.le_refl _, hio, hwf, fun o b ⟨hv, h1, _⟩ => by
        obtain ⟨obj, ho⟩ := hwf.dom o hv h1
        exact h100' o obj ho, Ev.refl _ _, fun o hv b h1 h2 => .inr ⟨hv, h1, h2⟩⟩
      have hvl := hargs.length
      have hR : Rel A C0 ⟨Qh2 0 args, pre⟩ { tmps := vs.toArray ++ Array.replicate (fn.ntmps - vs.toArray.size) undef, defers := [] } w := by
        refine ⟨⟨loc, hI, Ext.refl _, fun k => ?_⟩, ?_, rfl⟩
        · have key : ∀ (xs : List AV) (cs : List Value) (j : Nat), RelL C0 xs cs → (k < j ∨ k ≥ j + xs.length → getE (Qh2 j xs) k = .junk) ∧ (∀ i, k = j + i → i < xs.length → ∃ c, cs[i]? = some c ∧ RelV C0 (getE (Qh2 j xs) k) c) := by
            intro xs
            induction xs with
            | nil => intro cs j _; exact ⟨fun _ => rfl, fun i _ h => by simp at h⟩
            | cons x xs ih =>
              intro cs j h
              simp only [RelL] at h
              obtain ⟨c, cs', rfl, h1, h2⟩ := h
              obtain ⟨ih1, ih2⟩ := ih cs' (j + 1) h2
              refine ⟨fun hk => ?_, fun i hk hi => ?_⟩
              · simp only [Qh2, getE]
                rw [if_neg (by simp at hk; omega)]
                exact ih1 (by simp at hk; omega)
              · simp only [Qh2, getE]
                cases i with
                | zero => rw [if_pos (by omega)]; exact ⟨c, rfl, h1⟩
                | succ i =>
                  rw [if_neg (by omega)]
                  obtain ⟨c', h3, h4⟩ := ih2 i (by omega) (by simpa using hi)
                  exact ⟨c', by simpa using h3, h4⟩
          obtain ⟨k1, k2⟩ := key args vs 0 hargs
          by_cases hk : k < args.length
          · obtain ⟨c, h1, h2⟩ := k2 k (by omega) hk
            have hkv : k < vs.length := by omega
            have : (vs.toArray ++ Array.replicate (fn.ntmps - vs.toArray.size) undef).getD k undef = c := by
              simp only [Array.getD_eq_getD_getElem?, Array.getElem?_append, List.size_toArray, hkv, if_true, List.getElem?_toArray, h1, Option.getD_some]
            rw [this]; exact h2
          · rw [k1 (by omega)]; simp [RelV]
        · simp only [Array.size_append, List.size_toArray, Array.size_replicate]
          show vs.length + (fn.ntmps - vs.length) = sf.n
          omega
      refine calls_of_wp hfn hc ?_
      refine QmO hm h100' sf.body c (Ql3 sf.res r post) _ hb ?_ _ _ _ hR h
      intro e st a' w' hR' hq
      have fin : QE sf.res r post st → a'.defers = [] ∧ ∃ v, (results fn a'.tmps).run P w' = .ok v w' ∧ (∃ v_1 loc', (Ending.returned v) = .returned v_1 ∧ WfM ⟨io, w', loc', getM post⟩ ∧ Ext ⟨io, w, loc, getM pre⟩ ⟨io, w', loc', getM post⟩ ∧ RelV ⟨io, w', loc', getM post⟩ r v_1 ∧
          Ev w w' (Ctx.ownB ⟨io, w, loc, getM pre⟩) ∧ ∀ o hv b, loc' o = some hv → blkOf hv = some b → w.heap.size ≤ b ∨ ∃ hv0, loc o = some hv0 ∧ blkOf hv0 = some b) := by
        rintro ⟨h1, h2, h3, h4, h5⟩
        obtain ⟨⟨loc', hI', hX', hE'⟩, _, hdf⟩ := hR'
        refine ⟨hdf, ?_⟩
        have hIo : C0.io = io := rfl
        obtain ⟨hres', hI''⟩ := Inv.restrict hI' h2 h3
        have done : ∀ v, RelV ⟨io, w', loc', getM st.M⟩ r v → ∃ v_1 loc', (Ending.returned v) = .returned v_1 ∧ WfM ⟨io, w', loc', getM post⟩ ∧ Ext ⟨io, w, loc, getM pre⟩ ⟨io, w', loc', getM post⟩ ∧ RelV ⟨io, w', loc', getM post⟩ r v_1 ∧
          Ev w w' (Ctx.ownB ⟨io, w, loc, getM pre⟩) ∧ ∀ o hv b, loc' o = some hv → blkOf hv = some b → w.heap.size ≤ b ∨ ∃ hv0, loc o = some hv0 ∧ blkOf hv0 = some b := by
          intro v hv
          refine ⟨v, _, rfl, hI''.wf, ⟨fun t b hb => ?_, fun o obj hv ho hl => ?_⟩, RelV.res hres' r v h4 hv, ?_, fun o hv b h6 h7 => hI''.new o hv b h6 h7⟩
          · obtain ⟨h6, h7⟩ := hX'.ok t b hb
            exact ⟨(hres'.ok t b h6).1, h7⟩
          · obtain ⟨obj', hv', h6, h7, h8⟩ := hX'.refs o obj hv ho hl
            have h6 : getM st.M o = some obj' := h6
            have hd : (dom post).contains o = true := by
              unfold keepB at h5
              rw [List.all_eq_true] at h5
              have := h5 o (by have := JV h6; simpa using this)
              simp only [Bool.or_eq_true, decide_eq_true_eq] at this
              have hlt := h100' o obj ho
              rcases this with h | h
              · omega
              · exact h
            have := hres'.obj o hd
            exact ⟨obj', hv', by rw [this.1]; exact h6, by rw [this.2]; exact h7, h8⟩
          · have hev := hI''.ev
            exact ⟨hev.os, hev.tape, hev.output, hev.size, fun b hb ho => hev.block b hb (fun ⟨o, hv, h6, h7⟩ => ho ⟨o, hv, h6, h7⟩)⟩
        have hmap : ∀ {cs : List Value}, (fn.results.toList.mapM (QgP a'.tmps)).run P w' = .ok cs w' →
            (results fn a'.tmps).run P w' = .ok (if h : cs.toArray.size = 1 then cs.toArray[0] else .tuple cs.toArray) w' := by
          intro cs h6
          rw [QmP, Array.mapM_eq_mapM_toList]
          simp only [Sem.run_bind, Sem.run_map]
          rw [h6]
          rfl
        split at h1
        · rename_i x hx
          have hlp : QcP st sf.res [r] := by rw [hx]; simp only [QcP]; exact ⟨r, [], rfl, h1, rfl⟩
          obtain ⟨cs, h6, h7, h8⟩ := Qcq hI' hE' hres hlp
          rw [hx] at h8
          simp only [RelL] at h7
          obtain ⟨c1, cs1, rfl, h9, rfl⟩ := h7
          exact ⟨c1, hmap h6, done c1 h9⟩
        · rename_i hx
          obtain ⟨vs', hvs, rfl⟩ := h1
          obtain ⟨cs, h6, h7, h8⟩ := Qcq hI' hE' hres hvs
          have hne : ¬ cs.toArray.size = 1 := by
            simp only [List.size_toArray, h8]
            intro h1
            match hsr : sf.res with
            | [] => rw [hsr] at h1; simp at h1
            | [x] => exact hx x hsr
            | x :: y :: l => rw [hsr] at h1; simp at h1
          have := hmap h6
          rw [dif_neg hne] at this
          exact ⟨_, this, done _ (by simp only [RelV]; exact ⟨cs, rfl, h7⟩)⟩
      cases e with
      | normal => exact fin hq
      | ret => exact fin hq
      | exit id => exact hq.elim
    · cases hb
  · cases hok
end
end Go.Ve

namespace Go.Ve
open Go.RowKit

/-! The laws that a walk rewrites with: each asks for all arguments, so that nothing is opened ahead of its time. -/
/-- Two ways: both are kept shut till it is known which is walked. -/
def br (v : AV) (A : St → Prop) (sa : St) (B : St → Prop) (sb : St) : Prop :=
  match v with
  | .bool b => (b = true → A sa) ∧ (b = false → B sb)
  | _ => False
/-- The same with a third way, for a Boolean that was passed over itself. -/
def brU (v : AV) (A B U : St → Prop) (s : St) : Prop :=
  match v with
  | .bool b => (b = true → A s) ∧ (b = false → B s)
  | .tup [] => U s
  | _ => False
section
variable {A B U : St → Prop} {sa sb s : St}
theorem GX : br (.bool true) A sa B sb = A sa := by simp [br]
theorem YK : br (.bool false) A sa B sb = B sb := by simp [br]
theorem Vy {b : Bool} : br (.bool (!b)) A sa B sb = br (.bool b) B sb A sa := by cases b <;> simp [br]
theorem Vz {a b : Bool} : br (.bool (a && b)) A sa B sb = ((a = true ∧ b = true → A sa) ∧ (¬ (a = true ∧ b = true) → B sb)) := by cases a <;> cases b <;> simp [br]
theorem QdU {a b : Bool} : br (.bool (a || b)) A sa B sb = ((a = true ∨ b = true → A sa) ∧ (¬ (a = true ∨ b = true) → B sb)) := by cases a <;> cases b <;> simp [br]
theorem VA {p : Prop} [Decidable p] : br (.bool (decide p)) A sa B sb = ((p → A sa) ∧ (¬ p → B sb)) := by by_cases h : p <;> simp [br, h]
theorem QdV {x y : Int} : br (.bool (x == y)) A sa B sb = ((x = y → A sa) ∧ (¬ x = y → B sb)) := by by_cases h : x = y <;> simp [br, h]
theorem QdW {x y : Int} : br (.bool (x != y)) A sa B sb = ((¬ x = y → A sa) ∧ (x = y → B sb)) := by by_cases h : x = y <;> simp [br, h]
theorem YL : brU (.bool true) A B U s = A s := by simp [brU]
theorem KX : brU (.bool false) A B U s = B s := by simp [brU]
theorem QdX : brU (.tup []) A B U s = U s := by simp [brU]
theorem GY {b : Bool} : brU (.bool (!b)) A B U s = brU (.bool b) B A U s := by cases b <;> simp [brU]
theorem GZ {a b : Bool} : brU (.bool (a && b)) A B U s = ((a = true ∧ b = true → A s) ∧ (¬ (a = true ∧ b = true) → B s)) := by cases a <;> cases b <;> simp [brU]
theorem VB {a b : Bool} : brU (.bool (a || b)) A B U s = ((a = true ∨ b = true → A s) ∧ (¬ (a = true ∨ b = true) → B s)) := by cases a <;> cases b <;> simp [brU]
theorem G0 {p : Prop} [Decidable p] : brU (.bool (decide p)) A B U s = ((p → A s) ∧ (¬ p → B s)) := by by_cases h : p <;> simp [brU, h]
theorem VC {x y : Int} : brU (.bool (x == y)) A B U s = ((x = y → A s) ∧ (¬ x = y → B s)) := by by_cases h : x = y <;> simp [brU, h]
theorem VD {x y : Int} : brU (.bool (x != y)) A B U s = ((¬ x = y → A s) ∧ (x = y → B s)) := by by_cases h : x = y <;> simp [brU, h]
end
def Qr4 {P : Program} (X : Env P) (d : Option Nat) (op : SOp) (ks : List Nat) (t : Nat) (b : Bool) (r : List SOper) (K : St → Prop) (st : St) : Prop := Gk X op (st.lit t b) (QrW d ks (st.lit t b) (QgH X r K))
def Qok {P : Program} (X : Env P) (d : Option Nat) (ks : List Nat) (t : Nat) (b : Bool) (r : List SOper) (K : St → Prop) (st : St) : Prop := QgH X r K (QaS ks ((st.lit t b).put d (.tup []) []))
def Qr5 {P : Program} (X : Env P) (d : Option Nat) (ks : List Nat) (r : List SOper) (K : St → Prop) (st : St) : Prop := QgH X r K (QaS ks (st.put d (.tup []) []))
def Qr6 {P : Program} (X : Env P) (ck : List (Option (List Nat))) (tr : List (List Nat)) (s : SOper) (t : Nat) (b : Bool) (K : List (List Nat) → St → Prop) (st : St) : Prop := Gk X s.op (st.lit t b) (drK ck tr s (st.lit t b) K)
def Qol {P : Program} (X : Env P) (d : Option Nat) (t : Nat) (b : Bool) (tr : List (List Nat)) (K : List (List Nat) → St → Prop) (st : St) : Prop := K ([] :: tr) ((st.lit t b).put d (.tup []) [])
def Qr7 {P : Program} (X : Env P) (d : Option Nat) (tr : List (List Nat)) (K : List (List Nat) → St → Prop) (st : St) : Prop := K ([] :: tr) (st.put d (.tup []) [])

section
variable {P : Program} {X : Env P}
theorem VE {Q : XT → St → Prop} {st : St} : SCode.wp X .skip Q st = Q .normal st := (rfl)
theorem QmQ {ops : List SOper} {outs : List Nat} {Q : XT → St → Prop} {st : St} : SCode.wp X (.rg ops outs) Q st = QgH X ops (Qk7 outs Q) st := (rfl)
theorem QdY {ops : List SOper} {outs : List Nat} {ck : List (Option (List Nat))} {Q : XT → St → Prop} {st : St} : SCode.wp X (.rgd ops outs ck) Q st = Qh0 X ops ck (Qk7 outs Q) [] st := (rfl)
theorem QdZ {a b : SCode} {Q : XT → St → Prop} {st : St} : SCode.wp X (.seq a b) Q st = SCode.wp X a (Qh1 (SCode.wp X b Q) Q) st := (rfl)
theorem VF {c : SX} {a b : SCode} {Q : XT → St → Prop} {st : St} : SCode.wp X (.cond c a b) Q st = br (ev (getE st.E) c) (SCode.wp X a Q) st (SCode.wp X b Q) st := (rfl)
theorem G1 {id : Nat} {c : SCode} {Q : XT → St → Prop} {st : St} : SCode.wp X (.block id c) Q st = SCode.wp X c (QgN id Q) st := (rfl)
theorem VG {c : SCode} {Q : XT → St → Prop} {st : St} : SCode.wp X (.loop c) Q st = QgO (SCode.wp X c) Q st := (rfl)
theorem VH {id : Nat} {Q : XT → St → Prop} {st : St} : SCode.wp X (.exit id) Q st = Q (.exit id) st := (rfl)
theorem Qd0 {Q : XT → St → Prop} {st : St} : SCode.wp X .ret Q st = Q .ret st := (rfl)
theorem QmR {g : Gh} {c : SCode} {Q : XT → St → Prop} {st : St} : SCode.wp X (.gh g c) Q st = Qk6 g st (SCode.wp X c Q) := (rfl)
theorem Qd1 {K : St → Prop} {st : St} : QgH X [] K st = K st := (rfl)
theorem Qd2 {d : Option Nat} {op : SOp} {ks : List Nat} {r : List SOper} {K : St → Prop} {st : St} : QgH X (⟨d, op, none, ks⟩ :: r) K st = Gk X op st (QrW d ks st (QgH X r K)) := (rfl)
theorem Qd3 {d : Option Nat} {op : SOp} {t : Nat} {ks : List Nat} {r : List SOper} {K : St → Prop} {st : St} : QgH X (⟨d, op, some (t, true), ks⟩ :: r) K st = brU (getE st.E t) (Qr4 X d op ks t true r K) (Qok X d ks t false r K) (Qr5 X d ks r K) st := (rfl)
theorem Qd4 {d : Option Nat} {op : SOp} {t : Nat} {ks : List Nat} {r : List SOper} {K : St → Prop} {st : St} : QgH X (⟨d, op, some (t, false), ks⟩ :: r) K st = brU (getE st.E t) (Qok X d ks t true r K) (Qr4 X d op ks t false r K) (Qr5 X d ks r K) st := by
  show (match getE st.E t with | .bool b => _ | .tup [] => _ | _ => False) = brU (getE st.E t) _ _ _ _
  rcases getE st.E t with _ | _ | _ | _ | (_ | _) | _ | _ | _ | _ | _ | _ | _ <;> first | rfl | exact propext and_comm
theorem Qd5 {d : Option Nat} {op : SOp} {ks : List Nat} {t : Nat} {b : Bool} {r : List SOper} {K : St → Prop} {st : St} : Qr4 X d op ks t b r K st = Gk X op (st.lit t b) (QrW d ks (st.lit t b) (QgH X r K)) := (rfl)
theorem Qd6 {d : Option Nat} {ks : List Nat} {t : Nat} {b : Bool} {r : List SOper} {K : St → Prop} {st : St} : Qok X d ks t b r K st = QgH X r K (QaS ks ((st.lit t b).put d (.tup []) [])) := (rfl)
theorem Qd7 {d : Option Nat} {ks : List Nat} {r : List SOper} {K : St → Prop} {st : St} : Qr5 X d ks r K st = QgH X r K (QaS ks (st.put d (.tup []) [])) := (rfl)
theorem Qd8 {ck : List (Option (List Nat))} {tr : List (List Nat)} {K : St → Prop} {st : St} : Qh0 X [] ck K tr st = K st := (rfl)
theorem Qd9 {ks : List Nat} {d : Option Nat} {op : SOp} {r : List SOper} {c : Option (List Nat)} {ck : List (Option (List Nat))} {tr : List (List Nat)} {K : St → Prop} {st : St} : Qh0 X (⟨d, op, none, ks⟩ :: r) (c :: ck) K tr st = Gk X op st (drK (c :: ck) tr ⟨d, op, none, ks⟩ st (Qh0 X r ck K)) := (rfl)
theorem Qea {ks : List Nat} {d : Option Nat} {op : SOp} {t : Nat} {r : List SOper} {c : Option (List Nat)} {ck : List (Option (List Nat))} {tr : List (List Nat)} {K : St → Prop} {st : St} : Qh0 X (⟨d, op, some (t, true), ks⟩ :: r) (c :: ck) K tr st =
    brU (getE st.E t) (Qr6 X (c :: ck) tr ⟨d, op, some (t, true), ks⟩ t true (Qh0 X r ck K)) (Qol X d t false tr (Qh0 X r ck K)) (Qr7 X d tr (Qh0 X r ck K)) st := (rfl)
theorem Qeb {ks : List Nat} {d : Option Nat} {op : SOp} {t : Nat} {r : List SOper} {c : Option (List Nat)} {ck : List (Option (List Nat))} {tr : List (List Nat)} {K : St → Prop} {st : St} : Qh0 X (⟨d, op, some (t, false), ks⟩ :: r) (c :: ck) K tr st =
    brU (getE st.E t) (Qol X d t true tr (Qh0 X r ck K)) (Qr6 X (c :: ck) tr ⟨d, op, some (t, false), ks⟩ t false (Qh0 X r ck K)) (Qr7 X d tr (Qh0 X r ck K)) st := by
  show (match getE st.E t with | .bool b => _ | .tup [] => _ | _ => False) = brU (getE st.E t) _ _ _ _
  rcases getE st.E t with _ | _ | _ | _ | (_ | _) | _ | _ | _ | _ | _ | _ | _ <;> first | rfl | exact propext and_comm
theorem G2 {d : Option Nat} {op : SOp} {g : Option (Nat × Bool)} {ks : List Nat} {ck : List (Option (List Nat))} {tr : List (List Nat)} {t : Nat} {b : Bool} {K : List (List Nat) → St → Prop} {st : St} :
    Qr6 X ck tr ⟨d, op, g, ks⟩ t b K st = Gk X op (st.lit t b) (drK ck tr ⟨d, op, g, ks⟩ (st.lit t b) K) := (rfl)
theorem G3 {d : Option Nat} {t : Nat} {b : Bool} {tr : List (List Nat)} {K : List (List Nat) → St → Prop} {st : St} : Qol X d t b tr K st = K ([] :: tr) ((st.lit t b).put d (.tup []) []) := (rfl)
theorem G4 {d : Option Nat} {tr : List (List Nat)} {K : List (List Nat) → St → Prop} {st : St} : Qr7 X d tr K st = K ([] :: tr) (st.put d (.tup []) []) := (rfl)
theorem VI {ks : List Nat} {d : Option Nat} {op : SOp} {g : Option (Nat × Bool)} {ck : List (Option (List Nat))} {tr : List (List Nat)} {st : St} {K : List (List Nat) → St → Prop} {v : AV} {ups : List (Nat × AObj)} :
    drK (none :: ck) tr ⟨d, op, g, ks⟩ st K v ups = K ([] :: tr) (st.put d v ups) := by simp [drK, trk, nxt]
theorem VJ {ks : List Nat} {js : List Nat} {d : Option Nat} {op : SOp} {g : Option (Nat × Bool)} {ck : List (Option (List Nat))} {tr : List (List Nat)} {st : St} {K : List (List Nat) → St → Prop} {v : AV} {ups : List (Nat × AObj)} :
    drK (some js :: ck) tr ⟨d, op, g, ks⟩ st K v ups = ((js.all fun d => QfJ (tr.getD d []) (QhT op (getE st.E) ups)) = true ∧ K (QhT op (getE st.E) ups :: tr) (st.put d v ups)) := (rfl)
theorem VK {d : Option Nat} {ks : List Nat} {st : St} {K : St → Prop} {v : AV} {ups : List (Nat × AObj)} : QrW d ks st K v ups = K (QaS ks (st.put d v ups)) := (rfl)
theorem G5 {outs : List Nat} {Q : XT → St → Prop} {st : St} : Qk7 outs Q st = Q .normal (trim outs st) := (rfl)
theorem G6 {n : St → Prop} {Q : XT → St → Prop} {st : St} : Qh1 n Q .normal st = n st := (rfl)
theorem G7 {n : St → Prop} {Q : XT → St → Prop} {st : St} {id : Nat} : Qh1 n Q (.exit id) st = Q (.exit id) st := (rfl)
theorem G8 {n : St → Prop} {Q : XT → St → Prop} {st : St} : Qh1 n Q .ret st = Q .ret st := (rfl)
theorem G9 {c : SCode} {Q : XT → St → Prop} {st : St} : SCode.wp X (.scope c) Q st = SCode.wp X c Q st := (rfl)
theorem Xa {l : Nat} {Q : XT → St → Prop} {st : St} : SCode.wp X (.label l) Q st = Q .normal st := (rfl)
theorem VL {i : Nat} {Q : XT → St → Prop} {st : St} : QgN i Q .normal st = Q .normal st := (rfl)
theorem VM {i id : Nat} {Q : XT → St → Prop} {st : St} : QgN i Q (.exit id) st = if id = i then Q .normal st else Q (.exit id) st := (rfl)
theorem VN {i : Nat} {Q : XT → St → Prop} {st : St} : QgN i Q .ret st = Q .ret st := (rfl)
theorem Qr8 {x : SX} {args : List SX} {st : St} {K : AV → List (Nat × AObj) → Prop} : Gk X (.callV x args) st K = QdT X (ev (getE st.E) x) (args.map (ev (getE st.E))) (getM st.M) K := (rfl)
theorem Qr9 {f : FuncId} {a b args : List AV} {M : Nat → Option AObj} {K : AV → List (Nat × AObj) → Prop} : QdT X (.fn f a b) args M K = (W3 P f = true ∧ Qfu X f (a ++ (args ++ b)) M K) := (rfl)
theorem Qta {f : FuncId} {caps : List SX} {st : St} {K : AV → List (Nat × AObj) → Prop} : Gk X (.clos f caps) st K = YY (eff (.clos f caps) (getE st.E) (getM st.M)) K := (rfl)
theorem Qsa {o kk : Nat} {st : St} {K : AV → List (Nat × AObj) → Prop} : Gk X (.mkmap o kk) st K = YY (eff (.mkmap o kk) (getE st.E) (getM st.M)) K := (rfl)
theorem Qtb {ok : Bool} {kk : Nat} {z : AV} {m k : SX} {st : St} {K : AV → List (Nat × AObj) → Prop} : Gk X (.look ok kk z m k) st K = YY (eff (.look ok kk z m k) (getE st.E) (getM st.M)) K := (rfl)
theorem Qtc {kk : Nat} {m k x : SX} {st : St} {K : AV → List (Nat × AObj) → Prop} : Gk X (.mset kk m k x) st K = YY (eff (.mset kk m k x) (getE st.E) (getM st.M)) K := (rfl)
theorem Qt0 {n : Nat} {x i : SX} {st : St} {K : AV → List (Nat × AObj) → Prop} : Gk X (.idx n x i) st K = YY (eff (.idx n x i) (getE st.E) (getM st.M)) K := (rfl)
theorem Qtd {n sz : Nat} {x i : SX} {st : St} {K : AV → List (Nat × AObj) → Prop} : Gk X (.idxN n sz x i) st K = YY (eff (.idxN n sz x i) (getE st.E) (getM st.M)) K := (rfl)
theorem Qp5 {n sz : Nat} {x i : SX} {st : St} {K : AV → List (Nat × AObj) → Prop} : Gk X (.iaddrA n sz x i) st K = YY (eff (.iaddrA n sz x i) (getE st.E) (getM st.M)) K := (rfl)
theorem Qsb {neg : Bool} {x : SX} {st : St} {K : AV → List (Nat × AObj) → Prop} : Gk X (.isnil neg x) st K = YY (eff (.isnil neg x) (getE st.E) (getM st.M)) K := (rfl)
theorem Qt1 {x : SX} {st : St} {K : AV → List (Nat × AObj) → Prop} : Gk X (.b2s x) st K = YY (eff (.b2s x) (getE st.E) (getM st.M)) K := (rfl)
theorem VO {f : FuncId} {args : List SX} {st : St} {K : AV → List (Nat × AObj) → Prop} : Gk X (.call f args) st K = Qfu X f (args.map (ev (getE st.E))) (getM st.M) K := (rfl)
theorem VP {p : Prop} {v : AV} {u : List (Nat × AObj)} {K : AV → List (Nat × AObj) → Prop} : YY ⟨p, v, u⟩ K = (p ∧ K v u) := (rfl)

theorem YM {f : FuncId} {args : List AV} {M : Nat → Option AObj} {K : AV → List (Nat × AObj) → Prop} : Qfu X f args M K = Qn6 P X f args M K (X.R f args M) := (rfl)
theorem YN {f : FuncId} {args : List AV} {M : Nat → Option AObj} {K : AV → List (Nat × AObj) → Prop} : Qn6 P X f args M K none = Qk1 P X f args M K (QaJ M args) := (rfl)
theorem YO {f : FuncId} {args : List AV} {M : Nat → Option AObj} {K : AV → List (Nat × AObj) → Prop} {α : Type} {p : Prop} {g : α → Prop} {r : α → AV} {u : α → List (Nat × AObj)} : Qn6 P X f args M K (some ⟨p, g, r, u⟩) = (p ∧ ∀ a, g a → K (r a) (u a)) := (rfl)
theorem QmS {f : FuncId} {l : List AV} {M : Nat → Option AObj} : (Env.nil P).R f l M = none := (rfl)
theorem QmT {f g : FuncId} {t : List AV → Option (Prop × AV)} {h : ∀ args p v, t args = some (p, v) → p → Contract P f args [] v [] ∧ noref v = true ∧ No99 v} {l : List AV} {M : Nat → Option AObj} : (X.add f t h).R g l M = X.R g l M := (rfl)
theorem QmU {f g : FuncId} {t : RTab} {h : okTab P f t} {l : List AV} {M : Nat → Option AObj} : (X.addR f t h).R g l M = if g = f then t l M else X.R g l M := (rfl)
theorem QmV {f g : FuncId} {t : RTab} {h : okTab P f t} {l : List AV} : (X.addR f t h).T g l = X.T g l := (rfl)
theorem Xb {f : FuncId} {args l : List AV} {M : Nat → Option AObj} {K : AV → List (Nat × AObj) → Prop} : Qk1 P X f args M K (some l) = QrV P f args M K (X.T f l) := (rfl)
theorem Xc {f : FuncId} {args : List AV} {M : Nat → Option AObj} {K : AV → List (Nat × AObj) → Prop} {p : Prop} {v : AV} : QrV P f args M K (some (p, v)) = (p ∧ K v []) := (rfl)
theorem QmW {f : FuncId} {l : List AV} : (Env.nil P).T f l = none := (rfl)
theorem QmX {f g : FuncId} {t : List AV → Option (Prop × AV)} {h : ∀ args p v, t args = some (p, v) → p → Contract P f args [] v [] ∧ noref v = true ∧ No99 v} {l : List AV} : (X.add f t h).T g l = if g = f then t l else X.T g l := (rfl)
theorem Qi3 {α : Type} (F : α → St) (good : α → Prop) (μ : α → Nat) (a0 : α) {body : (XT → St → Prop) → St → Prop} {Q : XT → St → Prop} {st : St} (h0 : Wk st (F a0)) (g0 : good a0)
    (step : ∀ a, good a → body (Qh1 (Qr0 (fun m st => ∃ a, st = F a ∧ good a ∧ μ a = m) (μ a)) Q) (F a)) : QgO body Q st :=
  ⟨fun m st => ∃ a, st = F a ∧ good a ∧ μ a = m, ⟨μ a0, F a0, h0, a0, rfl, g0, rfl⟩, fun m st ⟨a, h1, h2, h3⟩ => by subst h1; subst h3; exact step a h2⟩
theorem Ql4 {α : Type} {F : α → St} {good : α → Prop} {μ : α → Nat} {m : Nat} (a : α) {st : St} (h0 : Wk st (F a)) (g0 : good a) (hm : μ a < m) : Qr0 (fun m st => ∃ a, st = F a ∧ good a ∧ μ a = m) m st :=
  ⟨μ a, F a, h0, ⟨a, rfl, g0, rfl⟩, hm⟩
theorem Xd {d : Nat} : getE [] d = .junk := (rfl)
theorem Xe {k : Nat} {v : AV} {r : List (Nat × AV)} {d : Nat} : getE ((k, v) :: r) d = if d = k then v else getE r d := (rfl)
theorem Xf {d : Nat} : getM [] d = none := (rfl)
theorem Xg {k : Nat} {v : AObj} {r : List (Nat × AObj)} {d : Nat} : getM ((k, v) :: r) d = if d = k then some v else getM r d := (rfl)
theorem VQ {M : List (Nat × AObj)} : Q1 M [] = M := (rfl)
theorem VR {M : List (Nat × AObj)} {k : Nat} {v : AObj} : Q1 M [(k, v)] = Kj M k v := (rfl)
theorem VS {M : List (Nat × AObj)} {k : Nat} {v : AObj} {r : List (Nat × AObj)} : Q1 M ((k, v) :: r) = Kj (Q1 M r) k v := (rfl)
theorem VT {st : St} {d : Nat} {v : AV} {u : List (Nat × AObj)} : st.put (some d) v u = ⟨QjB st.E d v, Q1 st.M u⟩ := (rfl)
theorem VU {st : St} {v : AV} {u : List (Nat × AObj)} : st.put none v u = ⟨st.E, Q1 st.M u⟩ := (rfl)
theorem Xh {st : St} : QaS [] st = st := (rfl)
theorem Xi {d : Nat} {l : List Nat} {st : St} : QaS (d :: l) st = QaS l ⟨QcN d st.E, st.M⟩ := (rfl)
theorem YP {d : Nat} : QcN d [] = [] := (rfl)
theorem YQ {d k : Nat} {v : AV} {r : List (Nat × AV)} : QcN d ((k, v) :: r) = if d = k then QcN d r else (k, v) :: QcN d r := (rfl)
theorem Qi {d : Nat} {v : AV} : QjB [] d v = [(d, v)] := (rfl)
theorem Qj {k d : Nat} {x v : AV} {r : List (Nat × AV)} : QjB ((k, x) :: r) d v = if d = k then (k, v) :: r else (k, x) :: QjB r d v := (rfl)
theorem Qec {st : St} {t : Nat} {b : Bool} : st.lit t b = ⟨QjB st.E t (.bool b), st.M⟩ := (rfl)
theorem Qm {res : List SRes} {r : AV} {post : List (Nat × AObj)} {st : St} : Ql3 res r post .ret st = QE res r post st := (rfl)
theorem Qe {res : List SRes} {r : AV} {post : List (Nat × AObj)} {st : St} : Ql3 res r post .normal st = QE res r post st := (rfl)
end

section
variable {P : Program} {X : Env P} {st : St} {K : AV → List (Nat × AObj) → Prop}
theorem QmY {x : SX} : Gk X (.mv x) st K = YY (eff (.mv x) (getE st.E) (getM st.M)) K := (rfl)
theorem YR {o e sz : Nat} : Gk X (.newnil o e sz) st K = YY (eff (.newnil o e sz) (getE st.E) (getM st.M)) K := (rfl)
theorem VV {c a b : SX} : Gk X (.pick c a b) st K = YY (eff (.pick c a b) (getE st.E) (getM st.M)) K := (rfl)
theorem Qed {b : BinOp} {x y : SX} : Gk X (.bin b x y) st K = YY (eff (.bin b x y) (getE st.E) (getM st.M)) K := (rfl)
theorem VX {b : BinOp} {x y : SX} : Gk X (.binN b x y) st K = YY (eff (.binN b x y) (getE st.E) (getM st.M)) K := (rfl)
theorem Qee {x : SX} : Gk X (.neg x) st K = YY (eff (.neg x) (getE st.E) (getM st.M)) K := (rfl)
theorem Qef {x : SX} : Gk X (.not x) st K = YY (eff (.not x) (getE st.E) (getM st.M)) K := (rfl)
theorem Qeg {n : Bool} {x y : SX} : Gk X (.eqB n x y) st K = YY (eff (.eqB n x y) (getE st.E) (getM st.M)) K := (rfl)
theorem Qeh {n : Bool} {ks : List LK} {x y : SX} : Gk X (.eqS n ks x y) st K = YY (eff (.eqS n ks x y) (getE st.E) (getM st.M)) K := (rfl)
theorem VY {k : IntKind} {x : SX} : Gk X (.conv k x) st K = YY (eff (.conv k x) (getE st.E) (getM st.M)) K := (rfl)
theorem Xj {o : Nat} {zs : List AV} : Gk X (.alloc o zs) st K = YY (eff (.alloc o zs) (getE st.E) (getM st.M)) K := (rfl)
theorem Qei {o : Nat} {x : SX} : Gk X (.box o x) st K = YY (eff (.box o x) (getE st.E) (getM st.M)) K := (rfl)
theorem Xk {x : SX} : Gk X (.load1 x) st K = YY (eff (.load1 x) (getE st.E) (getM st.M)) K := (rfl)
theorem Xl {n : Nat} {x : SX} : Gk X (.loadN n x) st K = YY (eff (.loadN n x) (getE st.E) (getM st.M)) K := (rfl)
theorem Xm {n : Nat} {x y : SX} : Gk X (.store n x y) st K = YY (eff (.store n x y) (getE st.E) (getM st.M)) K := (rfl)
theorem Xn {x : SX} : Gk X (.nilck x) st K = YY (eff (.nilck x) (getE st.E) (getM st.M)) K := (rfl)
theorem Xo {o : Nat} {x : SX} : Gk X (.faddr o x) st K = YY (eff (.faddr o x) (getE st.E) (getM st.M)) K := (rfl)
theorem YS {o : Nat} {x : SX} : Gk X (.field1 o x) st K = YY (eff (.field1 o x) (getE st.E) (getM st.M)) K := (rfl)
theorem YT {o n : Nat} {x : SX} : Gk X (.fieldN o n x) st K = YY (eff (.fieldN o n x) (getE st.E) (getM st.M)) K := (rfl)
theorem Xp {sz : Nat} {x i : SX} : Gk X (.iaddr sz x i) st K = YY (eff (.iaddr sz x i) (getE st.E) (getM st.M)) K := (rfl)
theorem VZ {x i : SX} : Gk X (.istr x i) st K = YY (eff (.istr x i) (getE st.E) (getM st.M)) K := (rfl)
theorem Xq {x : SX} {lo hi : Option SX} : Gk X (.slStr x lo hi) st K = YY (eff (.slStr x lo hi) (getE st.E) (getM st.M)) K := (rfl)
theorem V0 {sz : Nat} {x : SX} {lo hi : Option SX} : Gk X (.slSl sz x lo hi) st K = YY (eff (.slSl sz x lo hi) (getE st.E) (getM st.M)) K := (rfl)
theorem V1 {x : SX} : Gk X (.lenS x) st K = YY (eff (.lenS x) (getE st.E) (getM st.M)) K := (rfl)
theorem V2 {x : SX} : Gk X (.lenL x) st K = YY (eff (.lenL x) (getE st.E) (getM st.M)) K := (rfl)
theorem QmZ {x y : SX} : Gk X (.mx x y) st K = YY (eff (.mx x y) (getE st.E) (getM st.M)) K := (rfl)
theorem Qm0 {x y : SX} : Gk X (.mn x y) st K = YY (eff (.mn x y) (getE st.E) (getM st.M)) K := (rfl)
theorem Qej {i : Nat} {x : SX} : Gk X (.ext i x) st K = YY (eff (.ext i x) (getE st.E) (getM st.M)) K := (rfl)
theorem Xr {zs : List AV} {ps : List (Nat × Nat × SX)} : Gk X (.build zs ps) st K = YY (eff (.build zs ps) (getE st.E) (getM st.M)) K := (rfl)
theorem Qek {e sz : Nat} {ps : List SX} : Gk X (.lit e sz ps) st K = YY (eff (.lit e sz ps) (getE st.E) (getM st.M)) K := (rfl)
theorem YU {o e sz : Nat} {ps : List SX} : Gk X (.litOwn o e sz ps) st K = YY (eff (.litOwn o e sz ps) (getE st.E) (getM st.M)) K := (rfl)
theorem V3 {o e sz : Nat} {x y : SX} : Gk X (.appN o e sz x y) st K = YY (eff (.appN o e sz x y) (getE st.E) (getM st.M)) K := (rfl)
theorem Qel {o e sz : Nat} {x y : SX} : Gk X (.app o e sz x y) st K = YY (eff (.app o e sz x y) (getE st.E) (getM st.M)) K := (rfl)
theorem Qm1 {o e sz : Nat} {zs : List AV} {n : SX} : Gk X (.mk o e sz zs n) st K = YY (eff (.mk o e sz zs n) (getE st.E) (getM st.M)) K := (rfl)
theorem Xs {x : SX} : Gk X (.mvfrz x) st K = YY (eff (.mvfrz x) (getE st.E) (getM st.M)) K := (rfl)
end
theorem Qm2 {E : Nat → AV} {k : Nat} : ev E (.v k) = E k := (rfl)
theorem Quq {E : Nat → AV} {k : Nat} : ev E (.g k) = QtY k := (rfl)
theorem Qm3 {E : Nat → AV} {x : AV} : ev E (.c x) = x := (rfl)
theorem Qem {k : IntKind} {n : Int} : Jd (.int k n) = [.int k n] := (rfl)
theorem V4 {b : Bool} : Jd (.bool b) = [.bool b] := (rfl)
theorem Qen {s : ByteArray} : Jd (.str s) = [.str s] := (rfl)
theorem Qeo {l : List AV} : Jd (.agg l) = l := (rfl)
theorem Qm4 {t sz : Nat} {xs : List (List AV)} : Jd (.sl t sz xs) = [.sl t sz xs] := (rfl)
theorem Qep {o v l h : Nat} : Jd (.own o v l h) = [.own o v l h] := (rfl)
theorem Qeq {o f : Nat} : Jd (.ptr o f) = [.ptr o f] := (rfl)
theorem Qm5 {t : Nat} {l : List AV} : Jd (.pp t l) = [.pp t l] := (rfl)
theorem Qer {k : IntKind} {n : Int} : Jz (.int k n) = true := (rfl)
theorem V5 {b : Bool} : Jz (.bool b) = true := (rfl)
theorem Qes {s : ByteArray} : Jz (.str s) = true := (rfl)
theorem Qm6 {t sz : Nat} {xs : List (List AV)} : Jz (.sl t sz xs) = true := (rfl)
theorem Qet {o v l h : Nat} : Jz (.own o v l h) = true := (rfl)
theorem Qeu {o f : Nat} : Jz (.ptr o f) = true := (rfl)
theorem Qm7 {t : Nat} {l : List AV} : Jz (.pp t l) = true := (rfl)
theorem Qm8 {p : AV → Bool} : [].all p = true := (rfl)
theorem Qm9 {p : AV → Bool} {x : AV} {l : List AV} : (x :: l).all p = (p x && l.all p) := (rfl)
theorem Qev {v : AV} : ok1 v = ⟨True, v, []⟩ := (rfl)
theorem V6 {outs : List Nat} {st : St} : trim outs st = ⟨outs.map fun k => (k, getE st.E k), st.M⟩ := (rfl)
theorem Qk {d : Nat} {v : AObj} : Kj [] d v = [(d, v)] := (rfl)
theorem Ql {k d : Nat} {x v : AObj} {r : List (Nat × AObj)} : Kj ((k, x) :: r) d v = if d = k then (k, v) :: r else (k, x) :: Kj r d v := (rfl)
theorem V7 {n : Nat} : Qh2 n [] = [] := (rfl)
theorem V8 {n : Nat} {x : AV} {l : List AV} : Qh2 n (x :: l) = (n, x) :: Qh2 (n + 1) l := (rfl)
abbrev jm (d x : Nat) (k : List Nat) : SOper := ⟨some d, .mv (.v x), none, k⟩
abbrev jn (d : Nat) (o : SOp) (k : List Nat) : SOper := ⟨some d, o, none, k⟩
abbrev jf (d i x : Nat) (k : List Nat) : SOper := ⟨some d, .faddr i (.v x), none, k⟩
abbrev jl (d x : Nat) (k : List Nat) : SOper := ⟨some d, .load1 (.v x), none, k⟩
abbrev jh (d t : Nat) (o : SOp) (k : List Nat) : SOper := ⟨some d, o, some (t, false), k⟩
abbrev jt (d t : Nat) (o : SOp) (k : List Nat) : SOper := ⟨some d, o, some (t, true), k⟩
abbrev jL (d n x : Nat) (k : List Nat) : SOper := ⟨some d, .loadN n (.v x), none, k⟩
abbrev jb (d : Nat) (o : BinOp) (x y : Nat) (k : List Nat) : SOper := ⟨some d, .bin o (.v x) (.v y), none, k⟩
abbrev jc (d : Nat) (o : BinOp) (x : Nat) (n : Int) (k : List Nat) : SOper := ⟨some d, .bin o (.v x) (.c (.int .i64 n)), none, k⟩
abbrev ja (d n x y : Nat) (k : List Nat) : SOper := ⟨some d, .iaddr n (.v x) (.v y), none, k⟩
abbrev jM (d t x : Nat) (k : List Nat) : SOper := ⟨some d, .mv (.v x), some (t, false), k⟩
abbrev jI (d : Nat) (n : Int) (k : List Nat) : SOper := ⟨some d, .mv (.c (.int .i64 n)), none, k⟩
abbrev jp (d x y : Nat) (k : List Nat) : SOper := ⟨some d, .pick (.v x) (.c (.bool true)) (.v y), none, k⟩
abbrev ci (n : Int) : SX := .c (.int .i64 n)
abbrev jq (l : List SOper) (o : List Nat) (c : SCode) : SCode := .seq (.rg l o) c
end Go.Ve

namespace Go.Ve
open Go.RowKit

/-! Rows that are told as a list of one kind. -/
section
variable {α : Type} [Inhabited α] {f : α → List AV} {l : List α} {K : AV → List (Nat × AObj) → Prop} {M : Nat → Option AObj}

theorem QaU {i : Nat} (h : i < l.length) : (l.map f).getD i [] = f (l.getD i default) := by
  simp [h]
omit [Inhabited α] in
theorem QcQ {i : Nat} (h : ¬ i < l.length) : (l.map f).getD i [] = [] := by
  simp [Nat.not_lt.1 h]
theorem Xt {t sz sz' : Nat} {n : Int} : YY (Qb3 M sz n (.sl t sz' (l.map f))) K = (sz = sz' ∧ 0 ≤ n ∧ n < l.length ∧ K (.pp t (f (l.getD n.toNat default))) []) := by
  simp only [YY, Qb3, List.length_map, and_assoc]
  refine propext ⟨?_, ?_⟩
  · rintro ⟨h1, h2, h3, h4⟩
    rw [QaU (by omega)] at h4
    exact ⟨h1, h2, h3, h4⟩
  · rintro ⟨h1, h2, h3, h4⟩
    rw [QaU (by omega)]
    exact ⟨h1, h2, h3, h4⟩
theorem Kg {i off : Nat} {new : List AV} (g : α → α) (h : ∀ x, Q7 (f x) off new = f (g x)) : (l.map f).set i (Q7 ((l.map f).getD i []) off new) = (l.set i (g (l.getD i default))).map f := by
  by_cases hi : i < l.length
  · rw [QaU hi, h, List.map_set]
  · rw [List.set_eq_of_length_le (by simp; omega), List.set_eq_of_length_le (by omega)]
end
theorem fm0 {β : Type} {p : β → Prop} : (∀ x, x ∈ ([] : List β) → p x) = True := by simp
theorem Qrs : (KV []).pre = False := (rfl)
/-! Places, by what they lead to. -/
def Qla (ob : Option AObj) (ver i off : Nat) (k : List AV → Eff) : Eff :=
  match ob with | some (.arr _ cv _ xs) => let r := k ((xs.getD i []).drop off); ⟨ver = cv ∧ r.pre, r.v, r.ups⟩ | _ => bad
def iaO (ob : Option AObj) (sz : Nat) (i : Int) (o ver lo hi : Nat) : Eff :=
  match ob with | some (.arr _ cv sz' _) => ⟨sz = sz' ∧ ver = cv ∧ 0 ≤ i ∧ i < ((hi - lo : Nat) : Int), .elt o ver (lo + i.toNat) 0, []⟩ | _ => bad
section
variable {M : Nat → Option AObj} {k : List AV → Eff} {K : AV → List (Nat × AObj) → Prop}
theorem V9 {o off : Nat} : GH M (.ptr o off) k = (match M o with | some (.box ls) => k (ls.drop off) | _ => bad) := (rfl)
theorem Qew {t : Nat} {ls : List AV} : GH M (.pp t ls) k = k ls := (rfl)
theorem Wa {o ver i off : Nat} : GH M (.elt o ver i off) k = Qla (M o) ver i off k := (rfl)
theorem Wb {sz o ver lo hi : Nat} {n : Int} : Qb3 M sz n (.own o ver lo hi) = iaO (M o) sz n o ver lo hi := (rfl)
theorem Wc {sz sz' o ver lo hi e cv : Nat} {n : Int} {xs : List (List AV)} : iaO (some (.arr e cv sz' xs)) sz n o ver lo hi = ⟨sz = sz' ∧ ver = cv ∧ 0 ≤ n ∧ n < ((hi - lo : Nat) : Int), .elt o ver (lo + n.toNat) 0, []⟩ := (rfl)
theorem Qna {α : Type} [Inhabited α] {f : α → List AV} {l : List α} {e cv sz ver i off : Nat} : YY (Qla (some (.arr e cv sz (l.map f))) ver i off KV) K = (ver = cv ∧ i < l.length ∧ YY (KV ((f (l.getD i default)).drop off)) K) := by
  simp only [YY, Qla, and_assoc]
  by_cases h : i < l.length
  · simp only [QaU h, h, true_and]
  · simp only [QcQ h, h, List.drop_nil, Qrs, false_and, and_false]
theorem Qnb {α : Type} [Inhabited α] {f : α → List AV} {l : List α} {e cv sz ver i off n : Nat} : YY (Qla (some (.arr e cv sz (l.map f))) ver i off fun ls => ⟨n + 1 ≤ ls.length, .agg (ls.take (n + 1)), []⟩) K = (ver = cv ∧ i < l.length ∧ YY ⟨n + 1 ≤ ((f (l.getD i default)).drop off).length, .agg (((f (l.getD i default)).drop off).take (n + 1)), []⟩ K) := by
  simp only [YY, Qla, and_assoc]
  by_cases h : i < l.length
  · simp only [QaU h, h, true_and]
  · simp only [QcQ h, h, List.drop_nil, List.length_nil, false_and, and_false, Nat.not_succ_le_zero, Nat.add_one_ne_zero, Nat.le_zero_eq]
end
theorem Qnc {x : AV} {l new : List AV} {n : Nat} : Q7 (x :: l) (n + 1) new = x :: Q7 l n new := by simp [Q7, Nat.add_right_comm]
theorem Qnd {x y : AV} {l new : List AV} : Q7 (x :: l) 0 (y :: new) = y :: Q7 l 0 new := by simp [Q7]
theorem Qne {l : List AV} : Q7 l 0 [] = l := by simp [Q7]

/-! What a function gives back. -/
theorem Qnf {k : Nat} {r : AV} {st : St} : Ql3 [.t k] r [] .ret st = (getE st.E k = r ∧ Qc [] r = true ∧ keepB st.M [] = true) := by
  simp [Ql3, QE, QnP, wkM, dom]
theorem Qex {k : Nat} {r : AV} {st : St} : Ql3 [.t k] r [] .normal st = (getE st.E k = r ∧ Qc [] r = true ∧ keepB st.M [] = true) := by
  simp [Ql3, QE, QnP, wkM, dom]
theorem Qey {M' : List (Nat × AObj)} : keepB [] M' = true := (rfl)
theorem Qez {k : Nat} {x : AObj} {M : List (Nat × AObj)} : keepB ((k, x) :: M) [] = (decide (100 ≤ k % 1000) && keepB M []) := by simp [keepB, dom]
theorem Wd {d : List Nat} {k : IntKind} {n : Int} : Qc d (.int k n) = true := (rfl)
theorem Xu {d : List Nat} {b : Bool} : Qc d (.bool b) = true := (rfl)
theorem We {d : List Nat} {s : ByteArray} : Qc d (.str s) = true := (rfl)
theorem QeA {d : List Nat} {t sz : Nat} {xs : List (List AV)} : Qc d (.sl t sz xs) = true := (rfl)
theorem Wf {d : List Nat} {l : List AV} : Qc d (.agg l) = Qb d l := (rfl)
theorem Wg {d : List Nat} {l : List AV} : Qc d (.tup l) = Qb d l := (rfl)
theorem Qng {d : List Nat} : Qb d [] = true := (rfl)
theorem Qnh {d : List Nat} {x : AV} {l : List AV} : Qb d (x :: l) = (Qc d x && Qb d l) := (rfl)
theorem Qni {k : Nat} {st : St} {v : AV} : QnP st (.t k) v = (getE st.E k = v) := (rfl)
theorem QeB {k n : Nat} {st : St} {v : AV} : QnP st (.cN k n) v = (match getE st.E k with
    | .ptr o off => match getM st.M o with | some (.box ls) => off + n ≤ ls.length ∧ v = .agg ((ls.drop off).take n) | _ => False
    | _ => False) := (rfl)
theorem QeC {st : St} {vs : List AV} : QcP st [] vs = (vs = []) := (rfl)
theorem QeD {st : St} {x : SRes} {xs : List SRes} {v : AV} {vs : List AV} : QcP st (x :: xs) (v :: vs) = (QnP st x v ∧ QcP st xs vs) := by
  simp only [QcP, List.cons.injEq]
  exact propext ⟨fun ⟨_, _, ⟨h1, h2⟩, h3, h4⟩ => by subst h1; subst h2; exact ⟨h3, h4⟩, fun ⟨h1, h2⟩ => ⟨v, vs, ⟨rfl, rfl⟩, h1, h2⟩⟩
theorem Xv {x y : SRes} {rs : List SRes} {vs : List AV} {st : St} : Ql3 (x :: y :: rs) (.tup vs) [] .ret st = (QcP st (x :: y :: rs) vs ∧ Qc [] (.tup vs) = true ∧ keepB st.M [] = true) := by
  simp [Ql3, QE, wkM, dom]
theorem Xw {x : SRes} {r : AV} {st : St} : Ql3 [x] r [] .ret st = (QnP st x r ∧ Qc [] r = true ∧ keepB st.M [] = true) := by
  simp [Ql3, QE, wkM, dom]
end Go.Ve

namespace Go.Ve
open Go.RowKit

/-! ## one outcome of many: what holds ahead of a code leads to one end -/
section
variable {P : Program} {X : Env P}

/-- The way that a loop takes. -/
inductive Way (body : (XT → St → Prop) → St → Prop) (e : XT) (sf : St) : Nat → St → Prop
  | stop {m : Nat} {st : St} : (∀ Q' : XT → St → Prop, Q' e sf → body Q' st) → e ≠ .normal → Way body e sf m st
  | step {m m' : Nat} {st s1 s2 : St} : (∀ Q' : XT → St → Prop, Q' .normal s1 → body Q' st) → Wk s1 s2 → m' < m → Way body e sf m' s2 → Way body e sf m st

/-- Behind a function of many outcomes. -/
def Qur {α : Type} (res : List SRes) (good : α → Prop) (R : α → AV) (U : α → List (Nat × AObj)) (e : XT) (st : St) : Prop := ∃ a, good a ∧ Ql3 res (R a) (U a) e st
theorem Qf {α : Type} {res : List SRes} {good : α → Prop} {R : α → AV} {U : α → List (Nat × AObj)} {st : St} : Qur res good R U .ret st = ∃ a, good a ∧ Ql3 res (R a) (U a) .ret st := (rfl)

end
end Go.Ve

namespace Go.Ve
/-! Loops told by what turns in the state ahead of them. -/
def Qrt (E : List (Nat × AV)) : List (Nat × AV) → List (Nat × AV)
  | [] => E
  | (k, v) :: r => QjB (Qrt E r) k v
def Qj3 (M : List (Nat × AObj)) : List (Nat × AObj) → List (Nat × AObj)
  | [] => M
  | (k, v) :: r => Kj (Qj3 M r) k v
theorem Ju {E : List (Nat × AV)} : Qrt E [] = E := (rfl)
theorem Jv {E r : List (Nat × AV)} {k : Nat} {v : AV} : Qrt E ((k, v) :: r) = QjB (Qrt E r) k v := (rfl)
theorem Jw {M : List (Nat × AObj)} : Qj3 M [] = M := (rfl)
theorem Jx {M r : List (Nat × AObj)} {k : Nat} {v : AObj} : Qj3 M ((k, v) :: r) = Kj (Qj3 M r) k v := (rfl)
theorem QH {α : Type} (U : α → List (Nat × AV)) (V : α → List (Nat × AObj)) (good : α → Prop) (μ : α → Nat) (a0 : α) {body : (XT → St → Prop) → St → Prop} {Q : XT → St → Prop} {E : List (Nat × AV)} {M : List (Nat × AObj)}
    (h0 : Wk ⟨E, M⟩ ⟨Qrt E (U a0), Qj3 M (V a0)⟩) (g0 : good a0)
    (step : ∀ a, good a → ∀ NX : St → Prop, (∀ a' st', Wk st' ⟨Qrt E (U a'), Qj3 M (V a')⟩ → good a' → μ a' < μ a → NX st') → body (Qh1 NX Q) ⟨Qrt E (U a), Qj3 M (V a)⟩) : QgO body Q ⟨E, M⟩ :=
  Qi3 (fun a => ⟨Qrt E (U a), Qj3 M (V a)⟩) good μ a0 h0 g0 fun a ga => step a ga _ fun a' st' h1 h2 h3 => ⟨μ a', _, h1, ⟨a', rfl, h2, rfl⟩, h3⟩
end Go.Ve

namespace Go.Ve
/-! strings in order -/
def slt (a b : ByteArray) : Prop := Op.bytesLess a.toList b.toList = true
noncomputable instance (a b : ByteArray) : Decidable (slt a b) := Classical.propDecidable _
theorem Qru {a b : ByteArray} : (a.toList == b.toList) = decide (a = b) := by
  by_cases h : a = b
  · subst h; simp
  · simp only [h, decide_false, beq_eq_false_iff_ne, ne_eq]
    intro e
    rw [ByteArray.toList_eq, ByteArray.toList_eq] at e
    have := Array.toList_inj.1 e
    cases a; cases b; simp_all
theorem Qte {a b : ByteArray} : Op.bytesLess a.toList b.toList = decide (slt a b) := by
  by_cases h : slt a b
  · have h2 : Op.bytesLess a.toList b.toList = true := h
    simp [h, h2]
  · have h2 : Op.bytesLess a.toList b.toList = false := by simpa [slt] using h
    simp [h, h2]
theorem Qj4 : ∀ a : List UInt8, Op.bytesLess a a = false
  | [] => rfl
  | x :: xs => by simp [Op.bytesLess, Qj4 xs]
theorem Ql5 : ∀ a b : List UInt8, Op.bytesLess a b = true → Op.bytesLess b a = false
  | [], [], h => by cases h
  | [], _ :: _, _ => rfl
  | _ :: _, [], h => by cases h
  | x :: xs, y :: ys, h => by
    simp only [Op.bytesLess, Bool.or_eq_true, Bool.and_eq_true, decide_eq_true_eq, beq_iff_eq] at h
    simp only [Op.bytesLess, Bool.or_eq_false_iff, Bool.and_eq_false_iff, decide_eq_false_iff_not, beq_eq_false_iff_ne]
    rcases h with h | ⟨rfl, h⟩
    · exact ⟨by intro k; exact absurd (UInt8.lt_trans h k) (UInt8.lt_irrefl _), .inl (by intro e; subst e; exact UInt8.lt_irrefl _ h)⟩
    · exact ⟨UInt8.lt_irrefl _, .inr (Ql5 xs ys h)⟩
theorem Ql6 : ∀ a b : List UInt8, Op.bytesLess a b = true ∨ a = b ∨ Op.bytesLess b a = true
  | [], [] => .inr (.inl rfl)
  | [], _ :: _ => .inl rfl
  | _ :: _, [] => .inr (.inr rfl)
  | x :: xs, y :: ys => by
    simp only [Op.bytesLess, Bool.or_eq_true, Bool.and_eq_true, decide_eq_true_eq, beq_iff_eq, List.cons.injEq]
    rcases (show x < y ∨ x = y ∨ y < x by rcases Nat.lt_trichotomy x.toNat y.toNat with h | h | h; exact .inl h; exact .inr (.inl (UInt8.toNat_inj.1 h)); exact .inr (.inr h)) with h | h | h
    · exact .inl (.inl h)
    · subst h
      rcases Ql6 xs ys with h | h | h
      · exact .inl (.inr ⟨rfl, h⟩)
      · exact .inr (.inl ⟨rfl, h⟩)
      · exact .inr (.inr (.inr ⟨rfl, h⟩))
    · exact .inr (.inr (.inl h))
theorem ZL (a : ByteArray) : ¬ slt a a := by unfold slt; rw [Qj4]; simp
theorem QgQ {a b : ByteArray} (h : slt a b) : ¬ slt b a := by unfold slt at *; rw [Ql5 _ _ h]; simp
theorem Qj5 (a b : ByteArray) : slt a b ∨ a = b ∨ slt b a := by
  unfold slt
  rcases Ql6 a.toList b.toList with h | h | h
  · exact .inl h
  · refine .inr (.inl ?_)
    have : (a.toList == b.toList) = true := by simp [h]
    rw [Qru] at this; simpa using this
  · exact .inr (.inr h)
theorem QgR {a b c : ByteArray} (h : slt a b) (k : slt b c) : slt a c := by
  have key : ∀ a b c : List UInt8, Op.bytesLess a b = true → Op.bytesLess b c = true → Op.bytesLess a c = true := by
    intro a
    induction a with
    | nil => intro b c h k; cases b <;> cases c <;> simp_all [Op.bytesLess]
    | cons x xs ih =>
      intro b c h k
      cases b with
      | nil => simp [Op.bytesLess] at h
      | cons y ys =>
        cases c with
        | nil => simp [Op.bytesLess] at k
        | cons z zs =>
          simp only [Op.bytesLess, Bool.or_eq_true, Bool.and_eq_true, decide_eq_true_eq, beq_iff_eq] at h k ⊢
          rcases h with h | ⟨rfl, h⟩ <;> rcases k with k | ⟨rfl, k⟩
          · exact .inl (UInt8.lt_trans h k)
          · exact .inl h
          · exact .inl k
          · exact .inr ⟨rfl, ih _ _ h k⟩
  exact key _ _ _ h k
theorem Qtf {a b : ByteArray} : (decide (slt a b) || decide (a = b)) = decide (¬ slt b a) := by
  rcases Qj5 a b with h | h | h
  · simp [h, QgQ h]
  · subst h; simp [ZL]
  · simp [h, QgQ h]; rintro rfl; exact ZL _ h
def QgS (c : UInt8) : Prop := (97 ≤ c.toNat ∧ c.toNat ≤ 122) ∨ (48 ≤ c.toNat ∧ c.toNat ≤ 57) ∨ c.toNat = 45
def XQ (s : ByteArray) : Prop := (1 ≤ s.toList.length ∧ s.toList.length ≤ 8) ∧ ∀ i, i < s.toList.length → QgS (s.toList.getD i 0)
noncomputable instance (s : ByteArray) : Decidable (XQ s) := Classical.propDecidable _
def JJ (s : ByteArray) : List AV := [.str s]
def unS : List AV → ByteArray
  | [.str s] => s
  | _ => default
theorem Qs0 (l : List ByteArray) : (l.map JJ).map unS = l := by
  rw [List.map_map]; exact List.map_id'' (fun s => rfl) l
theorem Kz (l : List ByteArray) : Jo (l.map JJ) := by
  induction l with
  | nil => simp [Jo]
  | cons x l ih => simp only [List.map_cons, Jo]; exact ⟨by simp [JJ, JT, No99], ih⟩
/-- The first QhU at which something holds, -1 if there is none. -/
def Qiw {α : Type} (p : α → Bool) (l : List α) : Int := match l.findIdx? p with | some i => (i : Int) | none => -1
theorem Qcr {α : Type} [Inhabited α] {p : α → Bool} {l : List α} {i : Nat} (hi : i < l.length) (h : p (l.getD i default) = true) (k : ∀ j, j < i → p (l.getD j default) = false) : Qiw p l = i := by
  have : l.findIdx? p = some i := by
    rw [List.findIdx?_eq_some_iff_getElem]
    refine ⟨hi, by simpa [hi] using h, fun j hj => ?_⟩
    have := k j hj
    have hl : j < l.length := by omega
    simpa [hl] using this
  simp [Qiw, this]
theorem Wh {α : Type} [Inhabited α] {p : α → Bool} {l : List α} (k : ∀ j, j < l.length → p (l.getD j default) = false) : Qiw p l = -1 := by
  have : l.findIdx? p = none := by
    rw [List.findIdx?_eq_none_iff]
    intro x hx
    obtain ⟨j, hj, rfl⟩ := List.mem_iff_getElem.1 hx
    have := k j hj
    simpa [hj] using this
  simp [Qiw, this]
theorem Qj6 {α : Type} [Inhabited α] (p : α → Bool) (l : List α) : (Qiw p l = -1 ∧ ∀ j, j < l.length → p (l.getD j default) = false) ∨ ∃ i : Nat, Qiw p l = i ∧ i < l.length ∧ p (l.getD i default) = true ∧ ∀ j, j < i → p (l.getD j default) = false := by
  cases h : l.findIdx? p with
  | none =>
    refine .inl ⟨by simp [Qiw, h], fun j hj => ?_⟩
    rw [List.findIdx?_eq_none_iff] at h
    have := h (l.getD j default) (by simp [hj])
    simpa using this
  | some i =>
    rw [List.findIdx?_eq_some_iff_getElem] at h
    obtain ⟨hi, hp, hm⟩ := h
    refine .inr ⟨i, by simp [Qiw, List.findIdx?_eq_some_iff_getElem.2 ⟨hi, hp, hm⟩], hi, by simpa [hi] using hp, fun j hj => ?_⟩
    have := hm j hj
    have hl : j < l.length := by omega
    simpa [hl] using this
theorem Qom {α : Type} [Inhabited α] (p : α → Bool) (l : List α) : 0 ≤ Qiw p l ↔ ∃ i, i < l.length ∧ p (l.getD i default) = true := by
  rcases Qj6 p l with ⟨h, k⟩ | ⟨i, h, hi, hp, k⟩
  · rw [h]; constructor
    · intro h; omega
    · rintro ⟨i, hi, hp⟩; rw [k i hi] at hp; cases hp
  · rw [h]; exact ⟨fun _ => ⟨i, hi, hp⟩, fun _ => by omega⟩
theorem Qsc {p q : Prop} [Decidable p] [Decidable q] : (decide p == decide q) = decide (p ↔ q) := by by_cases h : p <;> by_cases k : q <;> simp [h, k]
theorem Qp6 {b : Bool} {q : Prop} [Decidable q] : (b == decide q) = decide (b = true ↔ q) := by cases b <;> by_cases k : q <;> simp [k]
theorem Qtg {a b : Bool} {A B : St → Prop} {sa sb : St} : br (.bool (a == b)) A sa B sb = ((a = b → A sa) ∧ (¬ a = b → B sb)) := by cases a <;> cases b <;> simp [br]
theorem Qsd {a b : Bool} {A B U : St → Prop} {s : St} : brU (.bool (a == b)) A B U s = ((a = b → A s) ∧ (¬ a = b → B s)) := by cases a <;> cases b <;> simp [brU]
theorem Qth {a b : Int} : (a == b) = decide (a = b) := by by_cases h : a = b <;> simp [h]
theorem Qti {a b : Int} : (a != b) = decide (¬ a = b) := by by_cases h : a = b <;> simp [h]
theorem Qon {p : Prop} [Decidable p] : (false = decide p) = ¬ p := by by_cases h : p <;> simp [h]
theorem Qp7 {p : Prop} [Decidable p] : (true = decide p) = p := by by_cases h : p <;> simp [h]
theorem Qj7 {a b : List (Nat × AV)} (h : wkE a b) : ∀ {c : List (Nat × AV)}, wkE b c → wkE a c
  | [], _ => trivial
  | (k, v) :: r, h2 => by
    simp only [wkE] at h2 ⊢
    refine ⟨?_, Qj7 h h2.2⟩
    rcases h2.1 with e | e
    · exact .inl e
    · rcases Qk8 h k with e2 | e2
      · left; rw [← e, e2]
      · right; rw [e2, e]
theorem Qj8 {a b : List (Nat × AObj)} (h : wkM a b) : ∀ {c : List (Nat × AObj)}, wkM b c → wkM a c
  | [], _ => trivial
  | (k, v) :: r, h2 => by
    simp only [wkM] at h2 ⊢
    exact ⟨Qi1 h k v h2.1, Qj8 h h2.2⟩
theorem Wk.trans {a b c : St} (h : Wk a b) (k : Wk b c) : Wk a c := by
  refine ⟨Qj7 h.e k.e, Qj8 h.m k.m, k.cl, ?_⟩
  have h1 := h.kp
  have h2 := k.kp
  unfold keepB at *
  rw [List.all_eq_true] at *
  intro o ho
  have := h1 o ho
  simp only [Bool.or_eq_true, decide_eq_true_eq] at this ⊢
  rcases this with h3 | h3
  · exact .inl h3
  · have h3' : o ∈ dom b.M := by simpa using h3
    have := h2 o h3'
    simpa only [Bool.or_eq_true, decide_eq_true_eq] using this
theorem Qoo {body : (XT → St → Prop) → St → Prop} {Q : XT → St → Prop} {st st' : St} (h : Wk st st') (hl : QgO body Q st') : QgO body Q st := by
  obtain ⟨I, ⟨m0, st0, h1, h2⟩, h3⟩ := hl
  exact ⟨I, ⟨m0, st0, h.trans h1, h2⟩, h3⟩
theorem Qn {st : St} {xs : List SRes} {r : List AV} : (∃ vs, QcP st xs vs ∧ AV.tup r = AV.tup vs) = QcP st xs r :=
  propext ⟨fun ⟨vs, h1, h2⟩ => by cases h2; exact h1, fun h => ⟨r, h, rfl⟩⟩
theorem QJ : (decide False || true) = true := rfl
theorem Yc {P : Program} {f : FuncId} {args : List AV} {M : Nat → Option AObj} {K : AV → List (Nat × AObj) → Prop} {x : Option (List AV)} : Qk1 P (Env.nil P) f args M K x = QrU (P := P) f args M K := by
  unfold Qk1 Env.nil
  cases x <;> rfl
mutual
theorem Qfw (s : Nat → Nat) : ∀ x : AV, noref x = true → ren s x = x
  | .agg ls, h => by simp only [noref] at h; simp only [ren, ZT s ls h]
  | .tup ls, h => by simp only [noref] at h; simp only [ren, ZT s ls h]
  | .fn f a b, h => by simp only [noref, Bool.and_eq_true] at h; simp only [ren, ZT s a h.1, ZT s b h.2]
  | .int .., _ => rfl
  | .bool .., _ => rfl
  | .str .., _ => rfl
  | .sl .., _ => rfl
  | .pp .., _ => rfl
  | .own .., h => by simp [noref] at h
  | .ptr .., h => by simp [noref] at h
  | .elt .., h => by simp [noref] at h
  | .junk, h => by simp [noref] at h
theorem ZT (s : Nat → Nat) : ∀ x : List AV, Jy x = true → K4 s x = x
  | [], _ => rfl
  | x :: xs, h => by simp only [Jy, Bool.and_eq_true] at h; simp only [K4, Qfw s x h.1, ZT s xs h.2]
end
mutual
theorem ZU (d : List Nat) : ∀ x : AV, noref x = true → Qc d x = true
  | .agg ls, h => by simp only [noref] at h; simp only [Qc, Qa d ls h]
  | .tup ls, h => by simp only [noref] at h; simp only [Qc, Qa d ls h]
  | .fn f a b, h => by simp only [noref, Bool.and_eq_true] at h; simp only [Qc, Qa d a h.1, Qa d b h.2, Bool.and_self]
  | .int .., _ => rfl
  | .bool .., _ => rfl
  | .str .., _ => rfl
  | .sl .., _ => rfl
  | .pp .., _ => rfl
  | .own .., h => by simp [noref] at h
  | .ptr .., h => by simp [noref] at h
  | .elt .., h => by simp [noref] at h
  | .junk, h => by simp [noref] at h
theorem Qa (d : List Nat) : ∀ x : List AV, Jy x = true → Qb d x = true
  | [], _ => rfl
  | x :: xs, h => by simp only [Jy, Bool.and_eq_true] at h; simp only [Qb, ZU d x h.1, Qa d xs h.2, Bool.and_self]
end
/-- A call that is handed one box, and Jd it as it was. -/
theorem QcR {P : Program} {f : FuncId} {args0 args ls : List AV} {r : AV} {M : Nat → Option AObj} (o : Nat) (hC : Contract P f args0 [(3, .box ls)] r [(3, .box ls)]) (hl : Jy ls = true) (hr : noref r = true)
    (hM : M o = some (.box ls)) (he : K4 (swp 3 o) args0 = args) (ha : Qb [o] args = true) : Qcm P f args M r [(o, .box ls)] := by
  have h := hC.ren (swp 3 o) (Q0 3 o)
  have e3 : swp 3 o 3 = o := by simp [swp]
  simp only [J5, renO, e3, ZT _ _ hl, Qfw _ _ hr, he] at h
  refine .inl ⟨[(o, .box ls)], h, by simpa using hM, fun q hq => .inl ?_, ?_, ha, ?_, ZU _ _ hr, ?_⟩
  · simp only [List.mem_singleton] at hq; subst hq; simp [dom]
  · simp [dom]
  · simp [Qd, Qa _ _ hl]
  · simp [Qd, Qa _ _ hl]
/-- All ahead of a QhU, and one more. -/
theorem Jf {p : Nat → Prop} {i : Nat} (h : ∀ j, j < i → p j) (k : p i) : ∀ j, j < i + 1 → p j := fun j hj => by
  by_cases e : j = i
  · subst e; exact k
  · exact h j (by omega)
attribute [bitvec_to_nat] VE QmQ QdY QdZ VF G1 VG VH Qd0 QmR Qd1 Qd2 Qd3 Qd4 Qd5 Qd6 Qd7 Qd8 Qd9 Qea Qeb G2 G3 G4 VI VJ VK G5 G6 G7 G8 G9 Xa VL VM VN VO Qr8 Qr9 Qta Qt1 QtZ VP YL KX QdX GY GZ VB G0 VC VD GX YK Vy Vz QdU VA QdV QdW Xd Xe Qi Qj YP YQ Xh Xi Xf Xg Qk Ql Qm2 Qm3 VT VU Qec VQ VR VS V6 V7 V8 YM YN YO QmS QmT QmU QmV Xb Xc QmX QmW QmY YR VV Qed VX Qee Qef Qeg Qeh VY Xj Qei Xk Xl Xm Xn Xo YS YT Xp VZ Xq V0 V1 V2 QmZ Qm0 Qej Xr Qek YU Qel V3 GE Qm1 Xs Jx Jw Jv QjF List.length_take Int.toNat_zero List.drop_zero Ju Qtd Qp5 Qsb Quq Qt0 Qtc Qtb Qsa Qem V4 Qen Qeo Qm4 Qep Qeq Qm5 Qer V5 Qes Qm6 Qet Qeu Qm7 Qm8 Qm9 Qev eff KS Kl V9 Qew Wa Wb Wc Qna Qnb KV KW Xt Qnc Qnd Qne QaJ pur List.map List.drop List.take List.length List.foldl List.append_eq List.nil_append List.cons_append List.getD_cons_zero List.getD_cons_succ true_and and_true Bool.not_true Bool.not_false Bool.and_true Bool.true_and Bool.and_self true_implies false_implies implies_true decide_eq_true_eq Option.map_some QhT fpX SOp.xs oX refs Yx dom QfJ List.all_nil List.all_cons List.contains_cons List.contains_nil Bool.or_false Bool.false_or List.append_nil fm0 List.set ne_eq not_false_eq_true not_true_eq_false Qnf Qex Qey Qez Wd Xu We QeA Wf Wg Qng Qnh Qni QeB QeC QeD Xv Xw decide_true AV.bool.injEq AV.int.injEq decide_eq_false_iff_not Int.toNat_natCast List.length_map decide_false Qk6 noref flatOk Qd wkM Qru Qth Qti Qsc Qp6 Qtg Qsd Qte Qtf Qon Qp7 Classical.not_not
def nlb {a b : Nat} (h : Nat.ble a b = true) : a ≤ b := Nat.le_of_ble_eq_true h
def fmc := @List.forall_mem_cons
end Go.Ve

namespace Go.Ve
open Go.RowKit Go.ChangeShapes Go.WideShapes

/-! ## data that reads, told as abstract values -/
inductive LSh where
  | int (k : IntKind)
  | bool
  | str
  | sl (rs : List LSh)
  deriving Inhabited

mutual
def QjC : LSh → AV → Prop
  | .int k, x => ∃ n, x = .int k n ∧ (Lit.int k n).wf = true
  | .bool, x => ∃ b, x = .bool b
  | .str, x => ∃ s : ByteArray, x = .str s ∧ s.size ≤ maxLen
  | .sl rs, x => ∃ rows : List (List AV), x = .sl 1 rs.length rows ∧ rows.length ≤ maxLen ∧ ∀ r ∈ rows, KT rs r
def KT : List LSh → List AV → Prop
  | [], xs => xs = []
  | l :: ls, xs => ∃ x xs', xs = x :: xs' ∧ QjC l x ∧ KT ls xs'
end
def Qj9 (P : Program) (sh : TypeId → Option (List LSh)) : Nat → List Field → Option (List LSh)
  | _, [] => some []
  | off, f :: fs => if f.offset = off then (sh f.type).bind fun a => if a.length = P.cellsOf f.type then (Qj9 P sh (off + a.length) fs).map (a ++ ·) else none else none
def Qh3 (P : Program) : Nat → TypeId → Option (List LSh)
  | 0, _ => none
  | n + 1, t => match P.underlying t with
    | some .bool => some [.bool]
    | some (.int k) => some [.int k]
    | some .string => some [.str]
    | some (.slice e) => (Qh3 P n e).bind fun rs => if rs.length = P.cellsOf e ∧ 0 < rs.length then some [.sl rs] else none
    | some (.struct fs) => (Qj9 P (Qh3 P n) 0 fs.toList).bind fun ls => if ls.length = P.cellsOf t then some ls else none
    | _ => none

theorem Qka {a b : List LSh} : ∀ {x y : List AV}, KT a x → KT b y → KT (a ++ b) (x ++ y) := by
  induction a with
  | nil => intro x y h h'; simp only [KT] at h; subst h; exact h'
  | cons l a ih =>
    intro x y h h'
    simp only [KT] at h
    obtain ⟨z, zs, rfl, h1, h2⟩ := h
    simp only [List.cons_append, KT]
    exact ⟨z, zs ++ y, rfl, h1, ih h2 h'⟩
theorem Qop {l : LSh} {x : AV} (h : QjC l x) : Jz x = true ∧ noref x = true := by
  cases l <;> simp only [QjC] at h
  · obtain ⟨n, rfl, _⟩ := h; exact ⟨rfl, rfl⟩
  · obtain ⟨n, rfl⟩ := h; exact ⟨rfl, rfl⟩
  · obtain ⟨n, rfl, _⟩ := h; exact ⟨rfl, rfl⟩
  · obtain ⟨n, rfl, _⟩ := h; exact ⟨rfl, rfl⟩
theorem Qnj {a : List LSh} : ∀ {x : List AV}, KT a x → flatOk x = true := by
  induction a with
  | nil => intro x h; simp only [KT] at h; subst h; rfl
  | cons l a ih =>
    intro x h; simp only [KT] at h; obtain ⟨z, zs, rfl, h1, h2⟩ := h
    simp only [flatOk, Qop h1, ih h2, Bool.and_self]

/-- The context of what comes from without. -/
abbrev Qh4 (w : World) : Ctx := ⟨fun t _ => t ≠ 98, w, fun _ => none, getM []⟩

section
variable {H : Type} {enc : TypeId × Value → H} {P : Program} {w : World} {base : Nat} {sp : Nat → Bool} {held : Bool}

theorem Qlb {n : Nat} {q : Nat → List AV → List Value → Prop} (h : ∀ i, i < n → ∃ r c, q i r c) : ∃ rs : List (List AV), ∃ css : List (List Value), rs.length = n ∧ css.length = n ∧ ∀ i, i < n → q i (rs.getD i []) (css.getD i []) := by
  induction n with
  | zero => exact ⟨[], [], rfl, rfl, fun i hi => absurd hi (Nat.not_lt_zero _)⟩
  | succ n ih =>
    obtain ⟨rs, css, h1, h2, h3⟩ := ih fun i hi => h i (by omega)
    obtain ⟨r, c, h4⟩ := h n (by omega)
    refine ⟨rs ++ [r], css ++ [c], by simp [h1], by simp [h2], fun i hi => ?_⟩
    by_cases e : i = n
    · subst e
      have e1 : (rs ++ [r]).getD i [] = r := by rw [List.getD_eq_getElem?_getD, List.getElem?_append_right (by omega)]; simp [h1]
      have e2 : (css ++ [c]).getD i [] = c := by rw [List.getD_eq_getElem?_getD, List.getElem?_append_right (by omega)]; simp [h2]
      rw [e1, e2]; exact h4
    · have e1 : (rs ++ [r]).getD i [] = rs.getD i [] := by rw [List.getD_eq_getElem?_getD, List.getElem?_append_left (by omega), ← List.getD_eq_getElem?_getD]
      have e2 : (css ++ [c]).getD i [] = css.getD i [] := by rw [List.getD_eq_getElem?_getD, List.getElem?_append_left (by omega), ← List.getD_eq_getElem?_getD]
      rw [e1, e2]; exact h3 i (by omega)

theorem Qfx {C : Ctx} : ∀ {rs : List (List AV)} {css : List (List Value)}, rs.length = css.length → (∀ i, i < rs.length → RelL C (rs.getD i []) (css.getD i [])) → RelLL C rs css
  | [], [], _, _ => RelLL.nil
  | [], _ :: _, h, _ => by simp at h
  | _ :: _, [], h, _ => by simp at h
  | r :: rs, c :: css, h, k => RelLL.cons (by simpa using k 0 (by simp)) (Qfx (by simpa using h) fun i hi => by simpa using k (i + 1) (by simpa using hi))

theorem QgT {fuel : Nat} {sh : TypeId → Option (List LSh)} {cs : List Value}
    (ih : ∀ t ls cs x, sh t = some ls → DataW.trod enc P w base sp held fuel t cs = some x → ∃ avs, KT ls avs ∧ RelL (Qh4 w) avs cs) :
    ∀ (fs : List Field) (off : Nat) (ls : List LSh), Qj9 P sh off fs = some ls → (∀ f ∈ fs, ∃ x, DataW.trod enc P w base sp held fuel f.type ((cs.drop f.offset).take (P.cellsOf f.type)) = some x) →
      cs.length = off + ls.length → ∃ avs, KT ls avs ∧ RelL (Qh4 w) avs (cs.drop off)
  | [], off, ls, h, _, hl => by
    simp only [Qj9, Option.some.injEq] at h; subst h
    exact ⟨[], by simp [KT], by rw [List.drop_eq_nil_of_le (by simp at hl; omega)]; exact RelL.nil⟩
  | f :: fs, off, ls, h, hx, hl => by
    simp only [Qj9] at h
    split at h
    · rename_i ho
      simp only [Option.bind_eq_some_iff] at h
      obtain ⟨a, ha, h⟩ := h
      split at h
      · rename_i hal
        simp only [Option.map_eq_some_iff] at h
        obtain ⟨b, hb, rfl⟩ := h
        obtain ⟨x, hx0⟩ := hx f (by simp)
        obtain ⟨av1, h1, h2⟩ := ih f.type a _ x ha hx0
        obtain ⟨av2, h3, h4⟩ := QgT ih fs (off + a.length) b hb (fun g hg => hx g (by simp [hg])) (by simp at hl; omega)
        refine ⟨av1 ++ av2, Qka h1 h3, ?_⟩
        have : cs.drop off = (cs.drop f.offset).take (P.cellsOf f.type) ++ cs.drop (off + a.length) := by
          rw [ho, ← hal, ← List.drop_drop, List.take_append_drop]
        rw [this]; exact h2.append h4
      · cases h
    · cases h

theorem Qix (hsp : ∀ b, sp b = true) : ∀ (n : Nat) (t : TypeId) (ls : List LSh) (fuel : Nat) (cs : List Value) (x : DataW H × List MemPlace),
    Qh3 P n t = some ls → DataW.trod enc P w base sp held fuel t cs = some x → ∃ avs, KT ls avs ∧ RelL (Qh4 w) avs cs := by
  intro n
  induction n with
  | zero => intro t ls fuel cs x h; simp [Qh3] at h
  | succ n ih =>
    intro t ls fuel cs x h hx
    simp only [Qh3] at h
    split at h
    · rename_i ht
      cases h
      obtain ⟨b, rfl, _⟩ := DataW.trod_bool ht hx
      exact ⟨[.bool b], by simp [KT, QjC], RelL.cons (by simp [RelV]) RelL.nil⟩
    · rename_i k ht
      cases h
      obtain ⟨b, rfl, _, hw⟩ := DataW.trod_int ht hx
      exact ⟨[.int k b], by simp only [KT, QjC]; exact ⟨_, _, rfl, ⟨b, rfl, hw⟩, rfl⟩, RelL.cons (by simp [RelV]) RelL.nil⟩
    · rename_i ht
      cases h
      obtain ⟨b, rfl, _, hw⟩ := DataW.trod_string ht hx
      exact ⟨[.str b], by simp only [KT, QjC]; exact ⟨_, _, rfl, ⟨b, rfl, hw⟩, rfl⟩, RelL.cons (by simp [RelV]) RelL.nil⟩
    · rename_i e ht
      simp only [Option.bind_eq_some_iff] at h
      obtain ⟨rs, hrs, h⟩ := h
      split at h
      · rename_i hc
        cases h
        rcases Go.Deep.open_slice ht hx with ⟨rfl, _⟩ | ⟨a, len, cap, m, fu, D, Pl, rfl, _, hl, hm, hmm, _, hel⟩
        · exact ⟨[.sl 1 rs.length []], by simp only [KT, QjC]; exact ⟨_, _, rfl, ⟨[], rfl, by simp, by simp⟩, rfl⟩, RelL.cons (by simp [RelV]) RelL.nil⟩
        · rw [hsp] at hmm
          simp only [if_true] at hmm
          subst hmm
          by_cases hcap : m = 0
          · subst hcap
            have hlen0 : len = 0 := by omega
            subst hlen0
            refine ⟨[.sl 1 rs.length []], by simp only [KT, QjC]; exact ⟨_, _, rfl, ⟨[], rfl, by simp, by simp⟩, rfl⟩, RelL.cons ?_ RelL.nil⟩
            simp only [RelV]
            exact ⟨by simp, .inl ⟨True.intro, .inr ⟨by omega, a, rfl⟩⟩⟩
          have hsb : a.spot = none ∧ a.block < w.heap.size := by
            obtain ⟨cs', h1, _⟩ := hel 0 (by omega)
            obtain ⟨_, h3, h4⟩ := World.cells?_some h1
            have h5 := h4 0 (by omega)
            have e0 : (a.add (0 * P.cellsOf e)).add 0 = a := by simp [Addr.add]
            rw [e0] at h5
            have h6 : w.cell? a ≠ none := by
              rw [h5]; intro hn
              have := List.getElem?_eq_none_iff.1 hn
              omega
            unfold World.cell? at h6
            split at h6 <;> try exact absurd rfl h6
            rename_i hh
            obtain ⟨b, off, spot⟩ := a
            simp only at hh h6 ⊢
            exact ⟨by first | assumption | (cases spot <;> simp_all), (Array.getElem?_eq_some_iff.1 (by assumption)).1⟩
          obtain ⟨hspot, hblk⟩ := hsb
          obtain ⟨b, off, spot⟩ := a
          simp only at hspot hblk
          subst hspot
          have hlm : len ≤ m := hl
          have one : ∀ i, i < len → ∃ r c, w.cells? base ((⟨b, off, none⟩ : Addr).add (i * P.cellsOf e)) (P.cellsOf e) = some c ∧ KT rs r ∧ RelL (Qh4 w) r c := by
            intro i hi
            obtain ⟨cs', h1, h2⟩ := hel i (by omega)
            obtain ⟨r, h5, h6⟩ := ih e rs fu cs' _ hrs h2
            exact ⟨r, cs', h1, h5, h6⟩
          obtain ⟨rows, css, l1, l2, hall⟩ := Qlb one
          refine ⟨[.sl 1 rs.length rows], ?_, RelL.cons ?_ RelL.nil⟩
          · simp only [KT, QjC]
            refine ⟨_, _, rfl, ⟨rows, rfl, by omega, fun r hr => ?_⟩, rfl⟩
            obtain ⟨i, hi⟩ := List.mem_iff_getElem?.1 hr
            have hi' := (List.getElem?_eq_some_iff.1 hi).1
            have := (hall i (by omega)).2.1
            rwa [List.getD_eq_getElem?_getD, hi] at this
          · simp only [RelV]
            refine ⟨fun r hr => ?_, .inr ⟨b, off, m, css, by rw [l1], by omega, ⟨by show (1 : Nat) ≠ 98; omega, hblk, ?_⟩, Qfx (by omega) fun i hi => (hall i (by omega)).2.2, fun i r hi => ?_⟩⟩
            · obtain ⟨i, hi⟩ := List.mem_iff_getElem?.1 hr
              have hi' := (List.getElem?_eq_some_iff.1 hi).1
              have := (hall i (by omega)).2.1
              rw [List.getD_eq_getElem?_getD, hi] at this
              exact Qnj this
            · rintro ⟨o, v, h1, _⟩; cases h1
            · have hi' := (List.getElem?_eq_some_iff.1 hi).1
              have h1 := (hall i (by omega)).1
              rw [List.getD_eq_getElem?_getD, hi] at h1
              simp only [Option.getD_some] at h1
              obtain ⟨_, h3, h4⟩ := World.cells?_some h1
              refine ⟨by rw [h3, hc.1], fun j c hj => ?_⟩
              have := h4 j (by have := (List.getElem?_eq_some_iff.1 hj).1; omega)
              rw [hj] at this
              rw [hc.1, ← this]
              congr 1
              unfold Addr.add
              by_cases e1 : i * P.cellsOf e = 0 <;> by_cases e2 : j = 0 <;> simp [e1, e2, Nat.add_assoc]
      · cases h
    · rename_i fs ht
      simp only [Option.bind_eq_some_iff] at h
      obtain ⟨ls', hls, h⟩ := h
      split at h
      · rename_i hc
        cases h
        obtain ⟨xs, fu, rfl, _, hl, hlen, hf⟩ := DataW.trod_struct ht hx
        have := QgT (enc := enc) (base := base) (sp := sp) (held := held) (fuel := fu) (w := w) (cs := cs) (fun t ls cs x h1 h2 => ih t ls fu cs x h1 h2) fs.toList 0 ls hls (fun f hfm => ?_) (by omega)
        · simpa using this
        · obtain ⟨i, hi⟩ := List.mem_iff_getElem?.1 hfm
          have hi' : fs[i]? = some f := by simpa using hi
          have := hf i f hi'
          rw [this]
          have hlt : i < xs.length := by rw [hlen]; exact (Array.getElem?_eq_some_iff.1 hi').1
          exact ⟨xs[i], List.getElem?_eq_getElem hlt⟩
      · cases h
    · cases h
end
end Go.Ve

namespace Go.Ve
open Go.RowKit Go.ChangeShapes Go.WideShapes

/-! ## a law's arguments -/
inductive PSh where
  | one (l : LSh)
  | st (ls : List LSh)
  deriving Inhabited
def Qp8 : PSh → AV → Prop
  | .one l, x => QjC l x
  | .st ls, x => ∃ xs, x = .agg xs ∧ KT ls xs
def QgU : List PSh → List AV → Prop
  | [], xs => xs = []
  | p :: ps, xs => ∃ x xs', xs = x :: xs' ∧ Qp8 p x ∧ QgU ps xs'
def Qoq (P : Program) (n : Nat) (t : TypeId) : Option PSh :=
  match P.underlying t with
  | some (.struct _) => (Qh3 P n t).map .st
  | some .bool | some (.int _) | some .string | some (.slice _) => match Qh3 P n t with
    | some [l] => some (.one l)
    | _ => none
  | _ => none
def QaV (P : Program) (n : Nat) : List TypeId → Option (List PSh)
  | [] => some []
  | t :: ts => match Qoq P n t, QaV P n ts with
    | some p, some ps => if P.readableRec t = true ∧ t < P.types.size then some (p :: ps) else none
    | _, _ => none

section
variable {H : Type} {enc : TypeId × Value → H} {P : Program} {w : World}

theorem Qp9 {n : Nat} {r : Reach} {b0 : Nat} {sp : Nat → Bool} (hsp : ∀ b, sp b = true) {t : TypeId} {s : PSh} {v : Value} {d : DataW H} {p : List MemPlace} (hs : Qoq P n t = some s) (hv : Value.okWide P w r b0 t v)
    (h : DataW.Trod enc P w 0 sp true t v d p) : ∃ x, Qp8 s x ∧ RelV (Qh4 w) x v := by
  obtain ⟨fuel, h⟩ := h
  have one : ∀ {l : LSh}, Qh3 P n t = some [l] → Cell.okWide P w r b0 t v → (∀ cs, v ≠ .agg cs) → ∃ x, Qp8 (.one l) x ∧ RelV (Qh4 w) x v := by
    intro l hl hc hna
    have hcs : v.cells.toList = [v] := by cases v <;> first | rfl | exact absurd rfl (hna _)
    rw [hcs] at h
    obtain ⟨avs, h1, h2⟩ := Qix hsp n t [l] fuel [v] _ hl h
    simp only [KT] at h1
    obtain ⟨x, xs, rfl, h3, rfl⟩ := h1
    simp only [RelL] at h2
    obtain ⟨c, cs, h4, h5, _⟩ := h2
    cases h4
    exact ⟨x, h3, h5⟩
  unfold Qoq at hs
  unfold Value.okWide at hv
  split at hs
  · rename_i fs ht
    rw [ht] at hv
    simp only at hv
    obtain ⟨cs, rfl, hsz, ts, _, _, hcells⟩ := hv
    simp only [Option.map_eq_some_iff] at hs
    obtain ⟨ls, hls, rfl⟩ := hs
    obtain ⟨avs, h1, h2⟩ := Qix hsp n t ls fuel _ _ hls h
    exact ⟨.agg avs, ⟨avs, rfl, h1⟩, by simp only [RelV]; exact ⟨cs.toList, by simp, h2⟩⟩
  all_goals first | (cases hs; done) | skip
  all_goals
    rename_i ht
    rw [ht] at hv
    simp only at hv
    split at hs
    · rename_i l hl
      cases hs
      exact one hl hv (fun cs e => by subst e; simp [Cell.okWide, Cell.ok, ht] at hv)
    · cases hs

theorem Qkb {n : Nat} {r : Reach} {b0 : Nat} {sp : Nat → Bool} (hsp : ∀ b, sp b = true) : ∀ {ts : List TypeId} {ss : List PSh} {vs : List Value} {ds : List (DataW H)} {p : List MemPlace}, QaV P n ts = some ss →
    (∀ (j : Nat) t v, ts[j]? = some t → vs[j]? = some v → Value.okWide P w r b0 t v) → DataW.TrodAll enc P w 0 sp true ts vs ds p → ∃ xs, QgU ss xs ∧ RelL (Qh4 w) xs vs ∧ ds.length = ts.length
  | [], ss, vs, ds, p, hs, hv, h => by
    simp only [QaV, Option.some.injEq] at hs; subst hs
    cases vs <;> cases ds <;> simp only [DataW.TrodAll] at h
    exact ⟨[], by simp [QgU], RelL.nil, rfl⟩
  | t :: ts, ss, vs, ds, p, hs, hv, h => by
    simp only [QaV] at hs
    split at hs
    · rename_i s ss' h1 h2
      split at hs
      · cases hs
        cases vs with
        | nil => cases ds <;> simp only [DataW.TrodAll] at h
        | cons v vs =>
          cases ds with
          | nil => simp only [DataW.TrodAll] at h
          | cons d ds =>
            simp only [DataW.TrodAll] at h
            obtain ⟨p1, q1, h3, h4, _⟩ := h
            obtain ⟨x, h5, h6⟩ := Qp9 hsp h1 (hv 0 t v rfl rfl) h3
            obtain ⟨xs, h7, h8, h9⟩ := Qkb hsp h2 (fun j t v e1 e2 => hv (j + 1) t v (by simpa using e1) (by simpa using e2)) h4
            exact ⟨x :: xs, by simp only [QgU]; exact ⟨x, xs, rfl, h5, h7⟩, RelL.cons h6 h8, by simp [h9]⟩
      · cases hs
    · cases hs

theorem Qkc {n : Nat} (hl : laidOutB P = true) {W' : World} (hb : Below w.heap.size w W') : ∀ {ts : List TypeId} {ss : List PSh} {vs : List Value} {ds : List (DataW H)} {p : List MemPlace}, QaV P n ts = some ss →
    DataW.TrodAll enc P w 0 (fun _ => true) true ts vs ds p → DataW.TrodAll enc P W' 0 (fun b => decide (b < w.heap.size)) true ts vs ds p
  | [], ss, vs, ds, p, hs, h => by
    cases vs <;> cases ds <;> simp only [DataW.TrodAll] at h ⊢
    exact h
  | t :: ts, ss, vs, ds, p, hs, h => by
    simp only [QaV] at hs
    split at hs
    · rename_i s ss' h1 h2
      split at hs
      · rename_i hr
        cases vs with
        | nil => cases ds <;> simp only [DataW.TrodAll] at h
        | cons v vs =>
          cases ds with
          | nil => simp only [DataW.TrodAll] at h
          | cons d ds =>
            simp only [DataW.TrodAll] at h ⊢
            obtain ⟨p1, q1, h3, h4, h5⟩ := h
            have lt : ∀ x ∈ p1, x.block < w.heap.size := by obtain ⟨m, hm⟩ := h3; exact DataW.trod_lt m _ _ _ hm
            exact ⟨p1, q1, Below.trod hl hr.1 hr.2 h3 hb lt, Qkc hl hb h2 h4, h5⟩
      · cases hs
    · cases hs

theorem Qfy : ∀ {ns : List String} {gs : List (DataW H)} {ps : List MemPlace}, DataW.TrodVars enc P w (fun _ => true) ns gs ps → gs.length = ns.length
  | [], [], _, _ => rfl
  | [], _ :: _, _, h => h.elim
  | _ :: _, [], _, h => h.elim
  | n :: ns, d :: ds, ps, h => by
    obtain ⟨g, t, cs, fuel, p, q, h1, h2, h3, h4, hs, e⟩ := h
    simp [Qfy hs]

/-- A LAW, out of its contract: the call returns true, and its arguments and the package variables read as they did. -/
theorem Qor {fn : Func} {s : ChangeSpec} {f : FuncId} {n : Nat} {ss : List PSh} (hl : laidOutB P = true) (hs : QaV P n fn.params.toList = some ss) (hvars : varsRowed P s.vars = true)
    (hres : ∀ ds gs : List (DataW H), ds.length = fn.params.size → gs.length = s.vars.length → s.fn H (ds ++ gs) = { results := [.lit (.bool true)], args := ds, vars := gs }) {tb : TypeId} (hr : fn.resultTypes = #[tb]) (hb : P.underlying tb = some .bool)
    (hC : ∀ xs, QgU ss xs → Contract P f xs [] (.bool true) [])
    (W : World) (base : Nat) (args : Array Value) (ds gs : List (DataW H)) (before : List MemPlace) (hglob : globOk (Qh4 W))
    (hval : ∀ (j : Nat) t v, fn.params[j]? = some t → args[j]? = some v → Value.okWide P W .any base t v)
    (hW : DataW.Whole enc P fn.params.toList s.vars false W args.toList ds gs before) (handsOn fresh : Bool) :
    Calls P f args W fun e W' => ∃ v, e = .returned v ∧ s.post enc P fn false fresh handsOn false W args v W' := by
  have hW0 := hW
  obtain ⟨p, q, hA, hV, rfl, hfz, hnd⟩ := hW
  obtain ⟨xs, h1, h2, h3⟩ := Qkb (fun _ => rfl) hs (fun j t v e1 e2 => hval j t v (by simpa using e1) (by simpa using e2)) hA
  have hc := hC xs h1 (Qh4 W).io W (Qh4 W).loc args.toList ⟨fun b _ => by show (0 : Nat) ≠ 98; omega, fun b h => h rfl⟩
    ⟨(fun o obj h => by simp [getM] at h), (fun o hv h => by cases h), (fun o o' hv hv' b h => by cases h), hglob⟩ h2
  rw [Array.toArray_toList] at hc
  refine hc.mono ?_
  rintro e W' ⟨v, loc', rfl, _, _, hv, hev, _⟩
  simp only [RelV] at hv
  subst hv
  have bel : Below W.heap.size W W' := ⟨hev.os, hev.tape, hev.output, hev.size, fun k hk => hev.block k hk (by rintro ⟨o, v, h, _⟩; cases h)⟩
  have hsz : ds.length = fn.params.size := by rw [h3]; simp
  have hf := hres ds gs hsz (Qfy hV)
  refine ⟨_, rfl, ds, gs, _, [], p, q, hW0, ?_, ?_, ?_, bel.frame _, fun h => by cases h⟩
  · rw [hf, hr]
    exact trodAll_mk1 (shut_bool hb _)
  · rw [hf]
    exact Qkc hl bel hs hA
  · rw [hf]
    exact Below.trodVars hl bel hvars hV
end
end Go.Ve

namespace Go.Ve
open Go.RowKit

/-! Rows that hold own slices: families of objects. -/
def fam (k i : Nat) : Nat := k + 1000 * (i + 1)
theorem Q6 {k i o : Nat} (h : o < 1000) : (fam k i = o) = False := by unfold fam; simp; omega
theorem QO {k i o : Nat} (h : o < 1000) : (o = fam k i) = False := by unfold fam; simp; omega
theorem ZV {k i : Nat} (h : k < 1000) : fam k i % 1000 = k := by unfold fam; omega
/-- A row of a name and an own slice. -/
structure NRow where
  nm : ByteArray
  n : Nat
  o : Nat
  ob : AObj
  deriving Inhabited
def NRow.row (r : NRow) : List AV := [.str r.nm, .own r.o 0 0 r.n]
theorem QL {A B : List (Nat × AObj)} {o : Nat} (h : getM A o = none) : getM (A ++ B) o = getM B o := by
  rw [JW, h]; rfl
theorem JA {A B : List (Nat × AObj)} {o : Nat} {x : AObj} (h : getM A o = some x) : getM (A ++ B) o = some x := by
  rw [JW, h]; rfl
theorem Gc {A B : List (Nat × AObj)} {o : Nat} {x : AObj} (h : getM A o = none) : Kj (A ++ B) o x = A ++ Kj B o x := by
  induction A with
  | nil => rfl
  | cons p A ih =>
    obtain ⟨k, y⟩ := p
    simp only [getM] at h
    split at h
    · cases h
    · rename_i hne
      simp only [List.cons_append, Kj, if_neg hne, ih h]
theorem ZD {A : List (Nat × AObj)} {o : Nat} {x : AObj} (h : getM A o = none) : Kj A o x = A ++ [(o, x)] := by
  have := Gc (B := []) (x := x) h
  rw [List.append_nil] at this; exact this
theorem Qi4 {M A B : List (Nat × AObj)} : wkM M (A ++ B) ↔ wkM M A ∧ wkM M B := by
  induction A with
  | nil => simp [wkM]
  | cons p A ih => obtain ⟨k, v⟩ := p; simp only [List.cons_append, wkM, ih, and_assoc]
theorem Jl {A B : List (Nat × AObj)} (h : ∀ p ∈ B, getM A p.1 = some p.2) : wkM A B := by
  induction B with
  | nil => exact trivial
  | cons p B ih => obtain ⟨k, v⟩ := p; exact ⟨h (k, v) (by simp), ih fun p hp => h p (by simp [hp])⟩

theorem Qlc {A B : List (Nat × AObj)} : dom (A ++ B) = dom A ++ dom B := by simp [dom]
theorem JD {a b k i : Nat} (ha : a < 1000) (hb : b < 1000) : swp a b (fam k i) = fam k i := by
  unfold swp
  rw [if_neg (by simp [Q6 ha]), if_neg (by simp [Q6 hb])]
def NRow.ren (s : Nat → Nat) (r : NRow) : NRow := ⟨r.nm, r.n, s r.o, renO s r.ob⟩
theorem XO {s : Nat → Nat} {A B : List (Nat × AObj)} : J5 s (A ++ B) = J5 s A ++ J5 s B := by
  induction A with
  | nil => rfl
  | cons p A ih => obtain ⟨k, x⟩ := p; simp only [List.cons_append, J5, ih]
/-! A memory whose tail is of families. -/
def QpN (T : List (Nat × AObj)) : Prop := ∀ p ∈ T, 1000 ≤ p.1
theorem gB0 {T : List (Nat × AObj)} {o : Nat} (h : QpN T) (ho : o < 1000) : getM T o = none := by
  cases hg : getM T o with
  | none => rfl
  | some x => have := h _ (KU hg); simp only at this; omega
theorem gB {T B : List (Nat × AObj)} {o : Nat} (h : QpN T) (ho : o < 1000) : getM (T ++ B) o = getM B o := QL (gB0 h ho)
theorem sB {T B : List (Nat × AObj)} {o : Nat} {x : AObj} (h : QpN T) (ho : o < 1000) : Kj (T ++ B) o x = T ++ Kj B o x := Gc (gB0 h ho)
theorem sB0 {T : List (Nat × AObj)} {o : Nat} {x : AObj} (h : QpN T) (ho : o < 1000) : Kj T o x = T ++ [(o, x)] := ZD (gB0 h ho)
/-- New objects of distinct numbers. -/
theorem aU {M U : List (Nat × AObj)} (h1 : ∀ p ∈ U, getM M p.1 = none) (h2 : U.Pairwise fun a b => a.1 ≠ b.1) : Q1 M U = M ++ U.reverse := by
  induction U with
  | nil => simp [Q1]
  | cons p U ih =>
    rw [List.pairwise_cons] at h2
    have := ih (fun q hq => h1 q (by simp [hq])) h2.2
    show Kj (Q1 M U) p.1 p.2 = _
    rw [this, ZD, List.reverse_cons, List.append_assoc]
    rw [QL (h1 p (by simp))]
    cases hg : getM U.reverse p.1 with
    | none => rfl
    | some x =>
      have := KU hg
      rw [List.mem_reverse] at this
      exact absurd rfl (h2.1 (p.1, x) this)
theorem ZE {U : List (Nat × AObj)} (h2 : U.Pairwise fun a b => a.1 ≠ b.1) (o : Nat) : getM U.reverse o = getM U o := by
  induction U with
  | nil => rfl
  | cons p U ih =>
    rw [List.pairwise_cons] at h2
    rw [List.reverse_cons, JW, ih h2.2]
    obtain ⟨k, x⟩ := p
    simp only [getM]
    by_cases e : o = k
    · subst e
      rw [if_pos rfl, if_pos rfl]
      cases hg : getM U o with
      | none => rfl
      | some y => exact absurd rfl (h2.1 (o, y) (KU hg))
    · rw [if_neg e, if_neg e]; cases getM U o <;> rfl
/-- All its numbers are of the function's own. -/
def Y7 (T : List (Nat × AObj)) : Prop := ∀ p ∈ T, 100 ≤ p.1 % 1000
theorem Yh : Y7 [] := fun p hp => by cases hp
theorem Q3 {o : Nat} {x : AObj} {T : List (Nat × AObj)} (h : 100 ≤ o % 1000) (ht : Y7 T) : Y7 ((o, x) :: T) := fun p hp => by
  rcases List.mem_cons.1 hp with rfl | hp
  · exact h
  · exact ht p hp
theorem Kq {A B : List (Nat × AObj)} (ha : Y7 A) (hb : Y7 B) : Y7 (A ++ B) := fun p hp => (List.mem_append.1 hp).elim (ha p) (hb p)
theorem J3 {M M' : List (Nat × AObj)} (h : Y7 M) : keepB M M' = true := by
  unfold keepB
  rw [List.all_eq_true]
  intro o ho
  obtain ⟨p, hp, rfl⟩ := List.mem_map.1 ho
  simp [h p hp]

/-! ## contracts that forget -/
/-- What a call Jd of the objects is forgotten. -/
theorem Contract.gone {P : Program} {f : FuncId} {args : List AV} {pre post : List (Nat × AObj)} {r : AV} (hC : Contract P f args pre r post) (hr : noref r = true) :
    Contract P f args pre r (post.map fun p => (p.1, .gone)) := by
  intro io w loc vs hio hwf hargs
  refine (hC io w loc vs hio hwf hargs).mono ?_
  rintro e w' ⟨v, loc', rfl, hwf', hX, hv, hev, hnew⟩
  have hg : ∀ o, getM (post.map fun p => (p.1, AObj.gone)) o = (getM post o).map fun _ => .gone := fun o => by
    induction post with
    | nil => rfl
    | cons p l ih =>
      obtain ⟨k, x⟩ := p
      simp only [List.map_cons, getM]
      split
      · rfl
      · clear hC hwf' hX hv; exact ih_aux l o
  have hno : ∀ b, ¬ Ctx.ownB ⟨io, w', fun o => (loc' o).map fun _ => Value.tuple #[], getM (post.map fun p => (p.1, AObj.gone))⟩ b := by
    rintro b ⟨o, x, h1, h2⟩
    have h1 : (loc' o).map (fun _ => Value.tuple #[]) = some x := h1
    cases hl : loc' o with
    | none => rw [hl] at h1; cases h1
    | some y => rw [hl] at h1; cases h1; cases h2
  have hok : ∀ t b, Ctx.ok ⟨io, w', loc', getM post⟩ t b → Ctx.ok ⟨io, w', fun o => (loc' o).map fun _ => Value.tuple #[], getM (post.map fun p => (p.1, AObj.gone))⟩ t b := fun t b h => ⟨h.1, h.2.1, hno b⟩
  refine ⟨v, fun o => (loc' o).map fun _ => Value.tuple #[], rfl, ⟨fun o obj h => ?_, fun o x h => ?_, fun o o' x y b h1 h2 h3 h4 => ?_, globOk.okx ⟨fun t b h => ⟨hok t b h, rfl⟩⟩ hwf'.glob⟩, ⟨fun t b h => ?_, fun o obj hv0 h1 h2 => ?_⟩, RelV.norefs ⟨fun t b h => ⟨hok t b h, rfl⟩⟩ _ _ hr hv, hev, fun o x b h1 h2 => ?_⟩
  · have h : getM (post.map fun p => (p.1, AObj.gone)) o = some obj := h
    rw [hg] at h
    cases hm : getM post o with
    | none => rw [hm] at h; cases h
    | some y =>
      rw [hm] at h; cases h
      obtain ⟨x, h1, _⟩ := hwf'.obj o y hm
      have h1 : loc' o = some x := h1
      exact ⟨.tuple #[], by show (loc' o).map _ = _; rw [h1]; rfl, rfl⟩
  · have h : (loc' o).map (fun _ => Value.tuple #[]) = some x := h
    cases hl : loc' o with
    | none => rw [hl] at h; cases h
    | some y =>
      obtain ⟨obj, ho⟩ := hwf'.dom o y hl
      have ho : getM post o = some obj := ho
      exact ⟨.gone, by show getM (post.map fun p => (p.1, AObj.gone)) o = _; rw [hg, ho]; rfl⟩
  · exact absurd ⟨o, x, h1, h3⟩ (hno b)
  · obtain ⟨h1, h2⟩ := hX.ok t b h
    exact ⟨hok t b h1, h2⟩
  · obtain ⟨obj', x, h3, h4, _⟩ := hX.refs o obj hv0 h1 h2
    have h3 : getM post o = some obj' := h3
    have h4 : loc' o = some x := h4
    exact ⟨.gone, .tuple #[], by show getM (post.map fun p => (p.1, AObj.gone)) o = _; rw [hg, h3]; rfl, by show (loc' o).map _ = _; rw [h4]; rfl, by cases obj <;> trivial⟩
  · exact absurd ⟨o, x, h1, h2⟩ (hno b)
where ih_aux : ∀ (l : List (Nat × AObj)) (o : Nat), getM (l.map fun p => (p.1, AObj.gone)) o = (getM l o).map fun _ => .gone
  | [], _ => rfl
  | (k, x) :: l, o => by
    simp only [List.map_cons, getM]
    split
    · rfl
    · exact ih_aux l o

mutual
/-- Every slice from without told as one of kind 0. -/
def tag0 : AV → AV
  | .sl _ sz xs => .sl 0 sz (Gx xs)
  | .pp _ ls => .pp 0 (KH ls)
  | .agg ls => .agg (KH ls)
  | .tup ls => .tup (KH ls)
  | .fn f a b => .fn f (KH a) (KH b)
  | x => x
def KH : List AV → List AV
  | [] => []
  | x :: xs => tag0 x :: KH xs
def Gx : List (List AV) → List (List AV)
  | [] => []
  | x :: xs => KH x :: Gx xs
end
mutual
def Qi5 : AV → Bool
  | .sl t _ xs => t != 98 && Zc xs
  | .pp t ls => t != 98 && K6 ls
  | .agg ls => K6 ls
  | .tup ls => K6 ls
  | .fn _ a b => K6 a && K6 b
  | _ => true
def K6 : List AV → Bool
  | [] => true
  | x :: xs => Qi5 x && K6 xs
def Zc : List (List AV) → Bool
  | [] => true
  | x :: xs => K6 x && Zc xs
end
mutual
theorem Qos : ∀ x : AV, noref x = true → noref (tag0 x) = true
  | .agg ls, h => by simp only [noref] at h; simp only [tag0, noref]; exact QcS ls h
  | .tup ls, h => by simp only [noref] at h; simp only [tag0, noref]; exact QcS ls h
  | .fn f a b, h => by simp only [noref, Bool.and_eq_true] at h; simp only [tag0, noref, Bool.and_eq_true]; exact ⟨QcS a h.1, QcS b h.2⟩
  | .int .., _ => rfl
  | .bool .., _ => rfl
  | .str .., _ => rfl
  | .sl .., _ => by simp only [tag0, noref]
  | .pp .., _ => by simp only [tag0, noref]
  | .own .., h => by simp [noref] at h
  | .ptr .., h => by simp [noref] at h
  | .elt .., h => by simp [noref] at h
  | .junk, h => by simp [noref] at h
theorem QcS : ∀ x : List AV, Jy x = true → Jy (KH x) = true
  | [], _ => rfl
  | x :: xs, h => by simp only [Jy, Bool.and_eq_true] at h; simp only [KH, Jy, Qos x h.1, QcS xs h.2, Bool.and_self]
end
theorem Qot {x : AV} (h : Jz x = true) : Jz (tag0 x) = true := by
  cases x <;> first | (simp [Jz] at h; done) | (simp only [tag0]; rfl)
theorem QeE : ∀ {l : List AV}, flatOk l = true → flatOk (KH l) = true
  | [], _ => rfl
  | x :: xs, h => by
    simp only [flatOk, Bool.and_eq_true] at h
    simp only [KH, flatOk, Qot h.1.1, Qos x h.1.2, QeE h.2, Bool.and_self]
theorem Wi : ∀ xs : List (List AV), Gx xs = xs.map KH
  | [] => rfl
  | x :: xs => by simp only [Gx, List.map_cons, Wi xs]
/-- A context that takes all blocks from without as of kind 0 too. -/
def io0 (io : Nat → Nat → Prop) (t b : Nat) : Prop := io t b ∨ (t = 0 ∧ ∃ s, s ≠ 98 ∧ io s b)
section
variable {io : Nat → Nat → Prop} {w : World} {loc : Nat → Option Value} {M : Nat → Option AObj}
theorem Qrv {t b : Nat} (h : Ctx.ok ⟨io, w, loc, M⟩ t b) : Ctx.ok ⟨io0 io, w, loc, M⟩ t b := ⟨.inl h.1, h.2⟩
theorem Qum {t b : Nat} (ht : t ≠ 98) (h : Ctx.ok ⟨io, w, loc, M⟩ t b) : Ctx.ok ⟨io0 io, w, loc, M⟩ 0 b := ⟨.inr ⟨rfl, t, ht, h.1⟩, h.2⟩
mutual
theorem RelV.tag0 : ∀ (x : AV) (v : Value), Qi5 x = true → RelV ⟨io, w, loc, M⟩ x v → RelV ⟨io0 io, w, loc, M⟩ (Go.Ve.tag0 x) v
  | .int .., v, _, hv => by simpa only [RelV, Go.Ve.tag0] using hv
  | .bool .., v, _, hv => by simpa only [RelV, Go.Ve.tag0] using hv
  | .str .., v, _, hv => by simpa only [RelV, Go.Ve.tag0] using hv
  | .agg ls, v, h, hv => by
    simp only [Qi5] at h
    simp only [RelV, Go.Ve.tag0] at hv ⊢; obtain ⟨cs, rfl, h1⟩ := hv; exact ⟨cs, rfl, RelL.tag0 ls cs h h1⟩
  | .tup ls, v, h, hv => by
    simp only [Qi5] at h
    simp only [RelV, Go.Ve.tag0] at hv ⊢; obtain ⟨cs, rfl, h1⟩ := hv; exact ⟨cs, rfl, RelL.tag0 ls cs h h1⟩
  | .sl t sz xs, v, h, hv => by
    simp only [Qi5, Bool.and_eq_true, bne_iff_ne, ne_eq] at h
    simp only [RelV, Go.Ve.tag0] at hv ⊢
    obtain ⟨hn, hv⟩ := hv
    refine ⟨fun r hr => ?_, ?_⟩
    · rw [Wi] at hr
      obtain ⟨r0, h0, rfl⟩ := List.mem_map.1 hr
      exact QeE (hn r0 h0)
    · have hlen : (Gx xs).length = xs.length := by rw [Wi, List.length_map]
      rcases hv with ⟨rfl, hv⟩ | ⟨b, off, cap, css, h1, h2, h3, h4, h5⟩
      · refine .inl ⟨rfl, ?_⟩
        rcases hv with hv | ⟨_, a, hv⟩
        · exact .inl hv
        · exact .inr ⟨by omega, a, hv⟩
      · exact .inr ⟨b, off, cap, css, by rw [hlen]; exact h1, by rw [hlen]; exact h2, Qum h.1 h3, RelLL.tag0 xs css h.2 h4, h5⟩
  | .own o ver lo hi, v, _, hv => by simpa only [RelV, Go.Ve.tag0] using hv
  | .ptr o off, v, _, hv => by simpa only [RelV, Go.Ve.tag0] using hv
  | .elt o ver i off, v, _, hv => by simpa only [RelV, Go.Ve.tag0] using hv
  | .pp t ls, v, h, hv => by
    simp only [Qi5, Bool.and_eq_true, bne_iff_ne, ne_eq] at h
    simp only [RelV, Go.Ve.tag0] at hv ⊢
    obtain ⟨hn, b, off, cs, h1, h2, h3, h4⟩ := hv
    exact ⟨QeE hn, b, off, cs, h1, Qum h.1 h2, RelL.tag0 ls cs h.2 h3, h4⟩
  | .fn f a b, v, h, hv => by
    simp only [Qi5, Bool.and_eq_true] at h
    simp only [RelV, Go.Ve.tag0] at hv ⊢
    obtain ⟨us, bs, h1, h2, h3⟩ := hv
    exact ⟨us, bs, h1, RelL.tag0 a us h.1 h2, RelL.tag0 b bs h.2 h3⟩
  | .junk, _, _, _ => by simp only [RelV, Go.Ve.tag0]
theorem RelL.tag0 : ∀ (x : List AV) (v : List Value), K6 x = true → RelL ⟨io, w, loc, M⟩ x v → RelL ⟨io0 io, w, loc, M⟩ (KH x) v
  | [], v, _, hv => by simpa only [RelL, KH] using hv
  | x :: xs, v, h, hv => by
    simp only [K6, Bool.and_eq_true] at h
    simp only [RelL, KH] at hv ⊢
    obtain ⟨c, cs, rfl, h1, h2⟩ := hv
    exact ⟨c, cs, rfl, RelV.tag0 x c h.1 h1, RelL.tag0 xs cs h.2 h2⟩
theorem RelLL.tag0 : ∀ (x : List (List AV)) (v : List (List Value)), Zc x = true → RelLL ⟨io, w, loc, M⟩ x v → RelLL ⟨io0 io, w, loc, M⟩ (Gx x) v
  | [], v, _, hv => by simpa only [RelLL, Gx] using hv
  | x :: xs, v, h, hv => by
    simp only [Zc, Bool.and_eq_true] at h
    simp only [RelLL, Gx] at hv ⊢
    obtain ⟨c, cs, rfl, h1, h2⟩ := hv
    exact ⟨c, cs, rfl, RelL.tag0 x c h.1 h1, RelLL.tag0 xs cs h.2 h2⟩
end
end
mutual
/-- Nothing from without in it. -/
def QcT : AV → Bool
  | .sl t _ xs => t != 0 && xs.isEmpty
  | .pp .. | .fn .. => false
  | .agg ls => Qag ls
  | .tup ls => Qag ls
  | _ => true
def Qag : List AV → Bool
  | [] => true
  | x :: xs => QcT x && Qag xs
end
def Qb4 : AObj → Bool
  | .box ls => Qag ls
  | .arr _ _ _ xs => xs.all Qag
  | .gone => true
  | .mp .. => false
section
variable {io io' : Nat → Nat → Prop} {w : World} {loc : Nat → Option Value} {M : Nat → Option AObj} (hio : ∀ t b, t ≠ 0 → io t b → io' t b)
include hio
mutual
theorem RelV.plain : ∀ (x : AV) (v : Value), QcT x = true → RelV ⟨io, w, loc, M⟩ x v → RelV ⟨io', w, loc, M⟩ x v
  | .int .., v, _, hv => by simpa only [RelV] using hv
  | .bool .., v, _, hv => by simpa only [RelV] using hv
  | .str .., v, _, hv => by simpa only [RelV] using hv
  | .agg ls, v, h, hv => by
    simp only [QcT] at h
    simp only [RelV] at hv ⊢; obtain ⟨cs, rfl, h1⟩ := hv; exact ⟨cs, rfl, RelL.plain ls cs h h1⟩
  | .tup ls, v, h, hv => by
    simp only [QcT] at h
    simp only [RelV] at hv ⊢; obtain ⟨cs, rfl, h1⟩ := hv; exact ⟨cs, rfl, RelL.plain ls cs h h1⟩
  | .sl t sz xs, v, h, hv => by
    simp only [QcT, Bool.and_eq_true, bne_iff_ne, ne_eq, List.isEmpty_iff] at h
    obtain ⟨ht, rfl⟩ := h
    simp only [RelV] at hv ⊢
    refine ⟨hv.1, hv.2.imp id ?_⟩
    rintro ⟨b, off, cap, css, h1, h2, h3, h4, h5⟩
    exact ⟨b, off, cap, css, h1, h2, ⟨hio t b ht h3.1, h3.2⟩, by simpa only [RelLL] using h4, h5⟩
  | .own o ver lo hi, v, _, hv => by simpa only [RelV] using hv
  | .ptr o off, v, _, hv => by simpa only [RelV] using hv
  | .elt o ver i off, v, _, hv => by simpa only [RelV] using hv
  | .pp t ls, v, h, hv => by simp [QcT] at h
  | .fn f a b, v, h, hv => by simp [QcT] at h
  | .junk, _, _, _ => by simp only [RelV]
theorem RelL.plain : ∀ (x : List AV) (v : List Value), Qag x = true → RelL ⟨io, w, loc, M⟩ x v → RelL ⟨io', w, loc, M⟩ x v
  | [], v, _, hv => by simpa only [RelL] using hv
  | x :: xs, v, h, hv => by
    simp only [Qag, Bool.and_eq_true] at h
    simp only [RelL] at hv ⊢
    obtain ⟨c, cs, rfl, h1, h2⟩ := hv
    exact ⟨c, cs, rfl, RelV.plain x c h.1 h1, RelL.plain xs cs h.2 h2⟩
end
theorem RelLL.plain : ∀ {x : List (List AV)} {v : List (List Value)}, x.all Qag = true → RelLL ⟨io, w, loc, M⟩ x v → RelLL ⟨io', w, loc, M⟩ x v
  | [], v, _, hv => by simpa only [RelLL] using hv
  | x :: xs, v, h, hv => by
    simp only [List.all_cons, Bool.and_eq_true] at h
    simp only [RelLL] at hv ⊢
    obtain ⟨c, cs, rfl, h1, h2⟩ := hv
    exact ⟨c, cs, rfl, RelL.plain hio x c h.1 h1, RelLL.plain h.2 h2⟩
theorem objAt.plain {hv : Value} {obj : AObj} (hp : Qb4 obj = true) (h : objAt ⟨io, w, loc, M⟩ hv obj) : objAt ⟨io', w, loc, M⟩ hv obj := by
  cases obj with
  | box ls =>
    obtain ⟨b, cs, ty, rfl, h1, h2, h3⟩ := h
    exact ⟨b, cs, ty, rfl, h1, RelL.plain hio _ _ hp h2, h3⟩
  | arr e ver sz xs =>
    obtain ⟨css, h1, h2, h3, h4⟩ := h
    exact ⟨css, RelLL.plain hio hp h1, h2, h3, h4⟩
  | gone => exact h
  | mp kk es => cases hp
end
/-- A CONTRACT FOR ARGUMENTS OF KIND 0 holds for arguments of any kind, where nothing from without comes back. -/
theorem Contract.tag {P : Program} {f : FuncId} {args : List AV} {post : List (Nat × AObj)} {r : AV} (hC : Contract P f (KH args) [] r post) (h98 : K6 args = true) (hr : QcT r = true) (hp : (post.all fun p => Qb4 p.2) = true) :
    Contract P f args [] r post := by
  intro io w loc vs hio hwf hargs
  have hback : ∀ {t b w loc M}, t ≠ 0 → Ctx.ok ⟨io0 io, w, loc, M⟩ t b → Ctx.ok ⟨io, w, loc, M⟩ t b := fun ht h => ⟨h.1.elim id fun k => absurd k.1 ht, h.2⟩
  have hwf0 : WfM ⟨io0 io, w, loc, getM []⟩ := ⟨fun o obj h => by simp [getM] at h, hwf.dom, hwf.inj, globOk.okx ⟨fun t b h => ⟨Qrv h, rfl⟩⟩ hwf.glob⟩
  refine (hC (io0 io) w loc vs ⟨fun b hb => .inl (hio.1 b hb), fun b h => h.elim (hio.2 b) fun k => by omega⟩ hwf0 (RelL.tag0 args vs h98 hargs)).mono ?_
  rintro e w' ⟨v, loc', rfl, hwf', hX, hv, hev, hnew⟩
  have hno : ∀ {b}, ¬ Ctx.ownB ⟨io, w, loc, getM []⟩ b := by
    rintro b ⟨o, x, h1, h2⟩
    obtain ⟨obj, ho⟩ := hwf.dom o x h1
    simp [getM] at ho
  have hokb : ∀ t b, Ctx.ok ⟨io, w, loc, getM []⟩ t b → Ctx.ok ⟨io, w', loc', getM post⟩ t b ∧ w'.heap[b]? = w.heap[b]? := fun t b h => by
    obtain ⟨h1, h2⟩ := hX.ok t b (Qrv h)
    exact ⟨⟨h.1, h1.2⟩, h2⟩
  refine ⟨v, loc', rfl, ⟨fun o obj h => ?_, hwf'.dom, hwf'.inj, globOk.okx ⟨hokb⟩ hwf.glob⟩, ⟨hokb, fun o obj hv0 h1 h2 => by simp [getM] at h1⟩, RelV.plain (fun t b ht h => h.elim id fun k => absurd k.1 ht) _ _ hr hv, hev, hnew⟩
  obtain ⟨x, h1, h2⟩ := hwf'.obj o obj h
  refine ⟨x, h1, objAt.plain (fun t b ht h => h.elim id fun k => absurd k.1 ht) ?_ h2⟩
  rw [List.all_eq_true] at hp
  exact hp (o, obj) (KU h)
end Go.Ve

namespace Go.Ve
open Go.RowKit
end Go.Ve

namespace Go.Ve
open Go.RowKit
/-! ## sets of objects that a walk carries along as one -/
def gone (l : List (Nat × AObj)) : List (Nat × AObj) := l.map fun p => (p.1, AObj.gone)
theorem Qqa {l : List (Nat × AObj)} : dom (gone l) = dom l := by simp [dom, gone]
theorem Qou {l : List (Nat × AObj)} {d : List Nat} : ((gone l).all fun p => Qd d p.2) = true := by
  rw [List.all_eq_true]
  intro p hp
  obtain ⟨q, _, rfl⟩ := List.mem_map.1 hp
  rfl
theorem QcU {l : List (Nat × AObj)} {p : Nat × AObj} (h : p ∈ gone l) : ∃ x, (p.1, x) ∈ l := by
  obtain ⟨q, hq, rfl⟩ := List.mem_map.1 h
  exact ⟨q.2, hq⟩
theorem QeF {P : Program} {f : FuncId} {args : List AV} {pre : List (Nat × AObj)} {r : AV} {M : Nat → Option AObj} (hC : Contract P f args pre r (gone pre)) (hM : ∀ p ∈ pre, M p.1 = some p.2) (ha : Qb (dom pre) args = true) (hp : (pre.all fun p => Qd (dom pre) p.2) = true) (hr : noref r = true) :
    Qcm P f args M r (gone pre) := by
  refine .inl ⟨pre, hC, hM, fun p hp => .inl ?_, ?_, ha, hp, ZU _ _ hr, Qou⟩
  · obtain ⟨x, hx⟩ := QcU hp
    simpa using Qco hx
  · rw [Qqa, List.all_eq_true]
    intro o ho; simpa using ho
/-- No object of the set has this number. -/
def W4 (U : List (Nat × AObj)) (o : Nat) : Prop := ∀ p ∈ U, p.1 ≠ o
/-- Two sets have no number in common. -/
def dis (U V : List (Nat × AObj)) : Prop := ∀ p ∈ U, ∀ q ∈ V, p.1 ≠ q.1
/-- Each number once. -/
def ZW (U : List (Nat × AObj)) : Prop := U.Pairwise fun a b => a.1 ≠ b.1
theorem QcV {U : List (Nat × AObj)} {o : Nat} (h : W4 U o) : W4 (gone U) o := fun p hp => by
  obtain ⟨x, hx⟩ := QcU hp
  exact h (p.1, x) hx
theorem QbE {U : List (Nat × AObj)} {o : Nat} (h : W4 U o) : W4 U.reverse o := fun p hp => h p (List.mem_reverse.1 hp)
theorem Yq {U V : List (Nat × AObj)} (h : dis U V) : dis V U := fun p hp q hq e => h q hq p hp e.symm
theorem Yy {U V : List (Nat × AObj)} (h : dis U V) : dis (gone U) V := fun p hp q hq => by
  obtain ⟨x, hx⟩ := QcU hp
  exact h (p.1, x) hx q hq
theorem Qov {U V : List (Nat × AObj)} (h : dis U V) : dis U (gone V) := Yq (Yy (Yq h))
theorem QbF {U V : List (Nat × AObj)} (h : dis U V) : dis U V.reverse := fun p hp q hq => h p hp q (List.mem_reverse.1 hq)
theorem QZ {U : List (Nat × AObj)} {o : Nat} (h : W4 U o) : getM U o = none := by
  cases hg : getM U o with
  | none => rfl
  | some x => exact absurd rfl (h _ (KU hg))
theorem JP {U B : List (Nat × AObj)} {o : Nat} (h : W4 U o) : getM (U ++ B) o = getM B o := QL (QZ h)
theorem JQ {U B : List (Nat × AObj)} {o : Nat} {x : AObj} (h : W4 U o) : Kj (U ++ B) o x = U ++ Kj B o x := Gc (QZ h)
theorem J4 {U : List (Nat × AObj)} {o : Nat} {x : AObj} (h : W4 U o) : Kj U o x = U ++ [(o, x)] := ZD (QZ h)
theorem Qld {U V : List (Nat × AObj)} (h : dis U V) {p : Nat × AObj} (hp : p ∈ V) : getM U p.1 = none := QZ fun q hq => h q hq p hp
theorem QI {U : List (Nat × AObj)} (h : ZW U) : ∀ p ∈ U, getM U p.1 = some p.2 := by
  induction U with
  | nil => intro p hp; cases hp
  | cons q U ih =>
    unfold ZW at h
    rw [List.pairwise_cons] at h
    obtain ⟨k, x⟩ := q
    intro p hp
    rcases List.mem_cons.1 hp with rfl | hp
    · simp [getM]
    · simp only [getM]
      rw [if_neg fun e => h.1 p hp e.symm]
      exact ih h.2 p hp
theorem JX {U M : List (Nat × AObj)} {o : Nat} {x : AObj} (h : W4 U o) : Q1 ((o, x) :: M) U = (o, x) :: Q1 M U := by
  induction U with
  | nil => rfl
  | cons p U ih =>
    show Kj (Q1 ((o, x) :: M) U) p.1 p.2 = _
    rw [ih fun q hq => h q (by simp [hq])]
    show Kj ((o, x) :: Q1 M U) p.1 p.2 = (o, x) :: Kj (Q1 M U) p.1 p.2
    simp only [Kj]
    rw [if_neg (h p (by simp))]
theorem X4 {A U B : List (Nat × AObj)} (h : dis A U) : Q1 (A ++ B) U = A ++ Q1 B U := by
  induction A with
  | nil => rfl
  | cons p A ih =>
    obtain ⟨k, x⟩ := p
    rw [List.cons_append, JX, ih fun p hp => h p (by simp [hp])]
    · rfl
    · intro q hq e
      exact h (k, x) (by simp) q hq e.symm
theorem GJ {A U : List (Nat × AObj)} (h : dis A U) : Q1 A U = A ++ Q1 [] U := by
  have := X4 (B := []) h
  simpa using this
theorem Qcs {U B : List (Nat × AObj)} (h : ZW U) : Q1 (U ++ B) (gone U) = gone U ++ B := by
  induction U with
  | nil => rfl
  | cons p U ih =>
    unfold ZW at h
    rw [List.pairwise_cons] at h
    obtain ⟨k, x⟩ := p
    show Kj (Q1 ((k, x) :: (U ++ B)) (gone U)) k .gone = (k, .gone) :: (gone U ++ B)
    rw [JX, ih h.2]
    · simp [Kj]
    · intro q hq e
      obtain ⟨y, hy⟩ := QcU hq
      exact h.1 _ hy e.symm
theorem QbG {U : List (Nat × AObj)} (h : ZW U) : Q1 U (gone U) = gone U := by
  have := Qcs (B := []) h
  simpa using this
theorem Qle {M K : List (Nat × AObj)} (h : ∀ p ∈ K, getM M p.1 = some p.2) : Q1 M K = M := by
  induction K with
  | nil => rfl
  | cons p K ih =>
    show Kj (Q1 M K) p.1 p.2 = M
    rw [ih fun q hq => h q (by simp [hq])]
    have := h p (by simp)
    clear ih h
    induction M with
    | nil => simp [getM] at this
    | cons q M ih =>
      obtain ⟨k, x⟩ := q
      simp only [getM] at this
      simp only [Kj]
      split at this
      · rename_i e; cases this; rw [if_pos e]
      · rename_i e; rw [if_neg e, ih this]
theorem QaW {U B : List (Nat × AObj)} (h : ZW U) : Q1 (U ++ B) U = U ++ B := Qle fun p hp => by
  rw [JA (QI h p hp)]
theorem ZF {U : List (Nat × AObj)} (h : ZW U) : Q1 U U = U := Qle (QI h)
theorem QcW {U : List (Nat × AObj)} (h : ZW U) : ZW U.reverse := by
  unfold ZW; rw [List.pairwise_reverse]
  exact h.imp fun h => Ne.symm h
/-- A set of new objects. -/
theorem Wj {U : List (Nat × AObj)} (h : ZW U) : Q1 [] U.reverse = U := by
  rw [aU (fun p hp => rfl) (QcW h), List.nil_append, List.reverse_reverse]
theorem Wl {A B M' : List (Nat × AObj)} (h : keepB A M' = true) : keepB (A ++ B) M' = keepB B M' := by
  unfold keepB at h ⊢
  rw [Qlc, List.all_append, h, Bool.true_and]
theorem QgV {T : List (Nat × AObj)} (h : Y7 T) : Y7 (gone T) := fun p hp => by
  obtain ⟨x, hx⟩ := QcU hp
  exact h (p.1, x) hx
theorem Contract.post_eq {P : Program} {f : FuncId} {args : List AV} {pre post post' : List (Nat × AObj)} {r : AV} (h : Contract P f args pre r post) (e : getM post' = getM post) : Contract P f args pre r post' := by
  unfold Contract at h ⊢
  rw [e]; exact h
/-! ## values that are told -/
theorem Qkd (K : Nat → Option AObj) : ∀ {r : List AV}, flatOk r = true → Qn4 K r = some r
  | [], _ => rfl
  | x :: xs, h => by
    simp only [flatOk, Bool.and_eq_true] at h
    have ih := Qkd K h.2
    cases x <;> first | (simp [noref] at h; done) | (simp only [Qn4, ih]; rw [if_pos]; simp only [h.1.1, h.1.2, Bool.and_self])
theorem Qiy (K : Nat → Option AObj) : ∀ {rs : List (List AV)}, (∀ r ∈ rs, flatOk r = true) → QhY K rs = some rs
  | [], _ => rfl
  | r :: rs, h => by
    have ih := Qiy K (rs := rs) fun x hx => h x (by simp [hx])
    simp only [QhY, Qkd K (h r (by simp)), ih]
def NRow.ys (r : NRow) : List (List AV) := match r.ob with | .arr _ _ _ ys => ys | _ => []
theorem ZX {M K : Nat → Option AObj} {o e v sz n : Nat} {rows : List (List AV)} (hM : M o = some (.arr e v sz rows)) (hf : ∀ r ∈ rows, flatOk r = true) (hn : n = rows.length) : Vo M K (.own o v 0 n) = some (.sl 99 sz rows) := by
  simp only [Vo, hM, if_true, hn, List.take_length, List.drop_zero, Qiy K hf, Option.map_some]
theorem QW {M K : Nat → Option AObj} {x y : AV} {l m : List AV} (h : Vo M K x = some y) (h2 : Vx M K l = some m) : Vx M K (x :: l) = some (y :: m) := by simp only [Vx, h, h2]
theorem Qi6 {α : Type} {f : Nat → α → List AV} {t : Nat} (h : ∀ x, KH (f t x) = f 0 x) (l : List α) : Gx (l.map (f t)) = l.map (f 0) := by
  rw [Wi, List.map_map]; exact List.map_congr_left fun x _ => h x
theorem Gd {α : Type} {f : α → List AV} (h : ∀ x, KH (f x) = f x) (l : List α) : Gx (l.map f) = l.map f := by
  rw [Wi, List.map_map]; exact List.map_congr_left fun x _ => h x
theorem Kv {α : Type} {f : α → List AV} (h : ∀ x, K6 (f x) = true) (l : List α) : Zc (l.map f) = true := by
  induction l with
  | nil => rfl
  | cons x l ih => simp only [List.map_cons, Zc, h x, ih, Bool.and_self]
/-- A call that looks at objects of the function's own, and may give new ones. -/
theorem Jn {P : Program} {f : FuncId} {args args' : List AV} {r : AV} {news keep : List (Nat × AObj)} {M : Nat → Option AObj} (hC : Contract P f (KH args') [] r news)
    (hM : ∀ p ∈ keep, M p.1 = some p.2) (hr : Vx M (getM keep) args = some args') (h98 : K6 args' = true) (hp : QcT r = true) (hpo : (news.all fun p => Qb4 p.2) = true) (hn : ∀ p ∈ news, M p.1 = none)
    (hrf : Qc (dom news) r = true) (hro : (news.all fun p => Qd (dom news) p.2) = true) (h9 : No99 r) (h9o : ∀ p ∈ news, GF p.2) : Qcm P f args M r (news ++ keep) :=
  .inr (.inr (.inr ⟨args', keep, news, rfl, hM, hr, Contract.tag hC h98 hp hpo, hn, hrf, hro, h9, h9o⟩))
theorem X5 {M U V : List (Nat × AObj)} : Q1 M (U ++ V) = Q1 (Q1 M V) U := by
  unfold Q1
  rw [List.foldr_append]
theorem Qw {o : Nat} {x : AObj} {M K : List (Nat × AObj)} (h : W4 K o) (hM : ∀ p ∈ K, getM M p.1 = some p.2) : ∀ p ∈ K, getM ((o, x) :: M) p.1 = some p.2 := fun p hp => by
  simp only [getM]
  rw [if_neg (h p hp)]
  exact hM p hp
theorem KB {A M K : List (Nat × AObj)} (h : dis A K) (hM : ∀ p ∈ K, getM M p.1 = some p.2) : ∀ p ∈ K, getM (A ++ M) p.1 = some p.2 := fun p hp => by
  rw [QL (Qld h hp)]
  exact hM p hp
theorem JN {K B : List (Nat × AObj)} (hu : ZW K) : ∀ p ∈ K, getM (K ++ B) p.1 = some p.2 := fun p hp => JA (QI hu p hp)
theorem QaX {M : Nat → Option AObj} {o : Nat} {x : AObj} (h : M o = none) : ∀ p ∈ [(o, x)], M p.1 = none := fun p hp => by
  simp only [List.mem_cons, List.not_mem_nil, or_false] at hp
  subst hp; exact h
theorem QV {o : Nat} {x : AObj} {M K : List (Nat × AObj)} (h : W4 K o) (hM : ∀ p ∈ K, getM M p.1 = none) : ∀ p ∈ K, getM ((o, x) :: M) p.1 = none := fun p hp => by
  simp only [getM]
  rw [if_neg (h p hp)]
  exact hM p hp
theorem Ge {A M K : List (Nat × AObj)} (h : dis A K) (hM : ∀ p ∈ K, getM M p.1 = none) : ∀ p ∈ K, getM (A ++ M) p.1 = none := fun p hp => by
  rw [QL (Qld h hp)]
  exact hM p hp
theorem K7 {K : List (Nat × AObj)} : ∀ p ∈ K, getM [] p.1 = none := fun _ _ => rfl
theorem Qow {A K : List (Nat × AObj)} (h : dis A K) : ∀ p ∈ K, getM A p.1 = none := fun p hp => Qld h hp
theorem YV {M K : List (Nat × AObj)} (h : ∀ p ∈ K, getM M p.1 = none) : ∀ p ∈ K.reverse, getM M p.1 = none := fun p hp => h p (List.mem_reverse.1 hp)
end Go.Ve

namespace Go.Ve
open Go.RowKit

/-! ## rows with own slices inside, of any Qh3: a leaf '.sl v sz xs' of a told row stands for an own slice of version v -/
def QeG (k i : Nat) (x : AV) : AV := match x with
  | .sl v _ xs => .own (fam k i) v 0 xs.length
  | y => y
def UL (k i c : Nat) : List AV → List AV
  | [] => []
  | x :: r => QeG (k + c) i x :: UL k i (c + 1) r
def Qqb (e k i : Nat) (x : AV) : List (Nat × AObj) := match x with
  | .sl v sz xs => [(fam k i, .arr e v sz xs)]
  | _ => []
def Qke (es : Nat → Nat) (k i c : Nat) : List AV → List (Nat × AObj)
  | [] => []
  | x :: r => Qqb (es c) (k + c) i x ++ Qke es k i (c + 1) r
def QaY : AV → Bool
  | .int .. | .bool .. | .str .. => true
  | _ => false
def simpleV : AV → Bool
  | .int .. | .bool .. | .str .. => true
  | .sl _ _ xs => xs.all fun r => r.all QaY
  | _ => false
structure RowOk {α : Type} (n : Nat) (f : α → List AV) : Prop where
  len : ∀ x, (f x).length = n
  sim : ∀ x, (f x).all simpleV = true
section
variable {α : Type}
def Ja (f : α → List AV) (k i0 : Nat) (a : List α) : List (List AV) := a.mapIdx fun i x => UL k (i0 + i) 0 (f x)
def Q2 (es : Nat → Nat) (f : α → List AV) (k i0 : Nat) (a : List α) : List (Nat × AObj) := (a.mapIdx fun i x => Qke es k (i0 + i) 0 (f x)).flatten
def OO (o e v sz : Nat) (es : Nat → Nat) (f : α → List AV) (k i0 : Nat) (a : List α) : List (Nat × AObj) := (o, .arr (1000000 + e) v sz (Ja f k i0 a)) :: Q2 es f k i0 a
variable {f : α → List AV} {es : Nat → Nat} {k n i0 : Nat} {a : List α}

theorem QN : (Ja f k i0 a).length = a.length := by simp [Ja]
theorem ZY [Inhabited α] {i : Nat} (h : i < a.length) : (Ja f k i0 a).getD i [] = UL k (i0 + i) 0 (f (a.getD i default)) := by simp [Ja, h]
theorem Qkf {i : Nat} (h : ¬ i < a.length) : (Ja f k i0 a).getD i [] = [] := by
  rw [List.getD_eq_getElem?_getD, List.getElem?_eq_none (by rw [QN]; omega)]; rfl
theorem QbH {x : α} : Ja f k i0 (a ++ [x]) = Ja f k i0 a ++ [UL k (i0 + a.length) 0 (f x)] := by simp [Ja, List.mapIdx_append]
theorem Qiz {x : α} : Q2 es f k i0 (a ++ [x]) = Q2 es f k i0 a ++ Qke es k (i0 + a.length) 0 (f x) := by simp [Q2, List.mapIdx_append]
theorem QiA : (Ja f k i0 a).take a.length = Ja f k i0 a := List.take_of_length_le (by rw [QN]; exact Nat.le_refl _)
theorem QbI {k i : Nat} {p : Nat × AObj} : ∀ {r : List AV} {c : Nat}, p ∈ Qke es k i c r ↔ ∃ j v sz xs, r[j]? = some (.sl v sz xs) ∧ p = (fam (k + (c + j)) i, .arr (es (c + j)) v sz xs)
  | [], _ => by simp [Qke]
  | x :: r, c => by
    simp only [Qke, List.mem_append, QbI (r := r)]
    constructor
    · rintro (h | ⟨j, v, sz, xs, h1, h2⟩)
      · cases x <;> simp [Qqb] at h
        rename_i v sz xs
        exact ⟨0, v, sz, xs, rfl, h⟩
      · exact ⟨j + 1, v, sz, xs, by simpa using h1, by rw [h2, show c + 1 + j = c + (j + 1) from by omega]⟩
    · rintro ⟨j, v, sz, xs, h1, h2⟩
      cases j with
      | zero =>
        simp only [List.getElem?_cons_zero, Option.some.injEq] at h1
        subst h1
        left; rw [h2]; simp [Qqb]
      | succ j => exact .inr ⟨j, v, sz, xs, by simpa using h1, by rw [h2, show c + 1 + j = c + (j + 1) from by omega]⟩
theorem JB [Inhabited α] {p : Nat × AObj} : p ∈ Q2 es f k i0 a ↔ ∃ i j v sz xs, i < a.length ∧ (f (a.getD i default))[j]? = some (.sl v sz xs) ∧ p = (fam (k + j) (i0 + i), .arr (es j) v sz xs) := by
  simp only [Q2, List.mem_flatten, List.mem_mapIdx]
  constructor
  · rintro ⟨l, ⟨i, hi, rfl⟩, hp⟩
    obtain ⟨j, v, sz, xs, h1, h2⟩ := QbI.1 hp
    rw [Nat.zero_add] at h2
    exact ⟨i, j, v, sz, xs, hi, by simpa [hi] using h1, h2⟩
  · rintro ⟨i, j, v, sz, xs, hi, h1, h2⟩
    refine ⟨_, ⟨i, hi, rfl⟩, QbI.2 ⟨j, v, sz, xs, by simpa [hi] using h1, by rw [Nat.zero_add]; exact h2⟩⟩
theorem Qb5 {r : List AV} {j : Nat} {x : AV} (h : r[j]? = some x) : j < r.length := (List.getElem?_eq_some_iff.1 h).1
theorem Kw [Inhabited α] (hr : RowOk n f) (hk : k + n ≤ 1000) {p : Nat × AObj} (h : p ∈ Q2 es f k i0 a) : 1000 ≤ p.1 ∧ k ≤ p.1 % 1000 ∧ p.1 % 1000 < k + n := by
  obtain ⟨i, j, v, sz, xs, hi, h1, rfl⟩ := JB.1 h
  have := Qb5 h1
  rw [hr.len] at this
  refine ⟨by simp only [fam]; omega, ?_⟩
  rw [ZV (by omega)]; omega
theorem Qkg {k i : Nat} : ∀ {r : List AV} {c : Nat}, (Qke es k i c r).Pairwise fun a b => a.1 ≠ b.1
  | [], _ => by simp [Qke]
  | x :: r, c => by
    simp only [Qke]
    rw [List.pairwise_append]
    refine ⟨?_, Qkg, fun p hp q hq => ?_⟩
    · cases x <;> simp [Qqb]
    · obtain ⟨j, v, sz, xs, _, rfl⟩ := QbI.1 hq
      cases x <;> simp [Qqb] at hp
      subst hp
      simp only [fam]; omega
theorem KY [Inhabited α] (hr : RowOk n f) (hk : k + n ≤ 1000) : ZW (Q2 es f k i0 a) := by
  unfold ZW Q2
  rw [List.pairwise_flatten]
  constructor
  · intro l hl
    obtain ⟨i, hi, rfl⟩ := List.mem_mapIdx.1 hl
    exact Qkg
  · rw [List.pairwise_iff_getElem]
    intro i j hi hj hij p hp q hq
    simp only [List.getElem_mapIdx] at hp hq
    obtain ⟨c, v, sz, xs, h1, rfl⟩ := QbI.1 hp
    obtain ⟨d, v', sz', xs', h2, rfl⟩ := QbI.1 hq
    have h1 := Qb5 h1
    have h2 := Qb5 h2
    rw [hr.len] at h1 h2
    simp only [fam]; omega
theorem QaZ [Inhabited α] (hr : RowOk n f) (hk : k + n ≤ 1000) {i j : Nat} {v sz : Nat} {xs : List (List AV)} (hi : i < a.length) (h : (f (a.getD i default))[j]? = some (.sl v sz xs)) : getM (Q2 es f k i0 a) (fam (k + j) (i0 + i)) = some (.arr (es j) v sz xs) :=
  QI (KY hr hk) (fam (k + j) (i0 + i), .arr (es j) v sz xs) (JB.2 ⟨i, j, v, sz, xs, hi, h, rfl⟩)
theorem Qkh [Inhabited α] (hr : RowOk n f) (hk : k + n ≤ 1000) {i q : Nat} (hq : q < 1000) (hi : i0 + a.length ≤ i) : getM (Q2 es f k i0 a) (fam q i) = none := QZ fun p hp e => by
  obtain ⟨i', j, v, sz, xs, hi', h1, rfl⟩ := JB.1 hp
  have := Qb5 h1
  rw [hr.len] at this
  simp only [fam] at e; omega
theorem Wm [Inhabited α] : QpN (Q2 es f k i0 a) := fun p hp => by
  obtain ⟨i, j, v, sz, xs, hi, h1, rfl⟩ := JB.1 hp
  simp only [fam]; omega
theorem Ji [Inhabited α] (hr : RowOk n f) (hk : k + n ≤ 1000) (h : 100 ≤ k) : Y7 (Q2 es f k i0 a) := fun p hp => by
  have := (Kw hr hk hp).2.1; omega
theorem Qki {o e v sz : Nat} {p : Nat × AObj} (h : p ∈ OO o e v sz es f k i0 a) : p = (o, .arr (1000000 + e) v sz (Ja f k i0 a)) ∨ p ∈ Q2 es f k i0 a := by
  simpa [OO] using h
theorem KZ [Inhabited α] {o e v sz : Nat} (hr : RowOk n f) (hk : k + n ≤ 1000) {p : Nat × AObj} (h : p ∈ OO o e v sz es f k i0 a) : p.1 = o ∨ (1000 ≤ p.1 ∧ k ≤ p.1 % 1000 ∧ p.1 % 1000 < k + n) := by
  rcases Qki h with rfl | h
  · exact .inl rfl
  · exact .inr (Kw hr hk h)
theorem Vp [Inhabited α] {o e v sz : Nat} (hr : RowOk n f) (hk : k + n ≤ 1000) (ho : o < 1000) : ZW (OO o e v sz es f k i0 a) := by
  unfold ZW OO
  rw [List.pairwise_cons]
  exact ⟨fun p hp => by have := (Kw hr hk hp).1; simp only; omega, KY hr hk⟩
theorem Ql7 [Inhabited α] {o e v sz : Nat} (hr : RowOk n f) (hk : k + n ≤ 1000) (h : 100 ≤ k) (ho : 100 ≤ o % 1000) : Y7 (OO o e v sz es f k i0 a) := Q3 ho (Ji hr hk h)
theorem Y8 {o e v sz : Nat} : getM (OO o e v sz es f k i0 a) o = some (.arr (1000000 + e) v sz (Ja f k i0 a)) := by simp only [OO, getM, if_true]
theorem K0 {o e v sz : Nat} {B : List (Nat × AObj)} : getM (OO o e v sz es f k i0 a ++ B) o = some (.arr (1000000 + e) v sz (Ja f k i0 a)) := JA Y8
/-! references -/
theorem QgW {k i : Nat} {d : List Nat} : ∀ {r : List AV} {c : Nat}, r.all simpleV = true → (∀ j v sz xs, r[j]? = some (.sl v sz xs) → fam (k + (c + j)) i ∈ d) → Qb d (UL k i c r) = true
  | [], _, _, _ => rfl
  | x :: r, c, h, hd => by
    simp only [List.all_cons, Bool.and_eq_true] at h
    simp only [UL, Qb, Bool.and_eq_true]
    refine ⟨?_, QgW h.2 fun j v sz xs hj => ?_⟩
    · cases x <;> simp [simpleV] at h <;> first | rfl | skip
      rename_i v sz xs
      simp only [QeG, Qc, List.contains_iff_mem]
      exact hd 0 v sz xs rfl
    · have := hd (j + 1) v sz xs (by simpa using hj)
      rwa [show c + 1 + j = c + (j + 1) from by omega]
theorem QiB [Inhabited α] (hr : RowOk n f) {d : List Nat} (h : ∀ p ∈ Q2 es f k i0 a, p.1 ∈ d) : (Ja f k i0 a).all (Qb d) = true := by
  rw [List.all_eq_true]
  intro x hx
  obtain ⟨i, hi, rfl⟩ := List.mem_iff_getElem.1 hx
  have hi' : i < a.length := by simpa [QN] using hi
  simp only [Ja, List.getElem_mapIdx]
  refine QgW (hr.sim _) fun j v sz xs hj => ?_
  rw [Nat.zero_add]
  exact h (fam (k + j) (i0 + i), .arr (es j) v sz xs) (JB.2 ⟨i, j, v, sz, xs, hi', by simpa [hi'] using hj, rfl⟩)
theorem QbJ [Inhabited α] (hes : ∀ c, es c < 1000000) {d : List Nat} : ((Q2 es f k i0 a).all fun p => Qd d p.2) = true := by
  rw [List.all_eq_true]
  intro p hp
  obtain ⟨i, j, v, sz, xs, hi, h1, rfl⟩ := JB.1 hp
  simp [Qd, hes]
theorem YW [Inhabited α] {o e v sz : Nat} (hr : RowOk n f) (hes : ∀ c, es c < 1000000) {d : List Nat} (h : ∀ p ∈ Q2 es f k i0 a, p.1 ∈ d) : ((OO o e v sz es f k i0 a).all fun p => Qd d p.2) = true := by
  simp only [OO, List.all_cons, Bool.and_eq_true]
  refine ⟨?_, QbJ hes⟩
  simp only [Qd]
  rw [if_neg (by omega)]
  exact QiB hr h
theorem JI {l : List (Nat × AObj)} {p : Nat × AObj} (h : p ∈ l) : p.1 ∈ dom l := List.mem_map.2 ⟨p, h, rfl⟩
theorem Y0 [Inhabited α] {o e v sz : Nat} (hr : RowOk n f) (hes : ∀ c, es c < 1000000) : ((OO o e v sz es f k i0 a).all fun p => Qd (dom (OO o e v sz es f k i0 a)) p.2) = true :=
  YW hr hes fun p hp => JI (List.mem_cons_of_mem _ hp)
theorem Qox [Inhabited α] {o e v sz : Nat} (hr : RowOk n f) (hes : ∀ c, es c < 1000000) : ((OO o e v sz es f k i0 a).reverse.all fun p => Qd (dom (OO o e v sz es f k i0 a).reverse) p.2) = true := by
  rw [List.all_reverse]
  exact YW hr hes fun p hp => JI (List.mem_reverse.2 (List.mem_cons_of_mem _ hp))
/-! other numbers -/
theorem ZG {s : Nat → Nat} : ∀ {l : List (Nat × AObj)}, J5 s l = l.map fun p => (s p.1, renO s p.2)
  | [] => rfl
  | (k, x) :: l => by simp only [J5, List.map_cons, ZG]
theorem Ql8 {s : Nat → Nat} {k k' i i' : Nat} (hes : ∀ c, es c < 1000000) : ∀ {r : List AV} {c : Nat}, (∀ j, j < c + r.length → s (fam (k + j) i) = fam (k' + j) i') → (Qke es k i c r).map (fun p => (s p.1, renO s p.2)) = Qke es k' i' c r
  | [], _, _ => rfl
  | x :: r, c, h => by
    simp only [Qke, List.map_append]
    rw [Ql8 hes fun j hj => h j (by simp only [List.length_cons]; omega)]
    congr 1
    cases x <;> simp [Qqb, renO, hes, h c (by simp only [List.length_cons]; omega)]
theorem Qgf {s : Nat → Nat} {k k' i i' : Nat} : ∀ {r : List AV} {c : Nat}, r.all simpleV = true → (∀ j, j < c + r.length → s (fam (k + j) i) = fam (k' + j) i') → K4 s (UL k i c r) = UL k' i' c r
  | [], _, _, _ => rfl
  | x :: r, c, hx, h => by
    simp only [List.all_cons, Bool.and_eq_true] at hx
    simp only [UL, K4]
    rw [Qgf hx.2 fun j hj => h j (by simp only [List.length_cons]; omega)]
    congr 1
    cases x <;> simp [simpleV] at hx <;> simp [QeG, ren, h c (by simp only [List.length_cons]; omega)]
theorem Qkj {s : Nat → Nat} {k' i1 : Nat} (hr : RowOk n f) (hes : ∀ c, es c < 1000000) (hs : ∀ j i, j < n → s (fam (k + j) (i0 + i)) = fam (k' + j) (i1 + i)) : J5 s (Q2 es f k i0 a) = Q2 es f k' i1 a := by
  rw [ZG]
  simp only [Q2, List.map_flatten]
  congr 1
  refine List.ext_getElem (by simp) fun i h1 h2 => ?_
  simp only [List.getElem_map, List.getElem_mapIdx]
  refine Ql8 (k := k) (k' := k') hes fun j hj => hs j i ?_
  rw [hr.len] at hj; omega
theorem Qkk {s : Nat → Nat} {k' i1 : Nat} (hr : RowOk n f) (hs : ∀ j i, j < n → s (fam (k + j) (i0 + i)) = fam (k' + j) (i1 + i)) : (Ja f k i0 a).map (K4 s) = Ja f k' i1 a := by
  refine List.ext_getElem (by simp [Ja]) fun i h1 h2 => ?_
  simp only [Ja, List.getElem_map, List.getElem_mapIdx]
  refine Qgf (k := k) (k' := k') (hr.sim _) fun j hj => hs j i ?_
  rw [hr.len] at hj; omega
theorem Yr {o e v sz : Nat} {s : Nat → Nat} {k' i1 : Nat} (hr : RowOk n f) (hes : ∀ c, es c < 1000000) (hs : ∀ j i, j < n → s (fam (k + j) (i0 + i)) = fam (k' + j) (i1 + i)) : J5 s (OO o e v sz es f k i0 a) = OO (s o) e v sz es f k' i1 a := by
  simp only [OO, J5, renO, Qkj hr hes hs, Qkk hr hs]
  rw [if_neg (by omega)]
/-- A span of families changes places with another one. -/
def JH (a b n o : Nat) : Nat := if 1000 ≤ o then (if a ≤ o % 1000 ∧ o % 1000 < a + n then o - a + b else if b ≤ o % 1000 ∧ o % 1000 < b + n then o - b + a else o) else o
theorem JR {a b n : Nat} (ha : a + n ≤ 1000) (hb : b + n ≤ 1000) (hd : a + n ≤ b ∨ b + n ≤ a) (o : Nat) : JH a b n (JH a b n o) = o := by
  by_cases h0 : 1000 ≤ o
  · by_cases h1 : a ≤ o % 1000 ∧ o % 1000 < a + n
    · have e : JH a b n o = o - a + b := by unfold JH; rw [if_pos h0, if_pos h1]
      rw [e]; unfold JH
      rw [if_pos (by omega), if_neg (by omega), if_pos (by omega)]; omega
    · by_cases h2 : b ≤ o % 1000 ∧ o % 1000 < b + n
      · have e : JH a b n o = o - b + a := by unfold JH; rw [if_pos h0, if_neg h1, if_pos h2]
        rw [e]; unfold JH
        rw [if_pos (by omega), if_pos (by omega)]; omega
      · have e : JH a b n o = o := by unfold JH; rw [if_pos h0, if_neg h1, if_neg h2]
        rw [e, e]
  · have e : JH a b n o = o := by unfold JH; rw [if_neg h0]
    rw [e, e]
theorem Km {a b n j i : Nat} (ha : a + n ≤ 1000) (hj : j < n) : JH a b n (fam (a + j) i) = fam (b + j) i := by
  unfold JH fam
  rw [if_pos (by omega), if_pos (by omega)]; omega
theorem Qoy {a b n o : Nat} (h : o < 1000) : JH a b n o = o := by unfold JH; rw [if_neg (by omega)]
theorem J1 {a b n k i : Nat} (hk : k < 1000) (h1 : k < a ∨ a + n ≤ k) (h2 : k < b ∨ b + n ≤ k) : JH a b n (fam k i) = fam k i := by
  unfold JH fam
  rw [if_pos (by omega), if_neg (by omega), if_neg (by omega)]
/-! told -/
def QtR (t : Nat) (x : AV) : AV := match x with
  | .sl _ sz xs => .sl t sz xs
  | y => y
theorem Ql9 {K : Nat → Option AObj} {k i : Nat} (hes : ∀ c, es c < 1000000) : ∀ {r : List AV} {c : Nat}, r.all simpleV = true → (∀ j v sz xs, r[j]? = some (.sl v sz xs) → K (fam (k + (c + j)) i) = some (.arr (es (c + j)) v sz xs)) → Qn4 K (UL k i c r) = some (r.map (QtR 99))
  | [], _, _, _ => rfl
  | x :: r, c, hx, h => by
    simp only [List.all_cons, Bool.and_eq_true] at hx
    have ih := Ql9 hes (c := c + 1) hx.2 fun j v sz xs hj => by
      have := h (j + 1) v sz xs (by simpa using hj)
      rwa [show c + 1 + j = c + (j + 1) from by omega]
    cases x <;> simp [simpleV] at hx <;> simp only [UL, QeG, Qn4, ih, Jz, noref, Bool.and_self, if_true, List.map_cons, QtR]
    rename_i v sz xs
    have h0 := h 0 v sz xs rfl
    rw [Nat.add_zero] at h0
    simp only [h0, if_true, hes, List.take_length, List.drop_zero]
theorem Qfz {β : Type} {K : Nat → Option AObj} {g : β → List AV} : ∀ {l : List β} {F : Nat → β → List AV}, (∀ i (h : i < l.length), Qn4 K (F i l[i]) = some (g l[i])) → QhY K (l.mapIdx F) = some (l.map g)
  | [], _, _ => rfl
  | x :: l, F, h => by
    have h0 := h 0 (by simp)
    have ih := Qfz (K := K) (g := g) (l := l) (F := fun i => F (i + 1)) fun i hi => h (i + 1) (by simpa using hi)
    simp only [List.getElem_cons_zero] at h0
    simp only [List.mapIdx_cons, QhY, ih, h0, List.map_cons]
theorem Qlf [Inhabited α] {K : Nat → Option AObj} (hr : RowOk n f) (hes : ∀ c, es c < 1000000) (hK : ∀ p ∈ Q2 es f k i0 a, K p.1 = some p.2) : QhY K (Ja f k i0 a) = some (a.map fun x => (f x).map (QtR 99)) :=
  Qfz fun i hi => Ql9 hes (hr.sim _) fun j v sz xs hj => by
    rw [Nat.zero_add]
    exact hK (fam (k + j) (i0 + i), .arr (es j) v sz xs) (JB.2 ⟨i, j, v, sz, xs, hi, by simpa [hi] using hj, rfl⟩)
theorem Qlg [Inhabited α] {M K : Nat → Option AObj} {o e v sz m : Nat} (hr : RowOk n f) (hes : ∀ c, es c < 1000000) (hn : m = a.length) (hM : ∀ p ∈ OO o e v sz es f k i0 a, M p.1 = some p.2) (hK : ∀ p ∈ OO o e v sz es f k i0 a, K p.1 = some p.2) :
    Vo M K (.own o v 0 m) = some (.sl 99 sz (a.map fun x => (f x).map (QtR 99))) := by
  have h1 := hM (o, .arr (1000000 + e) v sz (Ja f k i0 a)) (by simp [OO])
  simp only at h1
  have hA := Qlf (K := K) (k := k) (a := a) hr hes fun p hp => hK p (List.mem_cons_of_mem _ hp)
  subst hn
  simp only [Vo, h1, if_true, List.drop_zero, QiA, hA, Option.map_some]
theorem Qkl : ∀ {xs : List (List AV)}, (xs.all fun r => r.all QaY) = true → Jo xs
  | [], _ => by simp [Jo]
  | r :: xs, h => by
    simp only [List.all_cons, Bool.and_eq_true] at h
    simp only [Jo]
    refine ⟨?_, Qkl h.2⟩
    have : ∀ {l : List AV}, l.all QaY = true → JT l := fun {l} => by
      induction l with
      | nil => intro _; simp [JT]
      | cons x l ih =>
        intro h
        simp only [List.all_cons, Bool.and_eq_true] at h
        simp only [JT]
        refine ⟨?_, ih h.2⟩
        cases x <;> simp [QaY] at h <;> simp [No99]
    exact this h.1
theorem Qoz {k i : Nat} : ∀ {r : List AV} {c : Nat}, r.all simpleV = true → JT (UL k i c r)
  | [], _, _ => by simp [UL, JT]
  | x :: r, c, h => by
    simp only [List.all_cons, Bool.and_eq_true] at h
    simp only [UL, JT]
    refine ⟨?_, Qoz h.2⟩
    cases x <;> simp [simpleV] at h <;> simp [QeG, No99]
theorem QiC {r : List AV} (h : r.all simpleV = true) {j v sz : Nat} {xs : List (List AV)} (hj : r[j]? = some (.sl v sz xs)) : (xs.all fun r => r.all QaY) = true := by
  rw [List.all_eq_true] at h
  have := h _ (List.mem_of_getElem? hj)
  simpa only [simpleV] using this
theorem Qnk {l : List (List AV)} (h : ∀ r ∈ l, JT r) : Jo l := by
  induction l with
  | nil => simp [Jo]
  | cons x l ih => simp only [Jo]; exact ⟨h x (by simp), ih fun r hr => h r (by simp [hr])⟩
theorem Qqc (hr : RowOk n f) : Jo (Ja f k i0 a) := Qnk fun r hr' => by
  obtain ⟨i, hi, rfl⟩ := List.mem_mapIdx.1 hr'
  exact Qoz (hr.sim _)
theorem Qqd [Inhabited α] (hr : RowOk n f) : ∀ p ∈ Q2 es f k i0 a, GF p.2 := fun p hp => by
  obtain ⟨i, j, v, sz, xs, hi, h1, rfl⟩ := JB.1 hp
  exact Qkl (QiC (hr.sim _) h1)
theorem Qnl [Inhabited α] {o e v sz : Nat} (hr : RowOk n f) : ∀ p ∈ OO o e v sz es f k i0 a, GF p.2 := fun p hp => by
  rcases Qki hp with rfl | hp
  · exact Qqc hr
  · exact Qqd hr p hp
theorem Qma : ∀ {r : List AV}, r.all QaY = true → Qag r = true
  | [], _ => rfl
  | x :: r, h => by
    simp only [List.all_cons, Bool.and_eq_true] at h
    simp only [Qag, Qma h.2, Bool.and_true]
    cases x <;> simp [QaY] at h <;> rfl
theorem QiD {k i : Nat} : ∀ {r : List AV} {c : Nat}, r.all simpleV = true → Qag (UL k i c r) = true
  | [], _, _ => rfl
  | x :: r, c, h => by
    simp only [List.all_cons, Bool.and_eq_true] at h
    simp only [UL, Qag, QiD h.2, Bool.and_true]
    cases x <;> simp [simpleV] at h <;> rfl
theorem Qi7 [Inhabited α] {o e v sz : Nat} (hr : RowOk n f) : ((OO o e v sz es f k i0 a).all fun p => Qb4 p.2) = true := by
  rw [List.all_eq_true]
  intro p hp
  rcases Qki hp with rfl | hp
  · simp only [Qb4]
    rw [List.all_eq_true]
    intro r hr'
    obtain ⟨i, hi, rfl⟩ := List.mem_mapIdx.1 hr'
    exact QiD (hr.sim _)
  · obtain ⟨i, j, v, sz, xs, hi, h1, rfl⟩ := JB.1 hp
    have := QiC (hr.sim _) h1
    simp only [Qb4]
    rw [List.all_eq_true] at this ⊢
    exact fun r hr => Qma (this r hr)
/-! reads in a walk -/
theorem Qkm [Inhabited α] {e cv sz ver i off : Nat} {K : AV → List (Nat × AObj) → Prop} : YY (Qla (some (.arr e cv sz (Ja f k i0 a))) ver i off KV) K = (ver = cv ∧ i < a.length ∧ YY (KV ((UL k (i0 + i) 0 (f (a.getD i default))).drop off)) K) := by
  by_cases h : i < a.length
  · simp only [YY, Qla, ZY h, and_assoc, h, true_and]
  · simp only [YY, Qla, Qkf h, h, List.drop_nil, Qrs, false_and, and_false]
theorem Qkn [Inhabited α] {e cv sz ver i off m : Nat} {K : AV → List (Nat × AObj) → Prop} : YY (Qla (some (.arr e cv sz (Ja f k i0 a))) ver i off fun ls => ⟨m + 1 ≤ ls.length, .agg (ls.take (m + 1)), []⟩) K = (ver = cv ∧ i < a.length ∧ YY ⟨m + 1 ≤ ((UL k (i0 + i) 0 (f (a.getD i default))).drop off).length, .agg (((UL k (i0 + i) 0 (f (a.getD i default))).drop off).take (m + 1)), []⟩ K) := by
  by_cases h : i < a.length
  · simp only [YY, Qla, ZY h, and_assoc, h, true_and]
  · simp only [YY, Qla, Qkf h, h, List.drop_nil, List.length_nil, Nat.not_succ_le_zero, false_and, and_false]
    simp
/-! stores in a walk: a row set to another one of the same numbers -/
/-- The objects after one row was changed, from what the memory holds. -/
theorem QoA [Inhabited α] {M : List (Nat × AObj)} {i : Nat} {x : α} (h0 : ∀ p ∈ Q2 es f k i0 a, (∀ c, c < 1000 → p.1 ≠ fam c (i0 + i)) → getM M p.1 = some p.2) (hr : RowOk n f) (hk : k + n ≤ 1000)
    (h1 : ∀ j v sz xs, (f x)[j]? = some (.sl v sz xs) → getM M (fam (k + j) (i0 + i)) = some (.arr (es j) v sz xs)) : ∀ p ∈ Q2 es f k i0 (a.set i x), getM M p.1 = some p.2 := fun p hp => by
  obtain ⟨i', j, v, sz, xs, hi, h2, rfl⟩ := JB.1 hp
  rw [List.length_set] at hi
  by_cases e : i' = i
  · subst e
    rw [show (a.set i' x).getD i' default = x from by simp [hi]] at h2
    exact h1 j v sz xs h2
  · rw [show (a.set i x).getD i' default = a.getD i' default from by simp [List.getElem?_set_ne (Ne.symm e)]] at h2
    have hj := Qb5 h2
    rw [hr.len] at hj
    refine h0 _ (JB.2 ⟨i', j, v, sz, xs, hi, h2, rfl⟩) fun c hc => ?_
    simp only [fam]; omega
/-! rows that are put into rows of zeros -/
def zR (f : α → List AV) (k : Nat) (a : List α) (i : Nat) (z : List AV) : List (List AV) := Ja f k 0 (a.take i) ++ List.replicate (a.length - i) z
theorem QoB {z : List AV} : List.replicate a.length z = zR f k a 0 z := by simp [zR, Ja]
theorem Qrw {z : List AV} : zR f k a a.length z = Ja f k 0 a := by simp [zR]
theorem Qrx [Inhabited α] {z : List AV} {i : Nat} {row : List AV} (h : i < a.length) (hr : row = UL k i 0 (f (a.getD i default))) (hz : z.length = row.length) : (zR f k a i z).set i (Q7 ((zR f k a i z).getD i []) 0 row) = zR f k a (i + 1) z := by
  have hl : (Ja f k 0 (a.take i)).length = i := by rw [QN, List.length_take]; omega
  have e1 : (zR f k a i z).getD i [] = z := by
    simp only [zR, List.getD_eq_getElem?_getD]
    rw [List.getElem?_append_right (by omega), hl, Nat.sub_self, List.getElem?_replicate, if_pos (by omega)]; rfl
  have e2 : Q7 z 0 row = row := by simp [Q7, ← hz]
  rw [e1, e2, hr]
  have e3 : a.take (i + 1) = a.take i ++ [a.getD i default] := by rw [List.take_succ_eq_append_getElem h]; simp [h]
  have hl2 : (a.take i).length = i := by rw [List.length_take]; omega
  simp only [zR, e3, QbH, hl2, Nat.zero_add]
  rw [List.set_append, if_neg (by omega), hl, Nat.sub_self, show a.length - i = (a.length - (i + 1)) + 1 from by omega, List.replicate_succ]
  simp
theorem QoC [Inhabited α] (hr : RowOk n f) {z : List AV} {i : Nat} {d : List Nat} (hz : Qb d z = true) (h : ∀ p ∈ Q2 es f k 0 (a.take i), p.1 ∈ d) : (zR f k a i z).all (Qb d) = true := by
  unfold zR
  rw [List.all_append, QiB hr h, Bool.true_and, List.all_eq_true]
  intro x hx
  rw [List.eq_of_mem_replicate hx]; exact hz
theorem QbK [Inhabited α] {i : Nat} (h : i < a.length) : Q2 es f k 0 (a.take (i + 1)) = Q2 es f k 0 (a.take i) ++ Qke es k i 0 (f (a.getD i default)) := by
  have e3 : a.take (i + 1) = a.take i ++ [a.getD i default] := by rw [List.take_succ_eq_append_getElem h]; simp [h]
  have hl2 : (a.take i).length = i := by rw [List.length_take]; omega
  rw [e3, Qiz, hl2, Nat.zero_add]
theorem QbL [Inhabited α] (hr : RowOk n f) (hk : k + n ≤ 1000) {i q : Nat} (hq : q < 1000) : getM (Q2 es f k 0 (a.take i)) (fam q i) = none := Qkh hr hk hq (by rw [List.length_take]; omega)
theorem Vq [Inhabited α] {o e v sz : Nat} (hr : RowOk n f) (hk : k + n ≤ 1000) (ho : o < 1000) : ∀ p ∈ OO o e v sz es f k i0 a, getM (OO o e v sz es f k i0 a) p.1 = some p.2 := QI (Vp hr hk ho)
theorem QgX {T : List (Nat × AObj)} {c : Nat → Bool} (h : Y7 T) : ((List.map (fun x => x.1) T).all fun o => decide (100 ≤ o % 1000) || c o) = true := by
  rw [List.all_eq_true]
  intro o ho
  obtain ⟨p, hp, rfl⟩ := List.mem_map.1 ho
  simp [h p hp]
/-! rows of one Qh3; marks -/
def QaL : AV → Bool
  | .sl .. => true
  | _ => false
def Qt2 (k i c : Nat) : List Bool → List Nat
  | [] => []
  | b :: r => (if b then [fam (k + c) i] else []) ++ Qt2 k i (c + 1) r
theorem Qmb {k i : Nat} : ∀ {r : List AV} {c : Nat}, dom (Qke es k i c r) = Qt2 k i c (r.map QaL)
  | [], _ => rfl
  | x :: r, c => by
    simp only [Qke, Qlc, List.map_cons, Qt2, Qmb (r := r)]
    cases x <;> simp [Qqb, QaL, dom]
theorem Qlh {l : List (List (Nat × AObj))} : dom l.flatten = (l.map dom).flatten := by
  simp only [dom, List.map_flatten]; rfl
theorem QoD (hsh : ∀ x y, (f x).map QaL = (f y).map QaL) {b : List α} (h : a.length = b.length) : dom (Q2 es f k i0 a) = dom (Q2 es f k i0 b) := by
  simp only [Q2, Qlh]
  congr 1
  refine List.ext_getElem (by simp [h]) fun i h1 h2 => ?_
  simp only [List.getElem_map, List.getElem_mapIdx, Qmb]
  rw [hsh]
theorem Qah {o e v v' sz : Nat} (hsh : ∀ x y, (f x).map QaL = (f y).map QaL) {b : List α} (h : a.length = b.length) : dom (OO o e v sz es f k i0 a) = dom (OO o e v' sz es f k i0 b) := by
  have := QoD (es := es) (k := k) (i0 := i0) hsh h
  simp only [dom] at this
  simp only [OO, dom, List.map_cons, this]
theorem Qi8 {M : List (Nat × AObj)} {o : Nat} {x : AObj} (h : o ∈ dom M) : dom (Kj M o x) = dom M := by
  induction M with
  | nil => simp [dom] at h
  | cons p M ih =>
    obtain ⟨q, y⟩ := p
    simp only [Kj]
    by_cases e : o = q
    · subst e; rw [if_pos rfl]; rfl
    · rw [if_neg e]
      have : o ∈ dom M := by simpa [dom, e] using h
      have := ih this
      simp only [dom, List.map_cons] at this ⊢
      rw [this]
theorem QcX {M M' : List (Nat × AObj)} (h : dom M = dom M') : keepB M M' = true := by
  unfold keepB
  rw [h, List.all_eq_true]
  intro o ho
  simp only [Bool.or_eq_true]; right; simpa using ho
theorem QgY [Inhabited α] {i : Nat} {r : List AV} {y : α} (h : i < a.length) (hr : r = UL k (i0 + i) 0 (f y)) : (Ja f k i0 a).set i r = Ja f k i0 (a.set i y) := by
  refine List.ext_getElem (by simp [Ja]) fun j h1 h2 => ?_
  by_cases e : j = i
  · subst e; simp [Ja, hr]
  · simp [Ja, List.getElem_set_ne (Ne.symm e)]
theorem Wn {rows : List (List AV)} {i : Nat} {r : List AV} (h : i < rows.length) : (rows.set i r).getD i [] = r := by simp [h]
theorem UN {e cv sz ver i off : Nat} {xs : List (List AV)} {K : AV → List (Nat × AObj) → Prop} : YY (Qla (some (.arr e cv sz xs)) ver i off KV) K = (ver = cv ∧ YY (KV ((xs.getD i []).drop off)) K) := by
  simp only [YY, Qla, and_assoc]
/-- Marks: the objects after a row was changed. -/
theorem QoE [Inhabited α] {M : List (Nat × AObj)} {o e v sz : Nat} {i : Nat} {x : α} (hr : RowOk n f) (hk : k + n ≤ 1000) (h2 : getM M o = some (.arr (1000000 + e) v sz (Ja f k i0 (a.set i x))))
    (h0 : ∀ p ∈ Q2 es f k i0 a, (∀ c, c < 1000 → p.1 ≠ fam c (i0 + i)) → getM M p.1 = some p.2)
    (h1 : ∀ j v sz xs, (f x)[j]? = some (.sl v sz xs) → getM M (fam (k + j) (i0 + i)) = some (.arr (es j) v sz xs)) : ∀ p ∈ OO o e v sz es f k i0 (a.set i x), getM M p.1 = some p.2 := fun p hp => by
  rcases Qki hp with rfl | hp
  · exact h2
  · exact QoA h0 hr hk h1 p hp
theorem QbM [Inhabited α] (hr : RowOk n f) (hk : k + n ≤ 1000) {q : Nat} (hq : q < 1000) : W4 (Q2 es f k i0 a) q := fun p hp e => by
  have := (Kw hr hk hp).1; omega
theorem QiE [Inhabited α] (hr : RowOk n f) (hk : k + n ≤ 1000) {B : List (Nat × AObj)} : ∀ p ∈ Q2 es f k i0 a, getM (Q2 es f k i0 a ++ B) p.1 = some p.2 := JN (KY hr hk)
theorem QgZ [Inhabited α] (hr : RowOk n f) (hk : k + n ≤ 1000) : ∀ p ∈ Q2 es f k i0 a, getM (Q2 es f k i0 a) p.1 = some p.2 := QI (KY hr hk)
end
end Go.Ve

namespace Go.Ve
open Go.RowKit
/-! ## nil slices of a contract's rows, told as own empty slices -/
theorem Qko {C : Ctx} : ∀ {xs : List (List AV)} {css : List (List Value)} {i : Nat} {y : List AV} {u : List Value}, RelLL C xs css → css[i]? = some u → RelL C y u → RelLL C (xs.set i y) css
  | [], vs, i, y, u, h, _, _ => by simpa using h
  | z :: zs, vs, i, y, u, h, hu, hy => by
    simp only [RelLL] at h
    obtain ⟨c', cs', rfl, h10, h11⟩ := h
    cases i with
    | zero => simp at hu; subst hu; exact RelLL.cons hy h11
    | succ i => simp only [List.set_cons_succ]; exact RelLL.cons h10 (Qko h11 (by simpa using hu) hy)
theorem Qse {A : A0} {io : Nat → Nat → Prop} {w : World} {loc : Nat → Option Value} {M : List (Nat × AObj)} (hI : Inv A ⟨io, w, loc, getM M⟩) {o e v sz i c : Nat} {rows : List (List AV)} {y : AV} (hB : getM M o = some (.arr e v sz rows)) (he : 1000000 ≤ e)
    (hi : i < rows.length) (hc : c < (rows.getD i []).length) (hleaf : Jz y = true)
    (hy : ∀ u, RelV ⟨io, w, loc, getM M⟩ ((rows.getD i []).getD c .junk) u → RelV ⟨io, w, loc, getM M⟩ y u) :
    ∃ loc', Inv A ⟨io, w, loc', getM (Kj M o (.arr e v sz (rows.set i ((rows.getD i []).set c y))))⟩ ∧ Ext ⟨io, w, loc, getM M⟩ ⟨io, w, loc', getM (Kj M o (.arr e v sz (rows.set i ((rows.getD i []).set c y))))⟩ := by
  obtain ⟨hv, h6, css, h7, h8, h9, h10⟩ := hI.wf.obj o _ hB
  have h6 : loc o = some hv := h6
  obtain ⟨us, hus, hur⟩ := h7.get i [] hi
  obtain ⟨u, hu, hur2⟩ := hur.get c .junk hc
  have k4 := Inv.upd (A := A) hI (w' := w) (o := o) (obj' := .arr e v sz (rows.set i ((rows.getD i []).set c y))) (hv' := hv) (Grow.refl _ _)
    (fun b' hb => .inr ⟨_, h6, hb⟩) (fun obj hv h h' => by
      have h : getM M o = some obj := h
      have h' : loc o = some hv := h'
      rw [hB] at h; cases h; rw [h6] at h'; cases h'
      exact .inr ⟨rfl, by simp, rfl, rfl⟩)
    (fun hext => by
      refine ⟨css, Qko (h7.mono hext) hus (Qi2 (hur.mono hext) hu ((hy u hur2).mono hext)), h8, ?_, ?_⟩
      · rw [List.length_set]; exact h9
      · intro r hr
        rcases List.mem_or_eq_of_mem_set hr with h | rfl
        · exact h10 r h
        · have hrow : rows.getD i [] ∈ rows := by
            simp only [List.getD_eq_getElem?_getD, List.getElem?_eq_getElem hi, Option.getD_some]; exact List.getElem_mem hi
          have := rowB.leaf (h10 _ hrow)
          unfold rowB
          rw [if_neg (by omega), List.all_eq_true]
          rw [List.all_eq_true] at this
          intro x hx
          rcases List.mem_or_eq_of_mem_set hx with h | rfl
          · exact this x h
          · exact hleaf)
  rw [← Kb] at k4
  exact ⟨_, k4.1, k4.2⟩
theorem Contract.own_nil {P : Program} {f : FuncId} {args : List AV} {pre post : List (Nat × AObj)} {r : AV} {o o' e e' v sz s i c : Nat} {rows : List (List AV)} (h : Contract P f args pre r post) (hp : (dom pre).all (decide <| · % 1000 < 100) = true)
    (hM : getM post o = some (.arr e v sz rows)) (he : 1000000 ≤ e) (hi : i < rows.length) (hc : (rows.getD i [])[c]? = some (.sl 98 s [])) (hn : getM post o' = none) :
    Contract P f args pre r (Kj (Kj post o' (.arr e' 0 s [])) o (.arr e v sz (rows.set i ((rows.getD i []).set c (.own o' 0 0 0))))) := by
  intro io w loc vs hio hwf hargs
  refine (h io w loc vs hio hwf hargs).mono ?_
  rintro ex w' ⟨val, loc', rfl, hwf', hX, hv, hev, hnew⟩
  have hold : ∀ q b, (∃ hv0, loc q = some hv0 ∧ blkOf hv0 = some b) → q % 1000 < 100 := by
    rintro q b ⟨hv0, h1, _⟩
    obtain ⟨obj, h2⟩ := hwf.dom q hv0 h1
    rw [List.all_eq_true] at hp
    have := hp q (by have := JV (l := pre) h2; simpa using this)
    simpa using this
  have hI : Inv ⟨io, w, 100, fun q b => ∃ hv0, loc q = some hv0 ∧ blkOf hv0 = some b, 0⟩ ⟨io, w', loc', getM post⟩ :=
    ⟨rfl, Nat.le_refl _, hio, hwf', fun q b h => hold q b h, ⟨hev.os, hev.tape, hev.output, hev.size, fun b hb ho => hev.block b hb fun ⟨q, x, h1, h2⟩ => ho ⟨q, x, h1, h2⟩⟩, fun q hv0 b h1 h2 => by
      rcases hnew q hv0 b h1 h2 with h | ⟨hv1, h3, h4⟩
      · exact .inl h
      · right
        have hb : b < w.heap.size ∨ w.heap.size ≤ b := Nat.lt_or_ge _ _
        exact ⟨hv1, h3, h4⟩⟩
  obtain ⟨k1, k2, k3⟩ := Qoj hI (o := o') (e := e') (sz := s) hn
  have ho : o ≠ o' := fun e1 => by rw [e1, hn] at hM; cases hM
  have hM2 : getM (Kj post o' (.arr e' 0 s [])) o = some (.arr e v sz rows) := by rw [QM, if_neg ho]; exact hM
  have hcl : c < (rows.getD i []).length := (List.getElem?_eq_some_iff.1 hc).1
  have hcd : (rows.getD i []).getD c .junk = .sl 98 s [] := by rw [List.getD_eq_getElem?_getD, hc]; rfl
  obtain ⟨loc2, k4, k5⟩ := Qse k1 hM2 he hi hcl (y := .own o' 0 0 0) rfl (fun u hu => by
    rw [hcd] at hu
    have : u = .slice none 0 0 := Qr1 k1 hu
    rw [this]; exact k3)
  refine ⟨val, loc2, rfl, k4.wf, (hX.trans k2).trans k5, (hv.mono k2).mono k5, hev, fun q hv0 b h1 h2 => ?_⟩
  exact k4.new q hv0 b h1 h2
/-! calls that change the objects of a set in QhU -/
theorem QeH {B : List (Nat × AObj)} : ∀ {U V : List (Nat × AObj)}, ZW U → dom V = dom U → Q1 (U ++ B) V = V ++ B
  | [], V, _, hd => by
    have : V = [] := by simpa [dom] using hd
    subst this; rfl
  | (k, x) :: U, [], _, hd => by simp [dom] at hd
  | (k, x) :: U, (k', y) :: V, h, hd => by
    simp only [dom, List.map_cons, List.cons.injEq] at hd
    obtain ⟨rfl, hd⟩ := hd
    unfold ZW at h
    rw [List.pairwise_cons] at h
    show Kj (Q1 ((k', x) :: (U ++ B)) V) k' y = (k', y) :: (V ++ B)
    rw [JX, QeH h.2 hd]
    · simp [Kj]
    · intro q hq e
      have : q.1 ∈ List.map (fun x => x.1) U := by rw [← hd]; exact List.mem_map.2 ⟨q, hq, rfl⟩
      obtain ⟨p, hp, hpe⟩ := List.mem_map.1 this
      exact h.1 p hp (by rw [hpe, e])
theorem Qmc {U V : List (Nat × AObj)} (h : ZW U) (hd : dom V = dom U) : Q1 U V = V := by
  have := QeH (B := []) h hd
  simpa using this
theorem Kr {P : Program} {f : FuncId} {args : List AV} {pre post : List (Nat × AObj)} {r : AV} {M : Nat → Option AObj} (hC : Contract P f args pre r post) (hd : dom post = dom pre) (hM : ∀ p ∈ pre, M p.1 = some p.2) (ha : Qb (dom pre) args = true) (hp : (pre.all fun p => Qd (dom pre) p.2) = true) (hr : noref r = true) (hq : (post.all fun p => Qd (dom post) p.2) = true) :
    Qcm P f args M r post := by
  refine .inl ⟨pre, hC, hM, fun p hp => .inl ?_, ?_, ha, hp, ZU _ _ hr, hq⟩
  · have : p.1 ∈ dom post := Qco hp
    rw [hd] at this
    simpa using this
  · rw [hd, List.all_eq_true]
    intro o ho; simpa using ho
end Go.Ve

namespace Go.Ve
open Go.RowKit
theorem Vr {a b o : Nat} (h1 : o ≠ a) (h2 : o ≠ b) : swp a b o = o := by unfold swp; rw [if_neg h1, if_neg h2]
theorem Qnm {s : Nat → Nat} {M : List (Nat × AObj)} (h : Y7 M) (hs : ∀ o, 100 ≤ o % 1000 → 100 ≤ s o % 1000) : Y7 (J5 s M) := fun p hp => by
  rw [ZG] at hp
  obtain ⟨q, hq, rfl⟩ := List.mem_map.1 hp
  exact hs _ (h q hq)
theorem Qsf {a b : Nat} (ha : 100 ≤ a % 1000) (hb : 100 ≤ b % 1000) : ∀ o, 100 ≤ o % 1000 → 100 ≤ swp a b o % 1000 := fun o ho => by
  unfold swp; split
  · exact hb
  · split
    · exact ha
    · exact ho
theorem Qtj {a b : Nat} (ha : 100 ≤ a % 1000) (hb : 100 ≤ b % 1000) : ∀ o, o % 1000 < 100 → swp a b o = o := fun o ho => Vr (by omega) (by omega)
section
variable {α : Type} {f : α → List AV} {es : Nat → Nat} {k n i0 : Nat} {a : List α}
/-! other numbers, of the rows that are there -/
theorem Qnn {s : Nat → Nat} {k' i1 : Nat} (hr : RowOk n f) (hs : ∀ j i, j < n → i < a.length → s (fam (k + j) (i0 + i)) = fam (k' + j) (i1 + i)) : (Ja f k i0 a).map (K4 s) = Ja f k' i1 a := by
  refine List.ext_getElem (by simp [Ja]) fun i h1 h2 => ?_
  simp only [Ja, List.getElem_map, List.getElem_mapIdx]
  have hi : i < a.length := by simpa [Ja] using h2
  refine Qgf (k := k) (k' := k') (hr.sim _) fun j hj => hs j i ?_ hi
  rw [hr.len] at hj; omega
end
end Go.Ve

