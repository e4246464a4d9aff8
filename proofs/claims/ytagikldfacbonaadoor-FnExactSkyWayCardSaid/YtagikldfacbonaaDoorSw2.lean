/- Part 2 of the proof: laws and contracts of functions, each proved; they are joined in the last part. No conditions beyond those that the theorems state. -/
import Derived.Below
import Derived.Carry
import Derived.ChangeOld
import Derived.Deep.Slices
import Derived.Handed
import Derived.JoinedOf
import Derived.OpenVars
import Derived.RowKit
import Derived.Scope
import Derived.Test.YtagikldfacbonaaDoorSw1
set_option linter.all false
namespace Go.Ve
set_option linter.unusedSimpArgs false
set_option linter.unusedVariables false
open Go.RowKit

/-! Regions that draw their order: an operation's slots and objects, and that two that are Qe8 may change places. -/

def oX : Option SX → List SX | some x => [x] | none => []
def SOp.xs : SOp → List SX
  | .mv x | .neg x | .not x | .conv _ x | .box _ x | .load1 x | .loadN _ x | .nilck x | .faddr _ x | .field1 _ x | .fieldN _ _ x | .lenS x | .lenL x | .ext _ x | .mk _ _ _ _ x | .mvfrz x | .b2s x => [x]
  | .newnil .. | .alloc .. | .mkmap .. => []
  | .look _ _ _ m k => [m, k]
  | .mset _ m k x => [m, k, x]
  | .idx _ x i | .idxN _ _ x i | .iaddrA _ _ x i => [x, i]
  | .isnil _ x => [x]
  | .pick c a b => [c, a, b]
  | .bin _ x y | .binN _ x y | .eqB _ x y | .eqS _ _ x y | .store _ x y | .iaddr _ x y | .istr x y | .mx x y | .mn x y | .app _ _ _ x y | .appN _ _ _ x y => [x, y]
  | .slStr x lo hi | .slSl _ x lo hi => x :: (oX lo ++ oX hi)
  | .build _ ps => ps.map (·.2.2)
  | .lit _ _ ps | .litOwn _ _ _ ps => ps
  | .call _ args => args
  | .clos _ caps => caps
  | .callV x args => x :: args
def rdL : List SX → List Nat
  | [] => []
  | .v k :: r => k :: rdL r
  | .c _ :: r => rdL r
  | .g _ :: r => rdL r
def SOper.reads (s : SOper) : List Nat := (match s.g with | some (t, _) => [t] | none => []) ++ rdL s.op.xs
/-- 0: looks at no object; 1: looks; 2: may write. -/
def SOp.cls : SOp → Nat
  | .load1 .. | .loadN .. | .nilck .. | .faddr .. | .slSl .. | .lenL .. | .iaddr .. | .b2s .. | .look .. | .iaddrA .. | .isnil .. => 1
  | .newnil .. | .alloc .. | .box .. | .store .. | .litOwn .. | .app .. | .appN .. | .mk .. | .mvfrz .. | .call .. | .callV .. | .mkmap .. | .mset .. => 2
  | _ => 0
mutual
def refs : AV → List Nat
  | .agg ls => KE ls
  | .tup ls => KE ls
  | .fn _ a b => KE a ++ KE b
  | .own o .. | .ptr o .. | .elt o .. => [o]
  | _ => []
def KE : List AV → List Nat
  | [] => []
  | x :: xs => refs x ++ KE xs
end
def fpX (E : Nat → AV) : List SX → List Nat
  | [] => []
  | x :: r => refs (ev E x) ++ fpX E r
def Gm (s : SOp) (E : Nat → AV) (ups : List (Nat × AObj)) : List Nat := fpX E s.xs ++ dom ups

theorem Qjr {E E' : Nat → AV} {l : List SX} (h : ∀ k ∈ rdL l, E' k = E k) : ∀ x ∈ l, ev E' x = ev E x := by
  induction l with
  | nil => intro x hx; cases hx
  | cons y r ih =>
    intro x hx
    cases y with
    | v k =>
      rcases List.mem_cons.1 hx with rfl | hx
      · exact h k (by simp [rdL])
      · exact ih (fun k hk => h k (by simp [rdL, hk])) x hx
    | c v =>
      rcases List.mem_cons.1 hx with rfl | hx
      · rfl
      · exact ih (fun k hk => h k (by simpa [rdL] using hk)) x hx
    | g v =>
      rcases List.mem_cons.1 hx with rfl | hx
      · rfl
      · exact ih (fun k hk => h k (by simpa [rdL] using hk)) x hx
theorem Qle {E E' : Nat → AV} {l : List SX} (h : ∀ x ∈ l, ev E' x = ev E x) : fpX E' l = fpX E l := by
  induction l with
  | nil => rfl
  | cons y r ih => simp only [fpX, h y (by simp), ih fun x hx => h x (by simp [hx])]
theorem QoO {E : Nat → AV} {l : List SX} {x : SX} (hx : x ∈ l) {o : Nat} (ho : o ∈ refs (ev E x)) : o ∈ fpX E l := by
  induction l with
  | nil => cases hx
  | cons y r ih =>
    simp only [fpX, List.mem_append]
    rcases List.mem_cons.1 hx with rfl | hx
    · exact .inl ho
    · exact .inr (ih hx)

theorem US {E E' : Nat → AV} (d : Int) {o : Option SX} (h : ∀ x ∈ oX o, ev E' x = ev E x) : Gk E' d o = Gk E d o := by
  cases o with
  | none => rfl
  | some x => simp only [Gk, h x (by simp [oX])]
theorem Qkm {s : SOp} {E E' : Nat → AV} {M : Nat → Option AObj} (h : ∀ x ∈ s.xs, ev E' x = ev E x) : eff s E' M = eff s E M := by
  cases s
  case slStr x lo hi =>
    simp only [SOp.xs, List.mem_cons, List.mem_append] at h
    simp only [eff, h x (by simp)]
    split
    · rw [US 0 fun y hy => h y (.inr (.inl hy)), US _ fun y hy => h y (.inr (.inr hy))]
    · rfl
  case slSl sz x lo hi =>
    simp only [SOp.xs, List.mem_cons, List.mem_append] at h
    simp only [eff, h x (by simp)]
    split
    · rw [US 0 fun y hy => h y (.inr (.inl hy)), US _ fun y hy => h y (.inr (.inr hy))]
    · split
      · rw [US 0 fun y hy => h y (.inr (.inl hy)), US _ fun y hy => h y (.inr (.inr hy))]
      · rfl
    · rfl
  case clos f caps =>
    simp only [SOp.xs] at h
    simp only [eff]
    rw [List.map_congr_left h]
  case build zs ps =>
    simp only [SOp.xs] at h
    have h1 : ∀ p ∈ ps, ev E' p.2.2 = ev E p.2.2 := fun p hp => h _ (List.mem_map.2 ⟨p, hp, rfl⟩)
    simp only [eff, Eff.mk.injEq, and_true]
    refine ⟨propext (forall_congr' fun p => forall_congr' fun hp => by rw [h1 p hp]), ?_⟩
    congr 1
    clear h
    induction ps generalizing zs with
    | nil => rfl
    | cons p ps ih =>
      simp only [List.foldl_cons, h1 p (by simp)]
      exact ih _ fun q hq => h1 q (by simp [hq])
  case lit e sz ps =>
    simp only [SOp.xs] at h
    simp only [eff, Eff.mk.injEq, and_true]
    exact ⟨propext (forall_congr' fun p => forall_congr' fun hp => by rw [h p hp]), by rw [List.map_congr_left fun p hp => by rw [h p hp]]⟩
  case litOwn o e sz ps =>
    simp only [SOp.xs] at h
    simp only [eff, Eff.mk.injEq, true_and]
    exact ⟨by rw [propext (forall_congr' fun p => forall_congr' fun hp => by rw [h p hp])], by rw [List.map_congr_left fun p hp => by rw [h p hp]]⟩
  case app o e sz x y =>
    simp only [SOp.xs, List.mem_cons, List.not_mem_nil, or_false, forall_eq_or_imp, forall_eq] at h
    simp only [eff, h.2]
    unfold Yw
    cases x with
    | v k => have := h.1; simp only [ev] at this; simp only [this]
    | c x => cases x <;> rfl
    | g x => rfl
  case appN o e sz x y =>
    simp only [SOp.xs, List.mem_cons, List.not_mem_nil, or_false, forall_eq_or_imp, forall_eq] at h
    simp only [eff, h.2]
    unfold Yw
    cases x with
    | v k => have := h.1; simp only [ev] at this; simp only [this]
    | c x => cases x <;> rfl
    | g x => rfl
  all_goals (simp only [SOp.xs, List.mem_cons, List.not_mem_nil, or_false, forall_eq_or_imp, forall_eq] at h; simp only [eff, h])

theorem QeB {M M' : Nat → Option AObj} {x : AV} {k : List AV → Eff} (h : ∀ o ∈ refs x, M' o = M o) : Zj M' x k = Zj M x k := by
  cases x <;> simp only [Zj] <;> first | rfl | (simp only [refs, List.mem_singleton, forall_eq] at h; simp only [h])
theorem Qdy {M M' : Nat → Option AObj} {x : AV} {sz : Nat} (h : ∀ o ∈ refs x, M' o = M o) : Ql M' sz x = Ql M sz x := by
  cases x <;> simp only [Ql] <;> first | rfl | (simp only [refs, List.mem_singleton, forall_eq] at h; simp only [h])
theorem QiO {M M' : Nat → Option AObj} {x : AV} {sz : Nat} (h : ∀ o ∈ refs x, M' o = M o) : KF M' sz x = KF M sz x := by
  cases x <;> simp only [KF] <;> first | rfl | (simp only [refs, List.mem_singleton, forall_eq] at h; simp only [h])
theorem Qm1 {s : SOp} (hs : s.cls = 0) {E : Nat → AV} {M M' : Nat → Option AObj} : eff s E M' = eff s E M := by
  cases s <;> simp [SOp.cls] at hs <;> rfl
theorem Qm2 {s : SOp} (hs : s.cls ≤ 1) {E : Nat → AV} {M : Nat → Option AObj} : (eff s E M).ups = [] := by
  cases s <;> simp [SOp.cls] at hs <;> simp only [eff, JB, QO, Zj, JD, JC, Qbl, G1, ok1, bad] <;> (repeat' split) <;> rfl

theorem Qkn {s : SOp} {E : Nat → AV} {M M' : Nat → Option AObj} (hp : (eff s E M).pre) (h : ∀ o ∈ Gm s E (eff s E M).ups, M' o = M o) : eff s E M' = eff s E M := by
  have hx : ∀ x ∈ s.xs, ∀ o ∈ refs (ev E x), M' o = M o := fun x hx o ho => h o (List.mem_append_left _ (QoO hx ho))
  have hu : ∀ o ∈ dom (eff s E M).ups, M' o = M o := fun o ho => h o (List.mem_append_right _ ho)
  clear h
  cases s
  case load1 x => simp only [SOp.xs, List.mem_singleton, forall_eq] at hx; simp only [eff, QeB hx]
  case loadN n x => simp only [SOp.xs, List.mem_singleton, forall_eq] at hx; simp only [eff, QeB hx]
  case nilck x =>
    simp only [SOp.xs, List.mem_singleton, forall_eq] at hx
    simp only [eff]
    generalize ev E x = y at hx
    cases y <;> first | rfl | (simp only [refs, List.mem_singleton, forall_eq] at hx; simp only [hx])
  case faddr off x =>
    simp only [SOp.xs, List.mem_singleton, forall_eq] at hx
    simp only [eff, JC]
    generalize ev E x = y at hx
    cases y <;> first | rfl | (simp only [refs, List.mem_singleton, forall_eq] at hx; simp only [hx])
  case lenL x =>
    simp only [SOp.xs, List.mem_singleton, forall_eq] at hx
    simp only [eff]
    generalize ev E x = y at hx
    cases y <;> first | rfl | (simp only [refs, List.mem_singleton, forall_eq] at hx; simp only [hx])
  case mvfrz x =>
    simp only [SOp.xs, List.mem_singleton, forall_eq] at hx
    simp only [eff]
    generalize ev E x = y at hx
    cases y <;> first | rfl | (simp only [refs, List.mem_singleton, forall_eq] at hx; simp only [hx])
  case iaddr sz x i =>
    simp only [SOp.xs, List.mem_cons, List.not_mem_nil, or_false, forall_eq_or_imp, forall_eq] at hx
    have hx := hx.1
    simp only [eff, Qbl]
    generalize ev E x = y at hx
    split
    · cases y <;> first | rfl | (simp only [refs, List.mem_singleton, forall_eq] at hx; simp only [hx])
    · rfl
  case iaddrA n sz x i =>
    simp only [SOp.xs, List.mem_cons, List.not_mem_nil, or_false, forall_eq_or_imp, forall_eq] at hx
    have hx := hx.1
    simp only [eff, JC]
    generalize ev E x = y at hx
    split
    · cases y <;> first | rfl | (simp only [refs, List.mem_singleton, forall_eq] at hx; simp only [hx])
    · rfl
  case isnil neg x =>
    simp only [SOp.xs, List.mem_singleton, forall_eq] at hx
    simp only [eff]
    generalize ev E x = y at hx
    cases y <;> first | rfl | (simp only [refs, List.mem_singleton, forall_eq] at hx; simp only [hx])
  case slSl sz x lo hi =>
    have hx := hx x (by simp [SOp.xs])
    simp only [eff]
    generalize ev E x = y at hx
    cases y <;> first | rfl | (simp only [refs, List.mem_singleton, forall_eq] at hx; simp only [hx])
  case store n x y =>
    have hx := hx x (by simp [SOp.xs])
    simp only [eff]
    generalize ev E x = z at hx
    cases z <;> first | rfl | (simp only [refs, List.mem_singleton, forall_eq] at hx; simp only [hx])
  case app o e sz x y =>
    have hy := hx y (by simp [SOp.xs])
    have hx := hx x (by simp [SOp.xs])
    simp only [eff, Qdy hy] at hu hp ⊢
    cases x with
    | v k =>
      simp only [ev] at hx
      simp only [Yw] at hp ⊢
      generalize E k = z at hx hp
      cases z <;> try rfl
      rename_i o' ver lo hi
      simp only [refs, List.mem_singleton, forall_eq] at hx
      have : o = o' := by
        simp only at hp
        split at hp
        · exact hp.1
        · exact hp.elim
      subst this
      simp only [hx]
    | c z =>
      cases z <;> simp only [Yw] at hu ⊢
      rw [hu o (by simp [dom])]
    | g z => rfl
  case appN o e sz x y =>
    have hy := hx y (by simp [SOp.xs])
    have hx := hx x (by simp [SOp.xs])
    simp only [eff, QiO hy] at hu hp ⊢
    cases x with
    | v k =>
      simp only [ev] at hx
      simp only [Yw] at hp ⊢
      generalize E k = z at hx hp
      cases z <;> try rfl
      rename_i o' ver lo hi
      simp only [refs, List.mem_singleton, forall_eq] at hx
      have : o = o' := by
        simp only at hp
        split at hp
        · exact hp.1
        · exact hp.elim
      subst this
      simp only [hx]
    | c z =>
      cases z <;> simp only [Yw] at hu ⊢
      rw [hu o (by simp [dom])]
    | g z => rfl
  case b2s x =>
    have hx := hx x (by simp [SOp.xs])
    simp only [eff, Qdy hx]
  case look ok kk z m k =>
    have hx := hx m (by simp [SOp.xs])
    simp only [eff]
    generalize ev E m = y at hx
    cases y <;> simp only [G1] <;> first | rfl | (simp only [refs, List.mem_singleton, forall_eq] at hx; simp only [hx])
  case mset kk m k x =>
    have hx := hx m (by simp [SOp.xs])
    simp only [eff]
    generalize ev E m = y at hx
    cases y <;> simp only [G2] <;> first | rfl | (simp only [refs, List.mem_singleton, forall_eq] at hx; simp only [hx])
  case mkmap o kk => simp only [eff] at hu ⊢; rw [hu o (by simp [dom])]
  case newnil o e sz => simp only [eff] at hu ⊢; rw [hu o (by simp [dom])]
  case alloc o zs => simp only [eff] at hu ⊢; rw [hu o (by simp [dom])]
  case box o x => simp only [eff] at hu ⊢; rw [hu o (by simp [dom])]
  case litOwn o e sz ps => simp only [eff] at hu ⊢; rw [hu o (by simp [dom])]
  case mk o e sz zs n =>
    simp only [eff] at hu ⊢
    split
    · rename_i k n' hn
      simp only [hn] at hu
      rw [hu o (by simp [dom])]
    · rfl
  all_goals rfl

theorem QfQ {M M' : Nat → Option AObj} : ∀ (l : List AV), (∀ o ∈ KE l, M' o = M o) → Y7 M' l = Y7 M l := by
  suffices h : (∀ (x : AV), (∀ o ∈ refs x, M' o = M o) → pur M' x = pur M x) from by
    intro l
    induction l with
    | nil => intro _; simp [Y7]
    | cons x xs ih =>
      intro hl
      simp only [KE, List.mem_append] at hl
      simp only [Y7, h x fun o ho => hl o (.inl ho), ih fun o ho => hl o (.inr ho)]
  intro x
  exact AV.rec (motive_1 := fun x => (∀ o ∈ refs x, M' o = M o) → pur M' x = pur M x) (motive_2 := fun l => (∀ o ∈ KE l, M' o = M o) → Y7 M' l = Y7 M l) (motive_3 := fun _ => True)
    (fun _ _ _ => by simp [pur]) (fun _ _ => by simp [pur]) (fun _ _ => by simp [pur]) (fun ls ih hl => by simp only [refs] at hl; simp only [pur, ih hl]) (fun _ _ _ => by simp [pur])
    (fun _ _ _ _ _ => by simp [pur]) (fun o ver lo hi hl => by simp only [pur, hl o (by simp [refs])]) (fun _ _ _ => by simp [pur]) (fun _ _ _ _ _ => by simp [pur]) (fun _ _ _ _ => by simp [pur])
    (fun _ _ _ _ _ _ => by simp [pur]) (fun _ => by simp [pur]) (fun _ => by simp [Y7])
    (fun x xs ih1 ih2 hl => by simp only [KE, List.mem_append] at hl; simp only [Y7, ih1 fun o ho => hl o (.inl ho), ih2 fun o ho => hl o (.inr ho)]) trivial (fun _ _ _ _ => trivial) x

theorem QiP {M M' K : Nat → Option AObj} : ∀ (l : List AV), (∀ o ∈ KE l, M' o = M o) → Qad M' K l = Qad M K l := by
  suffices h : (∀ (x : AV), (∀ o ∈ refs x, M' o = M o) → Qbm M' K x = Qbm M K x) from by
    intro l
    induction l with
    | nil => intro _; simp [Qad]
    | cons x xs ih =>
      intro hl
      simp only [KE, List.mem_append] at hl
      simp only [Qad, h x fun o ho => hl o (.inl ho), ih fun o ho => hl o (.inr ho)]
  intro x
  exact AV.rec (motive_1 := fun x => (∀ o ∈ refs x, M' o = M o) → Qbm M' K x = Qbm M K x) (motive_2 := fun l => (∀ o ∈ KE l, M' o = M o) → Qad M' K l = Qad M K l) (motive_3 := fun _ => True)
    (fun _ _ _ => by simp [Qbm]) (fun _ _ => by simp [Qbm]) (fun _ _ => by simp [Qbm]) (fun ls ih hl => by simp only [refs] at hl; simp only [Qbm, ih hl]) (fun _ _ _ => by simp [Qbm])
    (fun _ _ _ _ _ => by simp [Qbm]) (fun o ver lo hi hl => by simp only [Qbm, hl o (by simp [refs])]) (fun _ _ _ => by simp [Qbm]) (fun _ _ _ _ _ => by simp [Qbm]) (fun _ _ _ _ => by simp [Qbm])
    (fun _ _ _ _ _ _ => by simp [Qbm]) (fun _ => by simp [Qbm]) (fun _ => by simp [Qad])
    (fun x xs ih1 ih2 hl => by simp only [KE, List.mem_append] at hl; simp only [Qad, ih1 fun o ho => hl o (.inl ho), ih2 fun o ho => hl o (.inr ho)]) trivial (fun _ _ _ _ => trivial) x

theorem Qhw {E : Nat → AV} (l : List SX) : KE (l.map (ev E)) = fpX E l := by
  induction l with
  | nil => simp [KE, fpX]
  | cons x xs ih => simp only [List.map_cons, KE, fpX, ih]

theorem Qdc {l : List (Nat × AObj)} {p : Nat × AObj} (h : p ∈ l) : p.1 ∈ dom l := List.mem_map.2 ⟨p, h, rfl⟩

variable {P : Program}
theorem QeC {f : FuncId} {args : List AV} {M M' : Nat → Option AObj} {v : AV} {ups : List (Nat × AObj)} (h : ∀ o ∈ KE args ++ dom ups, M' o = M o) (hc : Qb7 P f args M v ups) : Qb7 P f args M' v ups := by
  rcases hc with ⟨pre, h1, h2, h3, h4, h5, h6, h7, h8⟩ | ⟨h1, args', h2, h3⟩ | ⟨args', h1, h2, h3, h4⟩ | ⟨args', keep, news, rfl, hk, h1, h2, h3, h4⟩
  · refine .inl ⟨pre, h1, fun p hp => ?_, fun p hp => ?_, h4, h5, h6, h7, h8⟩
    · rw [h p.1, h2 p hp]
      refine List.mem_append_right _ ?_
      rw [List.all_eq_true] at h4
      simpa using h4 p.1 (Qdc hp)
    · rw [h p.1 (List.mem_append_right _ (Qdc hp))]
      exact h3 p hp
  · exact .inr (.inl ⟨h1, args', by rw [QfQ args fun o ho => h o (List.mem_append_left _ ho)]; exact h2, h3⟩)
  · exact .inr (.inr (.inl ⟨args', by rw [QfQ args fun o ho => h o (List.mem_append_left _ ho)]; exact h1, h2, fun p hp => by rw [h p.1 (List.mem_append_right _ (Qdc hp))]; exact h3 p hp, h4⟩))
  · exact .inr (.inr (.inr ⟨args', keep, news, rfl, fun p hp => by rw [h p.1 (List.mem_append_right _ (Qdc (List.mem_append_right _ hp)))]; exact hk p hp,
      by rw [QiP args fun o ho => h o (List.mem_append_left _ ho)]; exact h1, h2, fun p hp => by rw [h p.1 (List.mem_append_right _ (Qdc (List.mem_append_left _ hp)))]; exact h3 p hp, h4⟩))

theorem Qhx (a b : List AV) : KE (a ++ b) = KE a ++ KE b := by
  induction a with
  | nil => simp [KE]
  | cons x xs ih => simp only [List.cons_append, KE, ih, List.append_assoc]
/-- One operation's run. -/
def QeD (P : Program) (s : SOp) (E : Nat → AV) (M : Nat → Option AObj) (v : AV) (ups : List (Nat × AObj)) : Prop :=
  match s with
  | .call f args => Qb7 P f (args.map (ev E)) M v ups
  | .callV x args => match ev E x with
    | .fn f a b => Qdb P f = true ∧ Qb7 P f (a ++ (args.map (ev E) ++ b)) M v ups
    | _ => False
  | s => (eff s E M).pre ∧ v = (eff s E M).v ∧ ups = (eff s E M).ups

theorem Qko {f : FuncId} {args : List SX} {E : Nat → AV} {M : Nat → Option AObj} {v : AV} {ups : List (Nat × AObj)} : QeD P (.call f args) E M v ups = Qb7 P f (args.map (ev E)) M v ups := rfl
theorem WN {x : SX} {args : List SX} {E : Nat → AV} {M : Nat → Option AObj} {v : AV} {ups : List (Nat × AObj)} : QeD P (.callV x args) E M v ups = (match ev E x with
    | .fn f a b => Qdb P f = true ∧ Qb7 P f (a ++ (args.map (ev E) ++ b)) M v ups
    | _ => False) := rfl
theorem Qcb {s : SOp} (hs : ∀ f args, s ≠ .call f args) (hs2 : ∀ x args, s ≠ .callV x args) {E : Nat → AV} {M : Nat → Option AObj} {v : AV} {ups : List (Nat × AObj)} : QeD P s E M v ups = ((eff s E M).pre ∧ v = (eff s E M).v ∧ ups = (eff s E M).ups) := by
  unfold QeD
  split
  · exact absurd rfl (hs _ _)
  · exact absurd rfl (hs2 _ _)
  · rfl
theorem Qd3 {X : Env P} {s : SOp} {st : St} {K : AV → List (Nat × AObj) → Prop} (h : XR X s st K) : ∃ v ups, QeD P s (getE st.E) (getM st.M) v ups ∧ K v ups := by
  unfold XR at h
  split at h
  · exact Qa3 h
  · rename_i x args
    unfold QbA at h
    split at h
    · rename_i f a b hf
      obtain ⟨h0, h⟩ := h
      obtain ⟨v, ups, h1, h2⟩ := Qa3 h
      exact ⟨v, ups, by rw [WN, hf]; exact ⟨h0, h1⟩, h2⟩
    · exact h.elim
  · rename_i hs hs2
    obtain ⟨h1, h2⟩ := h
    exact ⟨_, _, by rw [Qcb hs hs2]; exact ⟨h1, rfl, rfl⟩, h2⟩
theorem Qgd {f : FuncId} {args : List AV} {M : Nat → Option AObj} {K : AV → List (Nat × AObj) → Prop} {v : AV} {ups : List (Nat × AObj)} (h : Qb7 P f args M v ups) (hk : K v ups) : Qdx (Env.nil P) f args M K := by
  show QiM P (Env.nil P) f args M K (Y7 M args)
  cases Y7 M args <;> exact ⟨v, ups, h, hk⟩
theorem Qhy {s : SOp} {st : St} {v : AV} {ups : List (Nat × AObj)} {K : AV → List (Nat × AObj) → Prop} (h : QeD P s (getE st.E) (getM st.M) v ups) (hk : K v ups) : XR (Env.nil P) s st K := by
  unfold XR
  split
  · exact Qgd h hk
  · rw [WN] at h
    unfold QbA
    split at h
    · rename_i f a b hf
      rw [hf]
      exact ⟨h.1, Qgd h.2 hk⟩
    · exact h.elim
  · rename_i hs hs2
    rw [Qcb hs hs2] at h
    obtain ⟨h1, rfl, rfl⟩ := h
    exact ⟨h1, hk⟩
theorem Qm3 {s : SOp} {st : St} {v : AV} {ups : List (Nat × AObj)} (h : QeD P s (getE st.E) (getM st.M) v ups) : XR (Env.nil P) s st fun v' ups' => v' = v ∧ ups' = ups := by
  unfold XR
  split
  · exact Qgd h ⟨rfl, rfl⟩
  · rw [WN] at h
    unfold QbA
    split at h
    · rename_i f a b hf
      rw [hf]
      exact ⟨h.1, Qgd h.2 ⟨rfl, rfl⟩⟩
    · exact h.elim
  · rename_i hs hs2
    rw [Qcb hs hs2] at h
    exact ⟨h.1, h.2.1.symm, h.2.2.symm⟩

theorem QiQ {s : SOp} {E E' : Nat → AV} {M M' : Nat → Option AObj} {v : AV} {ups : List (Nat × AObj)} (hE : ∀ x ∈ s.xs, ev E' x = ev E x) (hM : s.cls = 0 ∨ ∀ o ∈ Gm s E ups, M' o = M o) (h : QeD P s E M v ups) : QeD P s E' M' v ups := by
  by_cases hs2 : ∃ x args, s = .callV x args
  · obtain ⟨x, args, rfl⟩ := hs2
    rw [WN] at h ⊢
    rcases hM with hM | hM
    · simp [SOp.cls] at hM
    have hx : ev E' x = ev E x := hE x (by simp [SOp.xs])
    have ha : args.map (ev E') = args.map (ev E) := List.map_congr_left fun y hy => hE y (by simp [SOp.xs, hy])
    rw [hx, ha]
    split at h
    · rename_i f a b hf
      refine ⟨h.1, QeC (fun o ho => hM o ?_) h.2⟩
      simp only [Gm, SOp.xs, fpX, hf, refs, List.mem_append] at ho ⊢
      rw [Qhx, Qhx, Qhw] at ho
      simp only [List.mem_append] at ho
      rcases ho with (h1 | h1 | h1) | h1
      · exact .inl (.inl (.inl h1))
      · exact .inl (.inr h1)
      · exact .inl (.inl (.inr h1))
      · exact .inr h1
    · exact h
  have hs2 : ∀ x args, s ≠ .callV x args := fun x args e => hs2 ⟨x, args, e⟩
  by_cases hs : ∀ f args, s ≠ .call f args
  · rw [Qcb hs hs2] at h ⊢
    have h1 : eff s E' M' = eff s E M := by
      rw [Qkm hE]
      rcases hM with hM | hM
      · exact Qm1 hM
      · exact Qkn h.1 (by rw [← h.2.2]; exact hM)
    rw [h1]; exact h
  · have hs : ∃ f args, s = .call f args := Classical.byContradiction fun hn => hs fun f args e => hn ⟨f, args, e⟩
    obtain ⟨f, args, rfl⟩ := hs
    rw [Qko] at h ⊢
    rcases hM with hM | hM
    · simp [SOp.cls] at hM
    rw [List.map_congr_left (l := args) (f := ev E') (g := ev E) hE]
    exact QeC (by rw [Qhw]; exact hM) h
theorem Qlf {s : SOp} {E : Nat → AV} {M : Nat → Option AObj} {v : AV} {ups : List (Nat × AObj)} (h : QeD P s E M v ups) (hs : s.cls ≤ 1) : ups = [] := by
  have hs' : ∀ f args, s ≠ .call f args := by rintro f args rfl; simp [SOp.cls] at hs
  have hs2 : ∀ x args, s ≠ .callV x args := by rintro f args rfl; simp [SOp.cls] at hs
  rw [Qcb hs' hs2] at h
  rw [h.2.2, Qm2 hs]
end Go.Ve

namespace Go.Ve
set_option linter.unusedSimpArgs false
set_option linter.unusedVariables false
open Go.RowKit

structure Eqv (s t : St) : Prop where
  e : getE s.E = getE t.E
  m : getM s.M = getM t.M
theorem Eqv.refl (s : St) : Eqv s s := ⟨rfl, rfl⟩
theorem Eqv.symm {s t : St} (h : Eqv s t) : Eqv t s := ⟨h.e.symm, h.m.symm⟩
theorem Eqv.trans {s t u : St} (h : Eqv s t) (k : Eqv t u) : Eqv s u := ⟨h.e.trans k.e, h.m.trans k.m⟩

theorem Vl (st : St) (dst : Option Nat) (v : AV) (ups : List (Nat × AObj)) (k : Nat) : getE (st.put dst v ups).E k = if dst = some k then v else getE st.E k := by
  cases dst with
  | none => simp [St.put]
  | some d =>
    simp only [St.put, UW]
    by_cases e : k = d
    · subst e; simp
    · simp [e, Ne.symm e]
theorem Vm (st : St) (dst : Option Nat) (v : AV) (ups : List (Nat × AObj)) (o : Nat) : getM (st.put dst v ups).M o = (getM ups o).or (getM st.M o) := by
  simp only [St.put, WL]
theorem Eqv.put {s t : St} (h : Eqv s t) (dst : Option Nat) (v : AV) (ups : List (Nat × AObj)) : Eqv (s.put dst v ups) (t.put dst v ups) :=
  ⟨funext fun k => by rw [Vl, Vl, h.e], funext fun o => by rw [Vm, Vm, h.m]⟩

section
variable {P : Program} {A : A0} {C0 : Ctx}

theorem Rel.eqv {s t : St} {a : Act} {w : World} (h : Rel A C0 s a w) (k : Eqv s t) : Rel A C0 t a w := by
  obtain ⟨⟨loc, h1, h2, h3⟩, h4, h5⟩ := h
  rw [k.m] at h1 h2 h3
  exact ⟨⟨loc, h1, h2, fun i => by rw [← k.e]; exact h3 i⟩, h4, h5⟩

/-- One operation's step, with the objects that it comes to. -/
def Stp (P : Program) (s : SOper) (st : St) (fp : List Nat) (st' : St) : Prop :=
  ((s.g = none ∨ ∃ t b, s.g = some (t, b) ∧ getE st.E t = .bool b) ∧ ∃ v ups, QeD P s.op (getE st.E) (getM st.M) v ups ∧ fp = Gm s.op (getE st.E) ups ∧ Eqv (st.put s.dst v ups) st') ∨
  (fp = [] ∧ ∃ t b, s.g = some (t, b) ∧ (getE st.E t = .bool (!b) ∨ getE st.E t = .tup []) ∧ Eqv (st.put s.dst (.tup []) []) st')

/-- What a step comes to: its value, what it writes. -/
theorem Stp.cases {s : SOper} {st : St} {fp : List Nat} {st' : St} (h : Stp P s st fp st') : ∃ v ups, Eqv (st.put s.dst v ups) st' ∧ (∀ o ∈ dom ups, o ∈ fp) ∧ (s.op.cls ≤ 1 → ups = []) ∧
    ∀ s2 : St, (∀ k ∈ s.reads, getE s2.E k = getE st.E k) → (s.op.cls = 0 ∨ ∀ o ∈ fp, getM s2.M o = getM st.M o) → Stp P s s2 fp (s2.put s.dst v ups) := by
  rcases h with ⟨hg, v, ups, hr, rfl, he⟩ | ⟨rfl, t, b, hg, ht, he⟩
  · refine ⟨v, ups, he, fun o ho => List.mem_append_right _ ho, Qlf hr, fun s2 hE hM => .inl ⟨?_, v, ups, ?_, ?_, Eqv.refl _⟩⟩
    · rcases hg with hg | ⟨t, b, hg, ht⟩
      · exact .inl hg
      · exact .inr ⟨t, b, hg, by rw [hE t (by simp [SOper.reads, hg])]; exact ht⟩
    · exact QiQ (Qjr fun k hk => hE k (by simp [SOper.reads, hk])) hM hr
    · unfold Gm
      rw [Qle (Qjr fun k hk => hE k (by simp [SOper.reads, hk]))]
  · refine ⟨.tup [], [], he, fun o ho => by simp [dom] at ho, fun _ => rfl, fun s2 hE hM => .inr ⟨rfl, t, b, hg, ?_, Eqv.refl _⟩⟩
    rw [hE t (by simp [SOper.reads, hg])]; exact ht

theorem Stp.eqv {s : SOper} {st st2 : St} {fp : List Nat} {st' st'2 : St} (h : Stp P s st fp st') (h1 : Eqv st st2) (h2 : Eqv st' st'2) : Stp P s st2 fp st'2 := by
  unfold Stp at *
  rw [← h1.e, ← h1.m]
  rcases h with ⟨hg, v, ups, hr, hf, he⟩ | ⟨hf, t, b, hg, ht, he⟩
  · exact .inl ⟨hg, v, ups, hr, hf, (h1.put _ _ _).symm.trans (he.trans h2)⟩
  · exact .inr ⟨hf, t, b, hg, ht, (h1.put _ _ _).symm.trans (he.trans h2)⟩

/-- Slots Qe8. -/
def Qjs (a b : SOper) : Bool :=
  (match a.dst with | some d => !b.reads.contains d && b.dst != some d | none => true) &&
  (match b.dst with | some d => !a.reads.contains d | none => true)
def Gl (l r : List Nat) : Bool := l.all fun x => !r.contains x
def Qm4 (ca cb : Nat) : Bool := ca == 0 || cb == 0 || (decide (ca ≤ 1) && decide (cb ≤ 1))

/-- Two QfB change places. -/
theorem Stp.swap {a b : SOper} {s s1 s2 : St} {fa fb : List Nat} (ha : Stp P a s fa s1) (hb : Stp P b s1 fb s2) (hap : Qjs a b = true) (hf : Qm4 a.op.cls b.op.cls = true ∨ Gl fa fb = true) :
    ∃ s1', Stp P b s fb s1' ∧ Stp P a s1' fa s2 := by
  obtain ⟨va, ua, ea, da, ca, ra⟩ := ha.cases
  obtain ⟨vb, ub, eb, db, cb, rb⟩ := hb.cases
  simp only [Qjs, Bool.and_eq_true] at hap
  obtain ⟨h1, h2⟩ := hap
  have hab : ∀ k ∈ b.reads, a.dst ≠ some k := by
    intro k hk e
    rw [e] at h1
    simp only [Bool.and_eq_true, Bool.not_eq_true', List.contains_eq_mem, decide_eq_false_iff_not] at h1
    exact h1.1 hk
  have hba : ∀ k ∈ a.reads, b.dst ≠ some k := by
    intro k hk e
    rw [e] at h2
    simp only [Bool.not_eq_true', List.contains_eq_mem, decide_eq_false_iff_not] at h2
    exact h2 hk
  have hdd : ∀ d, a.dst = some d → b.dst ≠ some d := by
    intro d hd e
    rw [hd] at h1
    simp [e] at h1
  have hmem : Gl fa fb = true → ∀ o, o ∈ fa → o ∈ fb → False := by
    intro h o h1 h2
    simp only [Gl, List.all_eq_true, Bool.not_eq_true', List.contains_eq_mem, decide_eq_false_iff_not] at h
    exact h o h1 h2
  have hnot : ∀ {u : List (Nat × AObj)} {o : Nat}, o ∉ dom u → getM u o = none := by
    intro u o ho
    cases h : getM u o with
    | none => rfl
    | some x => exact absurd (by simpa using G7 h) ho
  have hfoot : a.op.cls = 0 ∨ b.op.cls = 0 ∨ (a.op.cls ≤ 1 ∧ b.op.cls ≤ 1) ∨ Gl fa fb = true := by
    rcases hf with hf | hf
    · simp only [Qm4, Bool.or_eq_true, beq_iff_eq, Bool.and_eq_true, decide_eq_true_eq] at hf
      rcases hf with (hf | hf) | hf
      · exact .inl hf
      · exact .inr (.inl hf)
      · exact .inr (.inr (.inl hf))
    · exact .inr (.inr (.inr hf))
  -- b first
  have hb1 : Stp P b s fb (s.put b.dst vb ub) := by
    refine rb s (fun k hk => ?_) ?_
    · rw [← ea.e, Vl, if_neg (hab k hk)]
    · by_cases hb0 : b.op.cls = 0
      · exact .inl hb0
      refine .inr fun o ho => ?_
      rw [← ea.m, Vm]
      have : getM ua o = none := by
        rcases hfoot with h | h | h | h
        · rw [ca (by omega)]; rfl
        · exact absurd h hb0
        · rw [ca h.1]; rfl
        · exact hnot fun hu => hmem h o (da o hu) ho
      rw [this]; rfl
  refine ⟨_, hb1, ?_⟩
  have ha1 := ra (s.put b.dst vb ub) (fun k hk => by rw [Vl, if_neg (hba k hk)]) (by
    by_cases ha0 : a.op.cls = 0
    · exact .inl ha0
    refine .inr fun o ho => ?_
    rw [Vm]
    have : getM ub o = none := by
      rcases hfoot with h | h | h | h
      · exact absurd h ha0
      · rw [cb (by omega)]; rfl
      · rw [cb h.2]; rfl
      · exact hnot fun hu => hmem h o ho (db o hu)
    rw [this]; rfl)
  refine ha1.eqv (Eqv.refl _) (Eqv.trans ⟨?_, ?_⟩ eb)
  · funext k
    rw [Vl, Vl, Vl, ← ea.e, Vl]
    by_cases e1 : a.dst = some k
    · simp [e1, hdd k e1]
    · simp [e1]
  · funext o
    rw [Vm, Vm, Vm, ← ea.m, Vm]
    rcases hfoot with h | h | h | h
    · rw [ca (by omega)]; rfl
    · rw [cb (by omega)]; rfl
    · rw [ca h.1]; rfl
    · cases hu : getM ua o with
      | none => rfl
      | some x =>
        have : getM ub o = none := hnot fun hv => hmem h o (da o (by simpa using G7 hu)) (db o hv)
        rw [this]; rfl

/-- A step of a chain: its number, the operation, its objects. -/
structure Lk where
  i : Nat
  s : SOper
  fp : List Nat
def Chain (P : Program) : List Lk → St → St → Prop
  | [], st, st' => Eqv st st'
  | x :: r, st, st' => ∃ st1, Stp P x.s st x.fp st1 ∧ Chain P r st1 st'

def okPair (x y : Lk) : Prop := Qjs x.s y.s = true ∧ (Qm4 x.s.op.cls y.s.op.cls = true ∨ Gl x.fp y.fp = true)

theorem Chain.bubble {y : Lk} {r : List Lk} : ∀ {l : List Lk} {s s' : St}, Chain P (l ++ y :: r) s s' → (∀ x ∈ l, okPair x y) → ∃ s1, Stp P y.s s y.fp s1 ∧ Chain P (l ++ r) s1 s'
  | [], s, s', h, _ => h
  | x :: l, s, s', h, hp => by
    obtain ⟨s1, h1, h2⟩ := h
    obtain ⟨s2, h3, h4⟩ := Chain.bubble (l := l) h2 fun z hz => hp z (List.mem_cons_of_mem _ hz)
    obtain ⟨s1', h5, h6⟩ := h1.swap h3 (hp x (by simp)).1 (hp x (by simp)).2
    exact ⟨s1', h5, s2, h6, h4⟩

/-- One operation, at whatever Qep. -/
theorem Qlg {st st' : St} {a : Act} {w : World} {ops : Array Oper} {i : Nat} {o : Oper} {s : SOper} {fp : List Nat} (ho : ops[i]? = some o) (hok : okOper P A.n ops o s = true) (hR : Rel A C0 st a w) (hS : Stp P s st fp st') {Q : Exit → Act → World → Prop} {K : Act → World → Prop}
    (hl : ∀ a' w', Rel A C0 st' a' w' → K a' w') : wpOp P ops Q i K a w := by
  have hok' := hok
  simp only [okOper, Bool.and_eq_true] at hok'
  obtain ⟨⟨hd, _⟩, hg⟩ := hok'
  unfold wpOp
  simp only [ho]
  have hy : ∀ {t : Nat} {b : Bool}, s.g = some (t, b) → ∃ j, o.guard = some (j, b) ∧ (∀ b', getE st.E t = .bool b' → yielded ops a.tmps j = some b') ∧ (getE st.E t = .tup [] → yielded ops a.tmps j = none) := by
    intro t b hsg
    rw [hsg] at hg
    split at hg
    · rename_i h; cases h
    · rename_i j want' t' want'' hog h
      cases h
      simp only [Bool.and_eq_true, beq_iff_eq] at hg
      obtain ⟨rfl, hg⟩ := hg
      split at hg
      · rename_i t2 hj
        simp only [Bool.and_eq_true, beq_iff_eq, decide_eq_true_eq] at hg
        obtain ⟨rfl, ht⟩ := hg
        obtain ⟨loc, hI, h0, hE⟩ := hR.ex
        exact ⟨j, hog, fun b' hb => Qez hR.size hE hj ht hb, fun hb => Qca hR.size hE hj ht hb⟩
      · cases hg
    · cases hg
  rcases hS with ⟨hg', v, ups, hr, rfl, he⟩ | ⟨rfl, t, b, hsg, hb, he⟩
  · have : Region.wanted o (yielded ops a.tmps) = true := by
      rcases hg' with hsg | ⟨t, b, hsg, hb⟩
      · rw [hsg] at hg
        split at hg
        · rename_i hog _; simp [Region.wanted, hog]
        · rename_i h; cases h
        · cases hg
      · obtain ⟨j, h1, h2, _⟩ := hy hsg
        simp [Region.wanted, h1, h2 b hb]
    rw [if_pos this]
    refine .inl (Oper.wp_mono ?_ (QfP hok hR (Qm3 hr) Q))
    rintro a' w' ⟨v', ups', ⟨rfl, rfl⟩, h2⟩
    exact hl a' w' (h2.eqv he)
  · obtain ⟨j, h1, h2, h3⟩ := hy hsg
    have : Region.wanted o (yielded ops a.tmps) = false := by
      rcases hb with hb | hb
      · simp [Region.wanted, h1, h2 _ hb]
      · simp [Region.wanted, h1, h3 hb]
    simp only [this]
    obtain ⟨loc, hI, h0, hE⟩ := hR.ex
    exact hl _ w (Rel.eqv (QbB (n := A.n) hR.size hR.defers hd hE hI h0 (Ext.refl _) Qey) he)

/-! ## what must come ahead -/
def befs (o : Oper) : List Nat := (o.after.toList.filter (Region.binds .any)).map (·.on)
def dd : List Nat → List Nat
  | [] => []
  | x :: r => if (dd r).contains x then dd r else x :: dd r
theorem Qlh {k : Nat} : ∀ {l : List Nat}, k ∈ dd l → k ∈ l
  | [], h => h
  | x :: r, h => by
    simp only [dd] at h
    split at h
    · exact List.mem_cons_of_mem _ (Qlh h)
    · rcases List.mem_cons.1 h with rfl | h
      · simp
      · exact List.mem_cons_of_mem _ (Qlh h)
/-- Of each operation: all that come up ahead of it in every order. -/
def ancs : List Oper → List (List Nat) → List (List Nat)
  | [], acc => acc
  | o :: r, acc => ancs r (acc ++ [dd ((befs o).flatMap fun j => j :: acc.getD j [])])

theorem Qge : ∀ (l : List Oper) (acc : List (List Nat)) (i : Nat), i < acc.length → (ancs l acc).getD i [] = acc.getD i []
  | [], acc, i, _ => rfl
  | o :: r, acc, i, h => by
    simp only [ancs]
    rw [Qge r _ i (by simp; omega), List.getD_eq_getElem?_getD, List.getD_eq_getElem?_getD, List.getElem?_append_left h]
theorem Qjt : ∀ (l : List Oper) (acc : List (List Nat)) (i : Nat) (o : Oper), l[i]? = some o → ∀ k ∈ (ancs l acc).getD (acc.length + i) [], ∃ j ∈ befs o, k = j ∨ (j < acc.length + i ∧ k ∈ (ancs l acc).getD j [])
  | [], acc, i, o, h => by simp at h
  | o' :: r, acc, 0, o, h => by
    simp at h; subst h
    intro k hk
    simp only [ancs, Nat.add_zero] at hk
    rw [Qge r _ _ (by simp)] at hk
    simp only [List.getD_eq_getElem?_getD] at hk
    simp at hk
    have hk := Qlh hk
    simp at hk
    obtain ⟨j, hj, h1⟩ := hk
    refine ⟨j, hj, ?_⟩
    rcases h1 with h1 | h1
    · exact .inl h1
    · by_cases hlt : j < acc.length
      · refine .inr ⟨by omega, ?_⟩
        simp only [ancs]
        rw [Qge r _ _ (by simp; omega), List.getD_eq_getElem?_getD, List.getElem?_append_left hlt]
        exact h1
      · rw [List.getElem?_eq_none (by omega)] at h1
        simp at h1
  | o' :: r, acc, i + 1, o, h => by
    have := Qjt r (acc ++ [dd ((befs o').flatMap fun j => j :: acc.getD j [])]) i o (by simpa using h)
    simp only [ancs]
    simp only [List.length_append, List.length_cons, List.length_nil, Nat.zero_add] at this
    rw [show acc.length + (i + 1) = acc.length + 1 + i by omega]
    exact this

def ListedClosed (ops : Array Oper) (listed : Array Bool) : Prop :=
  ∀ j o, ops[j]? = some o → listed.getD j true = true → ∀ k ∈ befs o, listed.getD k false = true

theorem Qju {o : Oper} {k : Nat} : k ∈ befs o ↔ ∃ e ∈ o.after, Region.binds .any e = true ∧ e.on = k := by
  simp [befs, and_assoc]

theorem Qkp {ops : Array Oper} {listed : Array Bool} (hsz : listed.size = ops.size) (hc : ListedClosed ops listed) : ∀ (i : Nat) (o : Oper), ops[i]? = some o → (∀ k ∈ befs o, listed.getD k false = true) → ∀ k ∈ (ancs ops.toList []).getD i [], listed.getD k false = true := by
  intro i
  induction i using Nat.strongRecOn with
  | _ i ih =>
    intro o ho hb k hk
    have := Qjt ops.toList [] i o (by simpa using ho) k (by simpa using hk)
    obtain ⟨j, hj, h1⟩ := this
    have hlj := hb j hj
    rcases h1 with rfl | ⟨h1, h2⟩
    · exact hlj
    · simp only [List.length_nil, Nat.zero_add] at h1
      have hlt : j < listed.size := by
        rcases Nat.lt_or_ge j listed.size with h' | h'
        · exact h'
        · rw [Array.getD_eq_getD_getElem?, Array.getElem?_eq_none h'] at hlj
          cases hlj
      obtain ⟨oj, hoj⟩ : ∃ oj, ops[j]? = some oj := ⟨ops[j]'(by omega), by simp [hsz ▸ hlt]⟩
      refine ih j h1 oj hoj (hc j oj hoj ?_) k h2
      simp [hlt] at hlj ⊢
      exact hlj

/-- The chain's invariant. -/
structure Unl (P : Program) (n : Nat) (ops : Array Oper) (listed : Array Bool) (l : List Lk) : Prop where
  size : listed.size = ops.size
  closed : ListedClosed ops listed
  ex : ∀ i, i < ops.size → listed.getD i true = false → ∃ x ∈ l, x.i = i
  un : ∀ x ∈ l, listed.getD x.i true = false ∧ ∃ o, ops[x.i]? = some o ∧ okOper P n ops o x.s = true ∧ ∀ k ∈ befs o, k < x.i
  pw : l.Pairwise fun x y => x.i < y.i ∧ (okPair x y ∨ x.i ∈ (ancs ops.toList []).getD y.i [])

theorem Qhz {ops : Array Oper} {Q : Exit → Act → World → Prop} {sf : St} (hQ : ∀ st a w, Eqv st sf → Rel A C0 st a w → Q .normal a w) :
    ∀ (fuel : Nat) (listed : Array Bool) (l : List Lk) (st : St) (a : Act) (w : World), l.length = fuel → Unl P A.n ops listed l → Chain P l st sf → Rel A C0 st a w → wpAny P .any ops Q fuel listed a w
  | 0, listed, l, st, a, w, hl, hU, hC, hR => by
    cases l with
    | cons _ _ => simp at hl
    | nil =>
      refine ⟨?_, hQ st a w hC hR⟩
      refine List.eq_nil_iff_forall_not_mem.2 fun i hi => ?_
      obtain ⟨h1, o, ho, _⟩ := mem_ready.1 hi
      obtain ⟨x, hx, _⟩ := hU.ex i (Array.getElem?_eq_some_iff.1 ho).1 h1
      cases hx
  | fuel + 1, listed, l, st, a, w, hl, hU, hC, hR => by
    refine ⟨fun hnil => ?_, fun i hi => ?_⟩
    · -- the first of the chain is ready
      cases l with
      | nil => simp at hl
      | cons x r =>
        exfalso
        obtain ⟨h1, o, ho, hok, hb⟩ := hU.un x (by simp)
        have : x.i ∈ Region.ready .any ops listed := by
          refine mem_ready.2 ⟨h1, o, ho, fun e he hbd => ?_⟩
          have hlt := hb e.on (Qju.2 ⟨e, he, hbd, rfl⟩)
          have hsz : x.i < ops.size := (Array.getElem?_eq_some_iff.1 ho).1
          cases hq : listed.getD e.on false with
          | true => rfl
          | false =>
            exfalso
            have hlt' : e.on < listed.size := by rw [hU.size]; omega
            obtain ⟨y, hy, hyi⟩ := hU.ex e.on (by omega) (by simp [hlt'] at hq ⊢; exact hq)
            rcases List.mem_cons.1 hy with rfl | hy
            · omega
            · have := (List.rel_of_pairwise_cons hU.pw hy).1
              omega
        rw [hnil] at this
        cases this
    · obtain ⟨h1, o, ho, hall⟩ := mem_ready.1 hi
      have hsz : i < ops.size := (Array.getElem?_eq_some_iff.1 ho).1
      obtain ⟨y, hy, rfl⟩ := hU.ex i hsz h1
      obtain ⟨l1, l2, rfl⟩ := List.append_of_mem hy
      obtain ⟨_, o', ho', hok, hb⟩ := hU.un y hy
      have : o' = o := by rw [ho] at ho'; exact (Option.some.inj ho').symm
      subst this
      have hbl : ∀ k ∈ befs o', listed.getD k false = true := fun k hk => by
        obtain ⟨e, he, h2, rfl⟩ := Qju.1 hk
        exact hall e he h2
      have hpw := List.pairwise_append.1 hU.pw
      have hp : ∀ x ∈ l1, okPair x y := by
        intro x hx
        rcases (hpw.2.2 x hx y (by simp)).2 with h | h
        · exact h
        · exfalso
          have h2 := Qkp hU.size hU.closed y.i o' ho' hbl x.i h
          have h3 := (hU.un x (by simp [hx])).1
          obtain ⟨_, ox, hox, _⟩ := hU.un x (by simp [hx])
          have hlt : x.i < listed.size := by rw [hU.size]; exact (Array.getElem?_eq_some_iff.1 hox).1
          simp [hlt] at h2 h3
          rw [h2] at h3; cases h3
      obtain ⟨s1, h2, h3⟩ := hC.bubble hp
      have hlt : y.i < listed.size := by rw [hU.size]; exact hsz
      have hne : ∀ x ∈ l1 ++ l2, x.i ≠ y.i := by
        intro x hx
        rcases List.mem_append.1 hx with hx | hx
        · have := (hpw.2.2 x hx y (by simp)).1; omega
        · have := (List.rel_of_pairwise_cons hpw.2.1 hx).1; omega
      have hsub : (l1 ++ l2).Sublist (l1 ++ y :: l2) := List.Sublist.append (List.Sublist.refl _) (List.sublist_cons_self _ _)
      refine Qlg ho hok hR h2 fun a' w' hR' => Qhz hQ fuel _ (l1 ++ l2) s1 a' w' (by simp at hl ⊢; omega) ⟨by simp [hU.size], ?_, ?_, ?_, hU.pw.sublist hsub⟩ h3 hR'
      · intro j oj hoj hlj k hk
        by_cases e : y.i = j
        · subst e
          have : oj = o' := by rw [ho] at hoj; exact (Option.some.inj hoj).symm
          subst this
          exact getD_set_true (hbl k hk)
        · rw [getD_set_ne true e] at hlj
          exact getD_set_true (hU.closed j oj hoj hlj k hk)
      · intro j hj hlj
        by_cases e : y.i = j
        · subst e
          simp [hlt] at hlj
        · rw [getD_set_ne true e] at hlj
          obtain ⟨x, hx, hxi⟩ := hU.ex j hj hlj
          refine ⟨x, ?_, hxi⟩
          simp only [List.mem_append, List.mem_cons] at hx ⊢
          rcases hx with hx | rfl | hx
          · exact .inl hx
          · exact absurd hxi e
          · exact .inr hx
      · intro x hx
        obtain ⟨h4, h5⟩ := hU.un x (hsub.subset hx)
        exact ⟨by rw [getD_set_ne true (Ne.symm (hne x hx))]; exact h4, h5⟩
end
end Go.Ve

namespace Go.Ve
set_option linter.unusedSimpArgs false
set_option linter.unusedVariables false
open Go.RowKit

/-- A region that draws its order: the operations in their places; what 'ck' names is to be Qe8. -/
def nxt : List (Option (List Nat)) → List Nat → List Nat
  | some _ :: _, fp => fp
  | _, _ => []
def trk : List (Option (List Nat)) → List (List Nat) → List Nat → Prop
  | some js :: _, tr, fp => (js.all fun d => Gl (tr.getD d []) fp) = true
  | _, _, _ => True
def drK (ck : List (Option (List Nat))) (tr : List (List Nat)) (s : SOper) (st : St) (K : List (List Nat) → St → Prop) (v : AV) (ups : List (Nat × AObj)) : Prop :=
  trk ck tr (Gm s.op (getE st.E) ups) ∧ K (nxt ck (Gm s.op (getE st.E) ups) :: tr) (st.put s.dst v ups)
def Qdd {P : Program} (X : Env P) : List SOper → List (Option (List Nat)) → (St → Prop) → List (List Nat) → St → Prop
  | [], _, K, _, st => K st
  | s :: rest, ck, K, tr, st =>
    match s.g with
    | none => XR X s.op st (drK ck tr s st (Qdd X rest ck.tail K))
    | some (t, want) =>
      match getE st.E t with
      | .bool b => (b = want → XR X s.op (st.lit t want) (drK ck tr s (st.lit t want) (Qdd X rest ck.tail K))) ∧
        (b = !want → Qdd X rest ck.tail K ([] :: tr) ((st.lit t (!want)).put s.dst (.tup []) []))
      | .tup [] => Qdd X rest ck.tail K ([] :: tr) (st.put s.dst (.tup []) [])
      | _ => False

def Qli (ops : Array Oper) (ss : List SOper) (ck : List (Option (List Nat))) : Bool :=
  let tbl := ancs ops.toList []
  ss.length == ops.size && (List.range ops.size).all fun i => match ops[i]?, ss[i]? with
    | some o, some s => (befs o).all (fun k => decide (k < i)) && (List.range i).all fun j => (tbl.getD i []).contains j || (match ss[j]? with
      | some sj => Qjs sj s && (Qm4 sj.op.cls s.op.cls || ((match ck[j]? with | some (some _) => true | _ => false) && (match ck[i]? with | some (some js) => js.contains (i - 1 - j) | _ => false)))
      | none => false)
    | _, _ => false

section
variable {P : Program} {X : Env P} {A : A0} {C0 : Ctx}

theorem Qlj {ck : List (Option (List Nat))} {tr : List (List Nat)} : trk ck tr [] := by
  cases ck with
  | nil => trivial
  | cons c ck =>
    cases c with
    | none => trivial
    | some js =>
      simp only [trk, List.all_eq_true]
      intro d hd
      unfold Gl
      simp
theorem Qlk {st : St} {t : Nat} {b : Bool} : getE (st.lit t b).E t = .bool b := by simp [St.lit, UW]
theorem Qll {st : St} {t : Nat} {b : Bool} (hb : getE st.E t = .bool b) : Eqv (st.lit t b) st := by
  refine ⟨funext fun k => ?_, rfl⟩
  simp only [St.lit, UW]
  split
  · rename_i e; subst e; exact hb.symm
  · rfl
theorem QfR {K : St → Prop} : ∀ (ss : List SOper) (ck : List (Option (List Nat))) (k : Nat) (st : St) (tr : List (List Nat)), Qdd X ss ck K tr st →
    ∃ l st', Chain P l st st' ∧ K st' ∧ l.length = ss.length ∧ (∀ i x, l[i]? = some x → x.i = k + i ∧ ss[i]? = some x.s) ∧
      (∀ i x js d j y ks, l[i]? = some x → ck[i]? = some (some js) → d ∈ js → j + d + 1 = i → l[j]? = some y → ck[j]? = some (some ks) → Gl y.fp x.fp = true) ∧
      (∀ i x js d e, l[i]? = some x → ck[i]? = some (some js) → d ∈ js → d = i + e → Gl (tr.getD e []) x.fp = true)
  | [], ck, k, st, tr, h => ⟨[], st, Eqv.refl _, h, rfl, fun i x h => by simp at h, fun i x js d j y ks h => by simp at h, fun i x js d e h => by simp at h⟩
  | s :: rest, ck, k, st, tr, h => by
    have step : ∀ (fp : List Nat) (st1 : St) (t0 : List Nat), Stp P s st fp st1 → trk ck tr fp → (∀ js, ck[0]? = some (some js) → t0 = fp ∨ fp = [] ) → Qdd X rest ck.tail K (t0 :: tr) st1 →
        ∃ l st', Chain P l st st' ∧ K st' ∧ l.length = (s :: rest).length ∧ (∀ i x, l[i]? = some x → x.i = k + i ∧ (s :: rest)[i]? = some x.s) ∧
        (∀ i x js d j y ks, l[i]? = some x → ck[i]? = some (some js) → d ∈ js → j + d + 1 = i → l[j]? = some y → ck[j]? = some (some ks) → Gl y.fp x.fp = true) ∧
        (∀ i x js d e, l[i]? = some x → ck[i]? = some (some js) → d ∈ js → d = i + e → Gl (tr.getD e []) x.fp = true) := by
      intro fp st1 t0 hs htr ht0 h
      obtain ⟨l, st', h1, h2, h3, h4, h5, h6⟩ := QfR rest ck.tail (k + 1) st1 (t0 :: tr) h
      have tl : ∀ i, ck[i + 1]? = ck.tail[i]? := fun i => by cases ck <;> simp
      refine ⟨⟨k, s, fp⟩ :: l, st', ⟨st1, hs, h1⟩, h2, by simp [h3], fun i x hx => ?_, fun i x js d j y ks hx hc hd hj hy hcj => ?_, fun i x js d e hx hc hd he => ?_⟩
      · cases i with
        | zero => simp at hx; subst hx; simp
        | succ i =>
          obtain ⟨h7, h8⟩ := h4 i x (by simpa using hx)
          exact ⟨by omega, by simpa using h8⟩
      · cases i with
        | zero => omega
        | succ i =>
          rw [tl] at hc
          simp only [List.getElem?_cons_succ] at hx
          cases j with
          | zero =>
            simp at hy; subst hy
            have := h6 i x js d 0 hx hc hd (by omega)
            rcases ht0 ks hcj with h | h
            · subst h; simpa using this
            · subst h; rfl
          | succ j =>
            rw [tl] at hcj
            exact h5 i x js d j y ks hx hc hd (by omega) (by simpa using hy) hcj
      · cases i with
        | zero =>
          simp at hx; subst hx
          have : e = d := by omega
          subst this
          cases ck with
          | nil => simp at hc
          | cons c ck =>
            simp at hc; subst hc
            simp only [trk, List.all_eq_true] at htr
            exact htr e hd
        | succ i =>
          rw [tl] at hc
          simp only [List.getElem?_cons_succ] at hx
          have := h6 i x js d (e + 1) hx hc hd (by omega)
          simpa using this
    simp only [Qdd] at h
    split at h
    · rename_i hg
      obtain ⟨v, ups, h1, h2, h3⟩ := Qd3 h
      refine step _ _ _ (.inl ⟨.inl hg, v, ups, h1, rfl, Eqv.refl _⟩) h2 (fun js hc => ?_) h3
      cases ck with
      | nil => simp at hc
      | cons c ck => simp at hc; subst hc; exact .inl rfl
    · rename_i t want hg
      split at h
      · rename_i b hb
        by_cases e : b = want
        · subst e
          obtain ⟨v, ups, h1, h2, h3⟩ := Qd3 (h.1 rfl)
          refine step _ _ _ (Stp.eqv (.inl ⟨.inr ⟨t, b, hg, Qlk⟩, v, ups, h1, rfl, Eqv.refl _⟩) (Qll hb) (Eqv.refl _)) h2 (fun js hc => ?_) h3
          cases ck with
          | nil => simp at hc
          | cons c ck => simp at hc; subst hc; exact .inl rfl
        · have e' : b = !want := by cases b <;> cases want <;> simp_all
          refine step _ _ _ (Stp.eqv (.inr ⟨rfl, t, want, hg, .inl Qlk, Eqv.refl _⟩) (Qll (e' ▸ hb)) (Eqv.refl _)) Qlj (fun js hc => .inr rfl) (h.2 e')
      · rename_i hb
        exact step _ _ _ (.inr ⟨rfl, t, want, hg, .inr hb, Eqv.refl _⟩) Qlj (fun js hc => .inr rfl) h
      · exact h.elim

theorem Rel.drew {st : St} {a : Act} {w : World} (h : Rel A C0 st a w) : Rel A C0 st a { w with drawn := w.drawn + 1 } := by
  obtain ⟨⟨loc, h1, h2, h3⟩, h4, h5⟩ := h
  obtain ⟨h6, h7⟩ := h1.grow (w' := { w with drawn := w.drawn + 1 }) (Grow.drew w none)
  exact ⟨⟨loc, h6, h2.trans h7, fun k => (h3 k).mono h7⟩, h4, h5⟩

theorem QhA : ∀ {n : Nat} {ops : Array Oper} {os : List Oper} {ss : List SOper}, QeA P n ops os ss = true → ∀ {i : Nat} {o : Oper} {s : SOper}, os[i]? = some o → ss[i]? = some s → okOper P n ops o s = true
  | n, ops, [], ss, h, i, o, s, h1, h2 => by simp at h1
  | n, ops, o' :: os, [], h, i, o, s, h1, h2 => by simp at h2
  | n, ops, o' :: os, s' :: ss, h, i, o, s, h1, h2 => by
    simp only [QeA, Bool.and_eq_true] at h
    cases i with
    | zero => simp at h1 h2; subst h1; subst h2; exact h.1
    | succ i => exact QhA h.2 (by simpa using h1) (by simpa using h2)

theorem Qkq (hm : P.follows .mixedOrders = true) {id : Nat} {ops : Array Oper} {ss : List SOper} {ck : List (Option (List Nat))} (hok : QeA P A.n ops ops.toList ss = true) (hd : Qli ops ss ck = true) {Q : Exit → Act → World → Prop} {K : St → Prop}
    (hQ : ∀ st a w, Rel A C0 st a w → K st → Q .normal a w) {st : St} {a : Act} {w : World} (hR : Rel A C0 st a w) (h : Qdd X ss ck K [] st) : (Code.region id ops true).wp P Q a w := by
  refine wp_region_any hm ?_
  obtain ⟨l, sf, h1, h2, h3, h4, h5, _⟩ := QfR ss ck 0 st [] h
  simp only [Qli, Bool.and_eq_true, beq_iff_eq, List.all_eq_true, List.mem_range] at hd
  obtain ⟨hlen, hd⟩ := hd
  refine Qhz (sf := sf) (fun st a w he hR => hQ sf a w (hR.eqv he) h2) ops.size _ l st a _ (by omega) ⟨by simp, ?_, ?_, ?_, ?_⟩ h1 hR.drew
  · intro j o hj hl
    exfalso
    have : j < ops.size := (Array.getElem?_eq_some_iff.1 hj).1
    simp [this] at hl
  · intro i hi _
    have hlt : i < l.length := by omega
    exact ⟨l[i], List.getElem_mem hlt, by have := (h4 i l[i] (by simp [hlt])).1; omega⟩
  · intro x hx
    obtain ⟨i, hi, rfl⟩ := List.mem_iff_getElem.1 hx
    obtain ⟨h6, h7⟩ := h4 i l[i] (by simp [hi])
    have hio : i < ops.size := by omega
    have e : l[i].i = i := by omega
    rw [e]
    refine ⟨by simp [hio], ops[i], by simp [hio], QhA hok (by simp [hio]) h7, ?_⟩
    have := hd i hio
    rw [show ops[i]? = some ops[i] by simp [hio], h7] at this
    simp only [Bool.and_eq_true, List.all_eq_true, decide_eq_true_eq] at this
    exact this.1
  · rw [List.pairwise_iff_getElem]
    intro j i hj hi hji
    obtain ⟨h6, h7⟩ := h4 i l[i] (by simp [hi])
    obtain ⟨h8, h9⟩ := h4 j l[j] (by simp [hj])
    have hio : i < ops.size := by omega
    refine ⟨by omega, ?_⟩
    have := hd i hio
    rw [show ops[i]? = some ops[i] by simp [hio], h7] at this
    simp only [Bool.and_eq_true, List.all_eq_true, decide_eq_true_eq, List.mem_range] at this
    have := this.2 j hji
    rw [h9] at this
    simp only [Bool.or_eq_true, Bool.and_eq_true] at this
    rcases this with h | ⟨h10, h11⟩
    · refine .inr ?_
      rw [h6, h8]
      simpa using h
    · refine .inl ⟨h10, ?_⟩
      rcases h11 with h | ⟨h12, h13⟩
      · exact .inl h
      · refine .inr ?_
        split at h12
        · rename_i ks hks
          split at h13
          · rename_i js hjs
            exact h5 i l[i] js (i - 1 - j) j l[j] ks (by simp [hi]) hjs (by simpa using h13) (by omega) (by simp [hj]) hks
          · cases h13
        · cases h12
end
end Go.Ve

namespace Go.Ve
set_option linter.unusedSimpArgs false
set_option linter.unusedVariables false
open Go.RowKit

/-! ## objects under other numbers -/
mutual
def ren (s : Nat → Nat) : AV → AV
  | .agg ls => .agg (Ui s ls)
  | .tup ls => .tup (Ui s ls)
  | .own o ver lo hi => .own (s o) ver lo hi
  | .ptr o off => .ptr (s o) off
  | .elt o ver i off => .elt (s o) ver i off
  | .fn f a b => .fn f (Ui s a) (Ui s b)
  | .int k n => .int k n
  | .bool b => .bool b
  | .str b => .str b
  | .sl t sz xs => .sl t sz xs
  | .pp t ls => .pp t ls
  | .junk => .junk
def Ui (s : Nat → Nat) : List AV → List AV
  | [] => []
  | x :: xs => ren s x :: Ui s xs
end
def renO (s : Nat → Nat) : AObj → AObj
  | .box ls => .box (Ui s ls)
  | .arr e ver sz xs => .arr e ver sz (if e < 1000000 then xs else xs.map (Ui s))
  | .gone => .gone
  | .mp kk es => .mp kk (if kk < 1000 then es else es.map fun e => (e.1, ren s e.2))
def ZB (s : Nat → Nat) : List (Nat × AObj) → List (Nat × AObj)
  | [] => []
  | (k, x) :: r => (s k, renO s x) :: ZB s r

section
variable {s : Nat → Nat} (hs : ∀ n, s (s n) = n)
include hs
mutual
theorem Qlm : ∀ x : AV, ren s (ren s x) = x
  | .agg ls => by simp only [ren, ZY ls]
  | .tup ls => by simp only [ren, ZY ls]
  | .own o ver lo hi => by simp only [ren, hs]
  | .ptr o off => by simp only [ren, hs]
  | .elt o ver i off => by simp only [ren, hs]
  | .fn f a b => by simp only [ren, ZY a, ZY b]
  | .int .. => rfl
  | .bool .. => rfl
  | .str .. => rfl
  | .sl .. => rfl
  | .pp .. => rfl
  | .junk => rfl
theorem ZY : ∀ x : List AV, Ui s (Ui s x) = x
  | [] => rfl
  | x :: xs => by simp only [Ui, Qlm x, ZY xs]
end
theorem QhB (x : AObj) : renO s (renO s x) = x := by
  cases x with
  | box ls => simp only [renO, ZY hs]
  | gone => rfl
  | arr e ver sz xs =>
    simp only [renO]
    split
    · rfl
    · rw [List.map_map, show (Ui s ∘ Ui s) = id from funext fun x => ZY hs x, List.map_id]
  | mp kk es =>
    simp only [renO]
    split
    · rfl
    · rw [List.map_map, show ((fun e : AV × AV => (e.1, ren s e.2)) ∘ fun e : AV × AV => (e.1, ren s e.2)) = id from funext fun x => by simp [Qlm hs], List.map_id]
theorem ZZ (l : List (Nat × AObj)) (o : Nat) : getM (ZB s l) o = (getM l (s o)).map (renO s) := by
  induction l with
  | nil => rfl
  | cons p l ih =>
    obtain ⟨k, x⟩ := p
    simp only [ZB, getM]
    by_cases e : o = s k
    · subst e; simp [hs]
    · have : ¬ s o = k := fun h => e (by rw [← h, hs])
      simp only [if_neg e, if_neg this, ih]
end

theorem Qjv {s : Nat → Nat} : ∀ l : List AV, Ui s l = l.map (ren s)
  | [] => rfl
  | x :: xs => by simp only [Ui, Qjv xs, List.map_cons]
theorem Vn {s : Nat → Nat} {e : Nat} {xs : List (List AV)} : (if e < 1000000 then xs else xs.map (Ui s)).length = xs.length := by
  split <;> simp
theorem ownRel.ren (s : Nat → Nat) {obj : AObj} {hv v : Value} {ver lo hi : Nat} (h : ownRel obj hv ver lo hi v) : ownRel (renO s obj) hv ver lo hi v := by
  cases obj <;> simpa only [ownRel, renO, Vn] using h
theorem eltRel.ren (s : Nat → Nat) {obj : AObj} {hv v : Value} {ver i off : Nat} (h : eltRel obj hv ver i off v) : eltRel (renO s obj) hv ver i off v := by
  cases obj <;> simpa only [eltRel, renO, Vn] using h
theorem Qm5 {s : Nat → Nat} {x : AV} (h : Y8 x = true) : Y8 (ren s x) = true := by cases x <;> first | exact h | rfl
theorem QhC {s : Nat → Nat} : ∀ {l : List AV}, l.all Y8 = true → (Ui s l).all Y8 = true
  | [], _ => rfl
  | x :: xs, h => by
    simp only [List.all_cons, Bool.and_eq_true, Ui] at h ⊢
    exact ⟨Qm5 h.1, QhC h.2⟩
structure RenC (s : Nat → Nat) (C C' : Ctx) : Prop where
  io : C'.io = C.io
  w : C'.w = C.w
  loc : ∀ o, C'.loc o = C.loc (s o)
  M : ∀ o, C'.M o = (C.M (s o)).map (renO s)

section
variable {s : Nat → Nat} (hs : ∀ n, s (s n) = n) {C C' : Ctx} (h : RenC s C C')
include hs h
theorem RenC.own (b : Nat) : C'.ownB b ↔ C.ownB b := by
  constructor
  · rintro ⟨o, v, h1, h2⟩
    exact ⟨s o, v, by rw [← h.loc]; exact h1, h2⟩
  · rintro ⟨o, v, h1, h2⟩
    exact ⟨s o, v, by rw [h.loc, hs]; exact h1, h2⟩
theorem RenC.ok (t b : Nat) : C'.ok t b ↔ C.ok t b := by
  simp only [Ctx.ok, h.io, h.w, RenC.own hs h b]
theorem RenC.okx : Okx C C' := ⟨fun t b hb => ⟨(RenC.ok hs h t b).2 hb, by rw [h.w]⟩⟩
mutual
theorem RelV.ren : ∀ (x : AV) (v : Value), RelV C x v → RelV C' (ren s x) v
  | .int .., v, hv => by simpa only [RelV, Go.Ve.ren] using hv
  | .bool .., v, hv => by simpa only [RelV, Go.Ve.ren] using hv
  | .str .., v, hv => by simpa only [RelV, Go.Ve.ren] using hv
  | .agg ls, v, hv => by
    simp only [RelV, Go.Ve.ren] at hv ⊢; obtain ⟨cs, rfl, h1⟩ := hv; exact ⟨cs, rfl, RelL.ren ls cs h1⟩
  | .tup ls, v, hv => by
    simp only [RelV, Go.Ve.ren] at hv ⊢; obtain ⟨cs, rfl, h1⟩ := hv; exact ⟨cs, rfl, RelL.ren ls cs h1⟩
  | .sl t sz xs, v, hv => RelV.norefs (RenC.okx hs h) _ _ rfl hv
  | .pp t ls, v, hv => RelV.norefs (RenC.okx hs h) _ _ rfl hv
  | .own o ver lo hi, v, hv => by
    simp only [RelV, Go.Ve.ren] at hv ⊢
    obtain ⟨h0, obj, hv0, h1, h2, h3⟩ := hv
    refine ⟨h0, renO s obj, hv0, by rw [h.M, hs, h1]; rfl, by rw [h.loc, hs]; exact h2, ?_⟩
    exact ownRel.ren s h3
  | .ptr o off, v, hv => by
    simp only [RelV, Go.Ve.ren] at hv ⊢
    obtain ⟨h0, obj, hv0, h1, h2, h3⟩ := hv
    refine ⟨h0, renO s obj, hv0, by rw [h.M, hs, h1]; rfl, by rw [h.loc, hs]; exact h2, ?_⟩
    cases obj <;> simpa only [ptrRel, renO] using h3
  | .elt o ver i off, v, hv => by
    simp only [RelV, Go.Ve.ren] at hv ⊢
    obtain ⟨h0, obj, hv0, h1, h2, h3⟩ := hv
    refine ⟨h0, renO s obj, hv0, by rw [h.M, hs, h1]; rfl, by rw [h.loc, hs]; exact h2, ?_⟩
    exact eltRel.ren s h3
  | .fn f a b, v, hv => by
    simp only [RelV, Go.Ve.ren] at hv ⊢
    obtain ⟨us, bs, h1, h2, h3⟩ := hv
    exact ⟨us, bs, h1, RelL.ren a us h2, RelL.ren b bs h3⟩
  | .junk, _, _ => by simp only [RelV, Go.Ve.ren]
theorem RelL.ren : ∀ (x : List AV) (v : List Value), RelL C x v → RelL C' (Ui s x) v
  | [], v, hv => by simpa only [RelL, Ui] using hv
  | x :: xs, v, hv => by
    simp only [RelL, Ui] at hv ⊢
    obtain ⟨c, cs, rfl, h1, h2⟩ := hv
    exact ⟨c, cs, rfl, RelV.ren x c h1, RelL.ren xs cs h2⟩
end
theorem RelLL.ren : ∀ {x : List (List AV)} {v : List (List Value)}, RelLL C x v → RelLL C' (x.map (Ui s)) v
  | [], v, hv => by simpa only [RelLL, List.map_nil] using hv
  | x :: xs, v, hv => by
    simp only [RelLL, List.map_cons] at hv ⊢
    obtain ⟨c, cs, rfl, h1, h2⟩ := hv
    exact ⟨c, cs, rfl, RelL.ren hs h x c h1, RelLL.ren h2⟩
theorem objAt.ren {hv : Value} {obj : AObj} (ho : objAt C hv obj) : objAt C' hv (renO s obj) := by
  cases obj with
  | box ls =>
    obtain ⟨b, cs, ty, rfl, h1, h2, h3⟩ := ho
    refine ⟨b, cs, ty, rfl, by rw [h.w]; exact h1, RelL.ren hs h ls cs h2, ?_⟩
    clear h1 h2
    induction ls with
    | nil => rfl
    | cons x xs ih =>
      simp only [List.all_cons, Bool.and_eq_true, Ui] at h3 ⊢
      refine ⟨?_, ih h3.2⟩
      cases x <;> first | exact h3.1 | rfl
  | arr e ver sz xs =>
    obtain ⟨css, h1, h2, h3, h4⟩ := ho
    simp only [renO]
    split
    · rename_i he
      exact ⟨css, RelLL.norefs (RenC.okx hs h) _ _ (fun r hr => flatOk.noref (by have := h4 r hr; rwa [rowB.flat he] at this)) h1, h2, by rw [h.w]; exact h3, h4⟩
    · rename_i he
      refine ⟨css, RelLL.ren hs h h1, h2, by rw [h.w, List.length_map]; exact h3, fun r hr => ?_⟩
      obtain ⟨r0, hr0, rfl⟩ := List.mem_map.1 hr
      have := h4 r0 hr0
      unfold rowB at this ⊢
      simp only [if_neg he] at this ⊢
      exact QhC this
  | gone => exact ho
  | mp kk es =>
    obtain ⟨b, ents, clock, rfl, h1, h2, h3, h4, h5⟩ := ho
    simp only [renO]
    split
    · rename_i hk
      exact ⟨b, ents, clock, rfl, by rw [h.w]; exact h1, RelL.norefs (RenC.okx hs h) _ _ (Qb2 h4) h2, RelL.norefs (RenC.okx hs h) _ _ (Qen hk h4) h3, h4, h5⟩
    · rename_i hk
      refine ⟨b, ents, clock, rfl, by rw [h.w]; exact h1, ?_, ?_, fun e he => ?_, ?_⟩
      · rw [List.map_map]; exact RelL.norefs (RenC.okx hs h) _ _ (Qb2 h4) h2
      · rw [List.map_map]
        have := RelL.ren hs h _ _ h3
        rw [Qjv, List.map_map] at this
        exact this
      · obtain ⟨e0, he0, rfl⟩ := List.mem_map.1 he
        exact ⟨(h4 e0 he0).1, .inl (by omega)⟩
      · rw [List.pairwise_map]; exact h5
theorem WfM.ren (hw : WfM C) : WfM C' := by
  refine ⟨fun o obj ho => ?_, fun o hv hl => ?_, fun o o' hv hv' b h1 h2 h3 h4 => ?_, globOk.okx (RenC.okx hs h) hw.glob⟩
  · rw [h.M] at ho
    cases hm : C.M (s o) with
    | none => rw [hm] at ho; cases ho
    | some x =>
      rw [hm] at ho; cases ho
      obtain ⟨hv, h1, h2⟩ := hw.obj _ _ hm
      exact ⟨hv, by rw [h.loc]; exact h1, objAt.ren hs h h2⟩
  · rw [h.loc] at hl
    obtain ⟨obj, ho⟩ := hw.dom _ _ hl
    exact ⟨renO s obj, by rw [h.M, ho]; rfl⟩
  · rw [h.loc] at h1 h2
    have := hw.inj _ _ _ _ b h1 h2 h3 h4
    have := congrArg s this
    rwa [hs, hs] at this
end

theorem objLe.ren (s : Nat → Nat) {a b : AObj} {x y : Value} (h : objLe (renO s a) x b y) : objLe a x (renO s b) y := by
  cases a <;> cases b <;> simpa only [objLe, renO, Vn] using h

theorem objLe.renR (s : Nat → Nat) {a b : AObj} {x y : Value} (h : objLe a x b y) : objLe a x (renO s b) y := by
  cases a <;> cases b <;> simpa only [objLe, renO, Vn] using h
/-- A contract, its objects under other numbers. -/
theorem Contract.ren {P : Program} {f : FuncId} {args : List AV} {pre : List (Nat × AObj)} {r : AV} {post : List (Nat × AObj)} (s : Nat → Nat) (hs : ∀ n, s (s n) = n) (hC : Contract P f args pre r post) :
    Contract P f (Ui s args) (ZB s pre) (ren s r) (ZB s post) := by
  intro io w loc vs hio hwf hargs
  have hr1 : RenC s ⟨io, w, loc, getM (ZB s pre)⟩ ⟨io, w, fun o => loc (s o), getM pre⟩ := by
    refine ⟨rfl, rfl, fun _ => rfl, fun o => ?_⟩
    show getM pre o = (getM (ZB s pre) (s o)).map (renO s)
    rw [ZZ hs, hs]
    cases getM pre o with
    | none => rfl
    | some x => simp only [Option.map_some, QhB hs]
  have ha := RelL.ren hs hr1 _ _ hargs
  rw [ZY hs] at ha
  refine (hC io w _ vs hio (WfM.ren hs hr1 hwf) ha).mono ?_
  rintro e w' ⟨v, loc', rfl, hwf', hX, hv, hev, hnew⟩
  have hr2 : RenC s ⟨io, w', loc', getM post⟩ ⟨io, w', fun o => loc' (s o), getM (ZB s post)⟩ :=
    ⟨rfl, rfl, fun _ => rfl, fun o => ZZ hs post o⟩
  refine ⟨v, fun o => loc' (s o), rfl, WfM.ren hs hr2 hwf', ⟨fun t b hb => ?_, fun o obj hv h1 h2 => ?_⟩, RelV.ren hs hr2 _ _ hv, ?_, fun o hv b h1 h2 => ?_⟩
  · obtain ⟨h1, h2⟩ := hX.ok t b ((RenC.ok hs hr1 t b).2 hb)
    exact ⟨(RenC.ok hs hr2 t b).2 h1, h2⟩
  · have h1 : getM (ZB s pre) o = some obj := h1
    have h2 : loc o = some hv := h2
    rw [ZZ hs] at h1
    cases hm : getM pre (s o) with
    | none => rw [hm] at h1; cases h1
    | some x =>
      rw [hm] at h1; cases h1
      obtain ⟨obj', hv', h3, h4, h5⟩ := hX.refs (s o) x hv hm (by show loc (s (s o)) = _; rw [hs]; exact h2)
      have h3 : getM post (s o) = some obj' := h3
      refine ⟨renO s obj', hv', ?_, h4, ?_⟩
      · show getM (ZB s post) o = _
        rw [ZZ hs, h3]; rfl
      · refine objLe.ren s ?_
        rw [QhB hs]; exact h5
  · refine ⟨hev.os, hev.tape, hev.output, hev.size, fun b hb ho => hev.block b hb fun h => ho ((RenC.own hs hr1 b).1 h)⟩
  · obtain h3 | ⟨hv0, h3, h4⟩ := hnew (s o) hv b h1 h2
    · exact .inl h3
    · exact .inr ⟨hv0, by have h3 : loc (s (s o)) = _ := h3; rwa [hs] at h3, h4⟩

/-- Two numbers change places. -/
def swp (a b n : Nat) : Nat := if n = a then b else if n = b then a else n
theorem GV (a b n : Nat) : swp a b (swp a b n) = n := by
  unfold swp; split <;> (try split) <;> (try split) <;> simp_all
end Go.Ve

namespace Go.Ve
set_option linter.unusedSimpArgs false
set_option linter.unusedVariables false
open Go.RowKit

inductive Gh where
  | frzE (k : Nat)
  | frzB (o off : Nat)
  | nilE (k o e : Nat)
  | nilB (b off o e : Nat)
  | wk
  deriving Inhabited

inductive SCode where
  | skip
  | rg (ops : List SOper) (outs : List Nat)
  | rgd (ops : List SOper) (outs : List Nat) (ck : List (Option (List Nat)))
  | seq (a b : SCode)
  | cond (c : SX) (a b : SCode)
  | block (id : Nat) (c : SCode)
  | loop (c : SCode)
  | exit (id : Nat)
  | ret
  | gh (g : Gh) (c : SCode)
  | scope (c : SCode)
  | label (id : Nat)
  deriving Inhabited

inductive XT where
  | normal
  | exit (id : Nat)
  | ret

def trim (outs : List Nat) (st : St) : St := ⟨outs.map fun k => (k, getE st.E k), st.M⟩

/-- Weaker: fewer values, fewer objects. -/
def wkE (E : List (Nat × AV)) : List (Nat × AV) → Prop
  | [] => True
  | (k, v) :: r => (v = .junk ∨ getE E k = v) ∧ wkE E r
def wkM (M : List (Nat × AObj)) : List (Nat × AObj) → Prop
  | [] => True
  | (k, v) :: r => getM M k = some v ∧ wkM M r
def closedB (st : St) : Bool := (st.E.all fun p => Qx (dom st.M) p.2) && st.M.all fun p => Qb (dom st.M) p.2
def keepB (M M' : List (Nat × AObj)) : Bool := (dom M).all fun o => decide (100 ≤ o % 1000) || (dom M').contains o
structure Wk (st st' : St) : Prop where
  e : wkE st.E st'.E
  m : wkM st.M st'.M
  cl : closedB st' = true
  kp : keepB st.M st'.M = true

def Qkr (s : Nat → Nat) : List (Nat × AV) → List (Nat × AV)
  | [] => []
  | (k, x) :: r => (k, ren s x) :: Qkr s r
theorem Qln {s : Nat → Nat} (E : List (Nat × AV)) (k : Nat) : getE (Qkr s E) k = ren s (getE E k) := by
  induction E with
  | nil => rfl
  | cons p E ih =>
    obtain ⟨j, x⟩ := p
    simp only [Qkr, getE]
    split
    · rfl
    · exact ih
def St.ren (st : St) (s : Nat → Nat) : St := ⟨Qkr s st.E, ZB s st.M⟩
def KH (g : Gh) (st : St) (K : St → Prop) : Prop :=
  match g with
  | .frzE k => match getE st.E k with
    | .own o ver lo hi => match getM st.M o with
      | some (.arr e cv sz xs) => 100 ≤ o % 1000 ∧ ver = cv ∧ lo = 0 ∧ e < 1000000 ∧ K ⟨Qhb st.E k (.sl 0 sz (xs.take hi)), Xx st.M o .gone⟩
      | _ => K st
    | _ => K st
  | .frzB b off => match getM st.M b with
    | some (.box ls) => match ls.getD off .junk with
      | .own o ver lo hi => match getM st.M o with
        | some (.arr e cv sz xs) => 100 ≤ o % 1000 ∧ ver = cv ∧ lo = 0 ∧ e < 1000000 ∧ off < ls.length ∧ o ≠ b ∧ K ⟨st.E, Xx (Xx st.M o .gone) b (.box (ls.set off (.sl 0 sz (xs.take hi))))⟩
        | _ => K st
      | _ => K st
    | _ => K st

  | .nilE k o e => match getE st.E k with
    | .sl 98 sz [] => getM st.M o = none ∧ K ⟨Qhb st.E k (.own o 0 0 0), Xx st.M o (.arr e 0 sz [])⟩
    | _ => K st
  | .nilB b off o e => match getM st.M b with
    | some (.box ls) => match ls.getD off .junk with
      | .sl 98 sz [] => getM st.M o = none ∧ off < ls.length ∧ o ≠ b ∧ K ⟨st.E, Xx (Xx st.M o (.arr e 0 sz [])) b (.box (ls.set off (.own o 0 0 0)))⟩
      | _ => K st
    | _ => K st
  | .wk => ∃ (s : Nat → Nat) (st' : St), (∀ o, s (s o) = o) ∧ (∀ o, o % 1000 < 100 → s o = o) ∧ Wk (st.ren s) st' ∧ K st'

def Qcc (next : St → Prop) (Q : XT → St → Prop) : XT → St → Prop
  | .normal, st => next st
  | e, st => Q e st
def UZ (id : Nat) (Q : XT → St → Prop) : XT → St → Prop
  | .exit id', st => if id' = id then Q .normal st else Q (.exit id') st
  | e, st => Q e st

def QeE (outs : List Nat) (Q : XT → St → Prop) (st : St) : Prop := Q .normal (trim outs st)
def QoP (I : Nat → St → Prop) (m : Nat) (st : St) : Prop := ∃ m' st', Wk st st' ∧ I m' st' ∧ m' < m
def QeF (body : (XT → St → Prop) → St → Prop) (Q : XT → St → Prop) (st : St) : Prop :=
  ∃ I : Nat → St → Prop, (∃ m0 st0, Wk st st0 ∧ I m0 st0) ∧ ∀ m st, I m st → body (Qcc (QoP I m) Q) st

/-- What must hold ahead of a code, so that Q holds behind it. -/
def SCode.wp {P : Program} (X : Env P) : SCode → (XT → St → Prop) → St → Prop
  | .skip, Q, st => Q .normal st
  | .rg ops outs, Q, st => Qb9 X ops (QeE outs Q) st
  | .rgd ops outs ck, Q, st => Qdd X ops ck (QeE outs Q) [] st
  | .seq a b, Q, st => a.wp X (Qcc (b.wp X Q) Q) st
  | .cond c a b, Q, st => match ev (getE st.E) c with
    | .bool t => (t = true → a.wp X Q st) ∧ (t = false → b.wp X Q st)
    | _ => False
  | .block id c, Q, st => c.wp X (UZ id Q) st
  | .loop c, Q, st => QeF (c.wp X) Q st
  | .exit id, Q, st => Q (.exit id) st
  | .ret, Q, st => Q .ret st
  | .gh g c, Q, st => KH g st (c.wp X Q)
  | .scope c, Q, st => c.wp X Q st
  | .label _, Q, st => Q .normal st

def Xh (P : Program) (n : Nat) : Code → SCode → Bool
  | c, .gh _ s => Xh P n c s
  | .skip, .skip => true
  | .region _ ops false, .rg ss _ => QeA P n ops ops.toList ss
  | .region _ ops true, .rgd ss _ ck => QeA P n ops ops.toList ss && Qli ops ss ck
  | .seq a b, .seq a' b' => Xh P n a a' && Xh P n b b'
  | .cond c a b, .cond c' a' b' => okX c c' && Xh P n a a' && Xh P n b b'
  | .block id c, .block id' c' => id == id' && Xh P n c c'
  | .loop c, .loop c' => Xh P n c c'
  | .exit id, .exit id' => id == id'
  | .ret, .ret => true
  | .scope c, .scope c' => Xh P n c c'
  | .label l, .label l' => l == l'
  | _, _ => false

section
variable {P : Program} {X : Env P} {A : A0} {C0 : Ctx}

theorem Rel.trim {st : St} {a : Act} {w : World} (h : Rel A C0 st a w) (outs : List Nat) : Rel A C0 (trim outs st) a w := by
  obtain ⟨⟨loc, h1, h2, h3⟩, h4, h5⟩ := h
  refine ⟨⟨loc, h1, h2, fun k => ?_⟩, h4, h5⟩
  have : getE (outs.map fun k => (k, getE st.E k)) k = getE st.E k ∨ getE (outs.map fun k => (k, getE st.E k)) k = .junk := by
    induction outs with
    | nil => exact .inr rfl
    | cons x xs ih =>
      simp only [List.map_cons, getE]
      split
      · rename_i e; subst e; exact .inl rfl
      · exact ih
  show RelV _ (getE (outs.map fun k => (k, getE st.E k)) k) _
  rcases this with h | h
  · rw [h]; exact h3 k
  · rw [h]; simp [RelV]

theorem QiR {E : List (Nat × AV)} : ∀ {E' : List (Nat × AV)} (_ : wkE E E') (k : Nat), getE E' k = .junk ∨ getE E k = getE E' k
  | [], _, k => .inl rfl
  | (j, v) :: r, h, k => by
    simp only [wkE] at h
    simp only [getE]
    split
    · rename_i e; subst e; exact h.1
    · exact QiR h.2 k
theorem Qgf {M : List (Nat × AObj)} : ∀ {M' : List (Nat × AObj)} (_ : wkM M M') (k : Nat) (x : AObj), getM M' k = some x → getM M k = some x
  | [], _, k, x, hx => by simp [getM] at hx
  | (j, v) :: r, h, k, x, hx => by
    simp only [wkM] at h
    simp only [getM] at hx
    split at hx
    · rename_i e; subst e; cases hx; exact h.1
    · exact Qgf h.2 k x hx

theorem QhD {d : List Nat} : ∀ {E : List (Nat × AV)} (_ : (E.all fun p => Qx d p.2) = true) (k : Nat), Qx d (getE E k) = true
  | [], _, k => rfl
  | (j, v) :: r, h, k => by
    simp only [List.all_cons, Bool.and_eq_true] at h
    simp only [getE]
    split
    · exact h.1
    · exact QhD h.2 k

/-- Fewer objects are known. -/
theorem Inv.restrict {io : Nat → Nat → Prop} {w : World} {loc : Nat → Option Value} {M M' : List (Nat × AObj)} (hI : Inv A ⟨io, w, loc, getM M⟩) (hM : wkM M M') (hc : (M'.all fun p => Qb (dom M') p.2) = true) :
    Res (dom M') ⟨io, w, loc, getM M⟩ ⟨io, w, fun o => if (dom M').contains o then loc o else none, getM M'⟩ ∧ Inv A ⟨io, w, fun o => if (dom M').contains o then loc o else none, getM M'⟩ := by
  have hown : ∀ b, Ctx.ownB ⟨io, w, fun o => if (dom M').contains o then loc o else none, getM M'⟩ b → Ctx.ownB ⟨io, w, loc, getM M⟩ b := by
    rintro b ⟨o, hv, h1, h2⟩
    simp only at h1
    split at h1
    · exact ⟨o, hv, h1, h2⟩
    · cases h1
  have hres : Res (dom M') ⟨io, w, loc, getM M⟩ ⟨io, w, fun o => if (dom M').contains o then loc o else none, getM M'⟩ := by
    refine ⟨fun t b hb => ⟨⟨hb.1, hb.2.1, fun h => hb.2.2 (hown b h)⟩, rfl⟩, fun o ho => ?_⟩
    obtain ⟨x, hx⟩ := Zk ho
    exact ⟨by show getM M' o = getM M o; rw [hx, Qgf hM o x hx], by simp only [ho, if_true]⟩
  refine ⟨hres, ⟨hI.io, hI.np, hI.fresh, ⟨fun o obj h => ?_, fun o hv h => ?_, fun o o' hv hv' b h1 h2 h3 h4 => ?_, globOk.okx ⟨hres.ok⟩ hI.wf.glob⟩, hI.oldnp, hI.ev, fun o hv b h1 h2 => ?_⟩⟩
  · have h : getM M' o = some obj := h
    obtain ⟨hv, h1, h2⟩ := hI.wf.obj o obj (Qgf hM o obj h)
    have hd := G7 h
    refine ⟨hv, by simp only [hd, if_true]; exact h1, objAt.res hres ?_ (fun b _ => rfl) h2⟩
    rw [List.all_eq_true] at hc
    exact hc (o, obj) (Xa h)
  · simp only at h
    split at h
    · rename_i hd; obtain ⟨x, hx⟩ := Zk hd; exact ⟨x, hx⟩
    · cases h
  · simp only at h1 h2
    split at h1
    · split at h2
      · exact hI.wf.inj o o' hv hv' b h1 h2 h3 h4
      · cases h2
    · cases h1
  · simp only at h1
    split at h1
    · exact hI.new o hv b h1 h2
    · cases h1

theorem Rel.wk (h100 : ∀ o obj, C0.M o = some obj → o % 1000 < 100) {st st' : St} {a : Act} {w : World} (h : Rel A C0 st a w) (hw : Wk st st') : Rel A C0 st' a w := by
  obtain ⟨⟨loc, h1, h2, h3⟩, h4, h5⟩ := h
  have hcl := hw.cl
  simp only [closedB, Bool.and_eq_true] at hcl
  obtain ⟨hres, hI⟩ := Inv.restrict h1 hw.m hcl.2
  refine ⟨⟨_, hI, ⟨fun t b hb => ?_, fun o obj hv ho hl => ?_⟩, fun k => ?_⟩, h4, h5⟩
  · obtain ⟨h6, h7⟩ := h2.ok t b hb
    exact ⟨(hres.ok t b h6).1, h7⟩
  · obtain ⟨obj', hv', h6, h7, h8⟩ := h2.refs o obj hv ho hl
    have h6 : getM st.M o = some obj' := h6
    have hd : (dom st'.M).contains o = true := by
      have hk := hw.kp
      unfold keepB at hk
      rw [List.all_eq_true] at hk
      have := hk o (by have := G7 h6; simpa using this)
      simp only [Bool.or_eq_true, decide_eq_true_eq] at this
      have hlt := h100 o obj ho
      rcases this with h | h
      · omega
      · exact h
    have := hres.obj o hd
    exact ⟨obj', hv', by rw [this.1]; exact h6, by rw [this.2]; exact h7, h8⟩
  · rcases QiR hw.e k with h6 | h6
    · rw [h6]; simp [RelV]
    · refine RelV.res hres _ _ (QhD hcl.1 k) ?_
      rw [← h6]; exact h3 k

theorem Rel.ren (h100 : ∀ o obj, C0.M o = some obj → o % 1000 < 100) {st : St} {a : Act} {w : World} (h : Rel A C0 st a w) {s : Nat → Nat} (hs : ∀ o, s (s o) = o) (h1s : ∀ o, o % 1000 < 100 → s o = o) : Rel A C0 (st.ren s) a w := by
  obtain ⟨⟨loc, hI, h2, h3⟩, h4, h5⟩ := h
  have hr : RenC s ⟨C0.io, w, loc, getM st.M⟩ ⟨C0.io, w, fun o => loc (s o), getM (ZB s st.M)⟩ := ⟨rfl, rfl, fun _ => rfl, fun o => ZZ hs st.M o⟩
  have hold : ∀ o b, A.old (s o) b → s o = o := fun o b hb => by
    have h9 := hI.oldnp (s o) b hb
    have h8 := hI.np
    have h10 := h1s (s o) (by omega)
    rw [hs] at h10
    exact h10.symm
  refine ⟨⟨fun o => loc (s o), ⟨hI.io, hI.np, hI.fresh, WfM.ren hs hr hI.wf, hI.oldnp, hI.ev, fun o hv b h6 h7 => ?_⟩, ⟨fun t b hb => ?_, fun o obj hv ho hl => ?_⟩, fun k => ?_⟩, h4, h5⟩
  · rcases hI.new (s o) hv b h6 h7 with h | h
    · exact .inl h
    · exact .inr (by have := hold o b h; rw [this] at h; exact h)
  · obtain ⟨h6, h7⟩ := h2.ok t b hb
    exact ⟨(RenC.ok hs hr t b).2 h6, h7⟩
  · obtain ⟨obj', hv', h6, h7, h8⟩ := h2.refs o obj hv ho hl
    have hso := h1s o (h100 o obj ho)
    have h6 : getM st.M o = some obj' := h6
    refine ⟨renO s obj', hv', ?_, ?_, objLe.renR s h8⟩
    · show getM (ZB s st.M) o = _
      rw [ZZ hs, hso, h6]; rfl
    · show loc (s o) = _
      rw [hso]; exact h7
  · show RelV _ (getE (Qkr s st.E) k) _
    rw [Qln]
    exact RelV.ren hs hr _ _ (h3 k)

theorem Qqw (hI : Inv A C0) {sz : Nat} {c : Value} (h : RelV C0 (.sl 98 sz []) c) : c = .slice none 0 0 := by
  simp only [RelV] at h
  rcases h.2 with h | ⟨b, off, cap, css, h1, h2, h3, _⟩
  · rcases h.2 with h | ⟨h, _⟩
    · exact h
    · exact absurd rfl h
  · exact absurd (hI.io ▸ h3.1) (hI.fresh.2 b)

theorem Qol {io : Nat → Nat → Prop} {w : World} {loc : Nat → Option Value} {M : List (Nat × AObj)} (hI : Inv A ⟨io, w, loc, getM M⟩) {o e sz : Nat} (ho : getM M o = none) :
    Inv A ⟨io, w, ZA loc o (.slice none 0 0), getM (Xx M o (.arr e 0 sz []))⟩ ∧ Ext ⟨io, w, loc, getM M⟩ ⟨io, w, ZA loc o (.slice none 0 0), getM (Xx M o (.arr e 0 sz []))⟩ ∧
    RelV ⟨io, w, ZA loc o (.slice none 0 0), getM (Xx M o (.arr e 0 sz []))⟩ (.own o 0 0 0) (.slice none 0 0) :=
  Qet (A := A) hI (o := o) (obj0 := none) ho (e := e) (ver := 0) (sz := sz) (by simp) (by simp) (by simp) (w' := w) (hv' := .slice none 0 0) (xs := []) (css := []) (Grow.refl _ _) (fun b hb => by simp [blkOf] at hb) (by simp [RelLL]) (by simp) (World.ownsRow_nil w 0 (e % 1000000) sz) (by simp)

theorem Qjw {C : Ctx} : ∀ {xs : List AV} {vs : List Value} {i : Nat} {y : AV} {u : Value}, RelL C xs vs → vs[i]? = some u → RelV C y u → RelL C (xs.set i y) vs
  | [], vs, i, y, u, h, _, _ => by simpa using h
  | z :: zs, vs, i, y, u, h, hu, hy => by
    simp only [RelL] at h
    obtain ⟨c', cs', rfl, h10, h11⟩ := h
    cases i with
    | zero => simp at hu; subst hu; exact RelL.cons hy h11
    | succ i => simp only [List.set_cons_succ]; exact RelL.cons h10 (Qjw h11 (by simpa using hu) hy)

theorem QoQ {io : Nat → Nat → Prop} {w : World} {loc : Nat → Option Value} {M : List (Nat × AObj)} (hI : Inv A ⟨io, w, loc, getM M⟩) {bx off : Nat} {ls : List AV} {y : AV} (hB : getM M bx = some (.box ls)) (hoff : off < ls.length) (hleaf : Y8 y = true)
    (hy : ∀ c, RelV ⟨io, w, loc, getM M⟩ (ls.getD off .junk) c → RelV ⟨io, w, loc, getM M⟩ y c) :
    ∃ loc', Inv A ⟨io, w, loc', getM (Xx M bx (.box (ls.set off y)))⟩ ∧ Ext ⟨io, w, loc, getM M⟩ ⟨io, w, loc', getM (Xx M bx (.box (ls.set off y)))⟩ := by
  obtain ⟨hv, h6, b, cs, ty, rfl, h7, h8, h9⟩ := hI.wf.obj bx _ hB
  have h6 : loc bx = some (.pointer (some ⟨b, 0, none⟩)) := h6
  have h7 : w.heap[b]? = _ := h7
  obtain ⟨c, hc, hcr⟩ := h8.get off .junk hoff
  have k4 := Inv.upd (A := A) hI (w' := w) (o := bx) (obj' := .box (ls.set off y)) (hv' := .pointer (some ⟨b, 0, none⟩)) (Grow.refl _ _)
    (fun b' hb => .inr ⟨_, h6, hb⟩) (fun obj hv h h' => by
      have h : getM M bx = some obj := h
      have h' : loc bx = some hv := h'
      rw [hB] at h; cases h; rw [h6] at h'; cases h'; rfl)
    (fun hext => by
      refine ⟨b, cs, ty, rfl, h7, Qjw (h8.mono hext) hc ((hy c hcr).mono hext), ?_⟩
      rw [List.all_eq_true] at h9 ⊢
      intro x hx
      rcases List.mem_or_eq_of_mem_set hx with h | rfl
      · exact h9 x h
      · exact hleaf)
  rw [← Xd] at k4
  exact ⟨_, k4.1, k4.2⟩

theorem QiS (h100 : ∀ o obj, C0.M o = some obj → o % 1000 < 100) {g : Gh} {st : St} {a : Act} {w : World} (h : Rel A C0 st a w) {K : St → Prop} (hK : KH g st K) : ∃ st', Rel A C0 st' a w ∧ K st' := by
  obtain ⟨⟨loc, h1, h2, h3⟩, h4, h5⟩ := id h
  unfold KH at hK
  split at hK
  · rename_i k
    split at hK
    · rename_i o ver lo hi hE
      split at hK
      · rename_i e cv sz xs hM
        obtain ⟨ho, hver, rfl, hef, hK⟩ := hK
        have hk := h3 k
        rw [hE] at hk
        obtain ⟨h6, h7, h8⟩ := Qb6 h1 hk hM hver ho hef
        refine ⟨_, ⟨⟨_, h6, h2.trans h7, fun j => ?_⟩, h4, h5⟩, hK⟩
        rw [UW]
        split
        · rename_i e; subst e; exact h8
        · exact (h3 j).mono h7
      · exact ⟨_, h, hK⟩
    · exact ⟨_, h, hK⟩
  · rename_i bx off
    split at hK
    · rename_i ls hB
      split at hK
      · rename_i o ver lo hi hL
        split at hK
        · rename_i e cv sz xs hM
          obtain ⟨ho, hver, rfl, hef, hoff, hne, hK⟩ := hK
          obtain ⟨hv, h6, b, cs, ty, rfl, h7, h8, h9⟩ := h1.wf.obj bx _ hB
          have h7 : w.heap[b]? = _ := h7
          obtain ⟨c, hc, hcr⟩ := h8.get off .junk hoff
          rw [hL] at hcr
          obtain ⟨k1, k2, k3⟩ := Qb6 h1 hcr hM hver ho hef
          -- the box, its leaf told anew
          have hM2 : getM (Xx st.M o .gone) bx = some (.box ls) := by rw [Qb3, if_neg (Ne.symm hne)]; exact hB
          have hl2 : ZA loc o (.tuple #[]) bx = some (.pointer (some ⟨b, 0, none⟩)) := by simp only [ZA, if_neg (Ne.symm hne)]; exact h6
          have k4 := Inv.upd (A := A) k1 (w' := w) (o := bx) (obj' := .box (ls.set off (.sl 0 sz (xs.take hi)))) (hv' := .pointer (some ⟨b, 0, none⟩)) (Grow.refl _ _)
            (fun b' hb => .inr ⟨_, hl2, hb⟩) (fun obj hv h h' => by
              have h : getM (Xx st.M o .gone) bx = some obj := h
              have h' : ZA loc o (.tuple #[]) bx = some hv := h'
              rw [hM2] at h; cases h; rw [hl2] at h'; cases h'; rfl)
            (fun hext => by
              refine ⟨b, cs, ty, rfl, h7, ?_, ?_⟩
              · have hset : ∀ (xs : List AV) (vs : List Value) (C : Ctx) (i : Nat) (y : AV) (u : Value), RelL C xs vs → vs[i]? = some u → RelV C y u → RelL C (xs.set i y) vs := by
                  intro xs
                  induction xs with
                  | nil => intro vs C i y u h _ _; simpa using h
                  | cons z zs ih =>
                    intro vs C i y u h hu hy
                    simp only [RelL] at h
                    obtain ⟨c', cs', rfl, h10, h11⟩ := h
                    cases i with
                    | zero => simp at hu; subst hu; exact RelL.cons hy h11
                    | succ i => simp only [List.set_cons_succ]; exact RelL.cons h10 (ih cs' C i y u h11 (by simpa using hu) hy)
                exact hset ls cs _ off _ c ((h8.mono k2).mono hext) hc (k3.mono hext)
              · rw [List.all_eq_true] at h9 ⊢
                intro x hx
                rcases List.mem_or_eq_of_mem_set hx with h | rfl
                · exact h9 x h
                · rfl)
          rw [← Xd] at k4
          exact ⟨_, ⟨⟨_, k4.1, (h2.trans k2).trans k4.2, fun j => ((h3 j).mono k2).mono k4.2⟩, h4, h5⟩, hK⟩
        · exact ⟨_, h, hK⟩
      · exact ⟨_, h, hK⟩
    · exact ⟨_, h, hK⟩
  · rename_i k o e
    split at hK
    · rename_i sz hE
      obtain ⟨ho, hK⟩ := hK
      have hk := h3 k
      rw [hE] at hk
      have hc := Qqw (C0 := ⟨C0.io, w, loc, getM st.M⟩) h1 hk
      obtain ⟨k1, k2, k3⟩ := Qol (e := e) (sz := sz) h1 ho
      refine ⟨_, ⟨⟨_, k1, h2.trans k2, fun j => ?_⟩, h4, h5⟩, hK⟩
      rw [UW]
      split
      · rename_i e; subst e; rw [hc]; exact k3
      · exact (h3 j).mono k2
    · exact ⟨_, h, hK⟩
  · rename_i bx off o e
    split at hK
    · rename_i ls hB
      split at hK
      · rename_i sz hL
        obtain ⟨ho, hoff, hne, hK⟩ := hK
        obtain ⟨k1, k2, k3⟩ := Qol (e := e) (sz := sz) h1 ho
        have hM2 : getM (Xx st.M o (.arr e 0 sz [])) bx = some (.box ls) := by rw [Qb3, if_neg (Ne.symm hne)]; exact hB
        obtain ⟨loc', k4, k5⟩ := QoQ k1 (y := .own o 0 0 0) hM2 hoff rfl (fun c hc => by
          rw [hL] at hc
          rw [Qqw k1 hc]; exact k3)
        exact ⟨_, ⟨⟨_, k4, (h2.trans k2).trans k5, fun j => ((h3 j).mono k2).mono k5⟩, h4, h5⟩, hK⟩
      · exact ⟨_, h, hK⟩
    · exact ⟨_, h, hK⟩
  · obtain ⟨s, st', h6, h7, h8, h9⟩ := hK
    exact ⟨st', (h.ren h100 h6 h7).wk h100 h8, h9⟩

def xt : XT → Exit
  | .normal => .normal
  | .exit id => .exit id
  | .ret => .ret

theorem Qks {σ : Type} {c : Code} {Q : Exit → Act → World → Prop} (R : σ → Act → World → Prop) (μ : σ → Nat)
    (round : ∀ s a w, R s a w → c.wp P (Exit.then (fun a' w' => ∃ s', R s' a' w' ∧ μ s' < μ s) Q) a w) (s : σ) (a : Act) (w : World) (h : R s a w) : (Code.loop c).wp P Q a w := by
  intro b k cs
  have key : ∀ n s a w, μ s = n → R s a w → ∃ e a' w', Q e a' w' ∧ Arrives P (lone (b.at a (.code c :: .inLoop c :: k)) cs w) b k cs e a' w' := by
    intro n
    induction n using Nat.strongRecOn with
    | _ n ih =>
      intro s a w hn hR
      obtain ⟨e, a1, w1, hq, harr⟩ := round s a w hR b (.inLoop c :: k) cs
      cases e with
      | normal =>
        obtain ⟨s', hR', hlt⟩ := hq
        obtain ⟨e2, a2, w2, hq2, harr2⟩ := ih (μ s') (hn ▸ hlt) s' a1 w1 rfl hR'
        exact ⟨e2, a2, w2, hq2, .of_steps (Steps.trans harr (.one step_inLoop)) harr2⟩
      | exit id => exact ⟨_, a1, w1, hq, .pass (x := .inLoop c) rfl (fun _ _ => .inl (by simp)) harr⟩
      | goto l => exact ⟨_, a1, w1, hq, .pass (x := .inLoop c) rfl (fun _ _ => .inl (by simp)) harr⟩
      | ret => exact ⟨_, a1, w1, hq, .pass (x := .inLoop c) rfl (fun _ _ => .inl (by simp)) harr⟩
      | panic ch => exact ⟨_, a1, w1, hq, .pass (x := .inLoop c) rfl (fun _ _ => .inl (by simp)) harr⟩
      | outgrown => exact ⟨_, a1, w1, hq, .pass (x := .inLoop c) rfl (fun _ _ => .inl (by simp)) harr⟩
  obtain ⟨e, a', w', hq, harr⟩ := key _ s a w rfl h
  exact ⟨e, a', w', hq, .of_steps (.one step_loop) harr⟩

theorem Qkt (hm : P.follows .mixedOrders = true)
    (h100 : ∀ o obj, C0.M o = some obj → o % 1000 < 100) : ∀ (s : SCode) (c : Code) (Q : XT → St → Prop) (QC : Exit → Act → World → Prop), Xh P A.n c s = true →
    (∀ e st a w, Rel A C0 st a w → Q e st → QC (xt e) a w) → ∀ (st : St) (a : Act) (w : World), Rel A C0 st a w → s.wp X Q st → c.wp P QC a w := by
  intro s
  induction s with
  | gh g s ih =>
    intro c Q QC hok hQ st a w hR hw
    rw [Xh] at hok
    simp only [SCode.wp] at hw
    obtain ⟨st', hR', hw'⟩ := QiS h100 hR hw
    exact ih c Q QC hok hQ st' a w hR' hw'
  | skip =>
    intro c Q QC hok hQ st a w hR hw
    cases c <;> simp [Xh] at hok
    exact wp_skip (hQ .normal st a w hR hw)
  | rg ops outs =>
    intro c Q QC hok hQ st a w hR hw
    cases c with
    | region id ops' d =>
      cases d with
      | true => simp [Xh] at hok
      | false =>
        simp only [Xh] at hok
        exact Qm0 hok (K := QeE outs Q) (fun st a w h hk => hQ .normal _ a w (h.trim outs) hk) hR hw
    | _ => simp [Xh] at hok
  | rgd ops outs ck =>
    intro c Q QC hok hQ st a w hR hw
    cases c with
    | region id ops' d =>
      cases d with
      | false => simp [Xh] at hok
      | true =>
        simp only [Xh, Bool.and_eq_true] at hok
        exact Qkq hm hok.1 hok.2 (K := QeE outs Q) (fun st a w h hk => hQ .normal _ a w (h.trim outs) hk) hR hw
    | _ => simp [Xh] at hok
  | seq x y ihx ihy =>
    intro c Q QC hok hQ st a w hR hw
    cases c with
    | seq a' b' =>
      simp only [Xh, Bool.and_eq_true] at hok
      simp only [SCode.wp] at hw
      refine wp_seq (ihx a' (Qcc (y.wp X Q) Q) _ hok.1 (fun e st a w h hk => ?_) st a w hR hw)
      cases e with
      | normal => exact ihy b' Q QC hok.2 hQ st a w h hk
      | exit id => exact hQ (.exit id) st a w h hk
      | ret => exact hQ .ret st a w h hk
    | _ => simp [Xh] at hok
  | cond x y z ihy ihz =>
    intro c Q QC hok hQ st a w hR hw
    cases c with
    | cond x' a' b' =>
      simp only [Xh, Bool.and_eq_true] at hok
      simp only [SCode.wp] at hw
      split at hw
      · rename_i t ht
        obtain ⟨loc, h1, h2, h3⟩ := hR.ex
        have hx := KG h1.wf.glob h3 hok.1.1
        rw [ht] at hx
        simp only [RelV] at hx
        exact wp_cond_split hx (fun h => ihy a' Q QC hok.1.2 hQ st a w hR (hw.1 h)) (fun h => ihz b' Q QC hok.2 hQ st a w hR (hw.2 h))
      · exact hw.elim
    | _ => simp [Xh] at hok
  | block id x ih =>
    intro c Q QC hok hQ st a w hR hw
    cases c with
    | block id' c' =>
      simp only [Xh, Bool.and_eq_true, beq_iff_eq] at hok
      obtain ⟨rfl, hok⟩ := hok
      simp only [SCode.wp] at hw
      refine wp_block (ih c' (UZ id' Q) _ hok (fun e st a w h hk => ?_) st a w hR hw)
      cases e with
      | normal => exact hQ .normal st a w h hk
      | exit id2 =>
        simp only [UZ] at hk
        show Exit.inBlock id' QC (.exit id2) a w
        simp only [Exit.inBlock]
        split at hk
        · rename_i e; rw [if_pos e]; exact hQ .normal st a w h hk
        · rename_i e; rw [if_neg e]; exact hQ (.exit id2) st a w h hk
      | ret => exact hQ .ret st a w h hk
    | _ => simp [Xh] at hok
  | loop x ih =>
    intro c Q QC hok hQ st a w hR hw
    cases c with
    | loop c' =>
      simp only [Xh] at hok
      simp only [SCode.wp] at hw
      obtain ⟨I, ⟨m0, st0, hwk, hI0⟩, hstep⟩ := hw
      refine Qks (σ := Nat × St) (fun s a w => Rel A C0 s.2 a w ∧ I s.1 s.2) Prod.fst (fun s a w ⟨hR, hI⟩ => ?_) (m0, st0) a w ⟨hR.wk h100 hwk, hI0⟩
      refine ih c' _ _ hok (fun e st' a' w' h hk => ?_) s.2 a w hR (hstep s.1 s.2 hI)
      cases e with
      | normal =>
        obtain ⟨m', st'', hwk, hI', hlt⟩ := hk
        exact ⟨(m', st''), ⟨h.wk h100 hwk, hI'⟩, hlt⟩
      | exit id => exact hQ (.exit id) st' a' w' h hk
      | ret => exact hQ .ret st' a' w' h hk
    | _ => simp [Xh] at hok
  | exit id =>
    intro c Q QC hok hQ st a w hR hw
    cases c <;> simp [Xh] at hok
    subst hok
    exact wp_exit (hQ (.exit _) st a w hR hw)
  | ret =>
    intro c Q QC hok hQ st a w hR hw
    cases c <;> simp [Xh] at hok
    exact wp_ret (hQ .ret st a w hR hw)
  | scope x ih =>
    intro c Q QC hok hQ st a w hR hw
    cases c with
    | scope c' =>
      simp only [Xh] at hok
      simp only [SCode.wp] at hw
      refine wp_scope_straight (ih c' Q _ hok (fun e st a w h hk => ?_) st a w hR hw)
      cases e <;> exact hQ _ st a w h hk
    | _ => simp [Xh] at hok
  | label l =>
    intro c Q QC hok hQ st a w hR hw
    cases c <;> simp [Xh] at hok
    exact wp_label (hQ .normal st a w hR hw)
end
end Go.Ve

namespace Go.Ve
set_option linter.unusedSimpArgs false
set_option linter.unusedVariables false
open Go.RowKit

inductive SRes where
  | t (k : Nat)
  | c1 (k : Nat)
  | cN (k n : Nat)
  deriving Inhabited

structure SFun where
  n : Nat
  res : List SRes
  body : SCode

def Qae (P : Program) (n : Nat) : List ResultVar → List SRes → Bool
  | [], [] => true
  | .tmp k :: rs, .t k' :: ss => k == k' && Qae P n rs ss
  | .cell k t :: rs, .c1 k' :: ss => k == k' && UX P t && Qae P n rs ss
  | .cell k t :: rs, .cN k' m :: ss => k == k' && Qoe P t && Vj P t m && Qae P n rs ss
  | _, _ => false

def YM (P : Program) (f : FuncId) (sf : SFun) : Bool :=
  match P.funcs[f]? with
  | some fn => fn.ntmps == sf.n && Qae P sf.n fn.results.toList sf.res && (match fn.body with | some c => Xh P sf.n c sf.body | none => false)
  | none => false

def QkW (st : St) : SRes → AV → Prop
  | .t k, v => getE st.E k = v
  | .c1 k, v => match getE st.E k with
    | .ptr o off => match getM st.M o with | some (.box ls) => off < ls.length ∧ ls.getD off .junk = v | _ => False
    | _ => False
  | .cN k n, v => match getE st.E k with
    | .ptr o off => match getM st.M o with | some (.box ls) => off + n ≤ ls.length ∧ v = .agg ((ls.drop off).take n) | _ => False
    | _ => False
def Qcd (st : St) : List SRes → List AV → Prop
  | [], vs => vs = []
  | x :: xs, vs => ∃ v vs', vs = v :: vs' ∧ QkW st x v ∧ Qcd st xs vs'
def YS (res : List SRes) (r : AV) (post : List (Nat × AObj)) (st : St) : Prop :=
  (match res with
   | [x] => QkW st x r
   | xs => ∃ vs, Qcd st xs vs ∧ r = .tup vs) ∧
  wkM st.M post ∧ (post.all fun p => Qb (dom post) p.2) = true ∧ Qx (dom post) r = true ∧ keepB st.M post = true

def QeG : Nat → List AV → List (Nat × AV)
  | _, [] => []
  | k, x :: xs => (k, x) :: QeG (k + 1) xs

def Qjx (res : List SRes) (r : AV) (post : List (Nat × AObj)) : XT → St → Prop
  | .ret, st => YS res r post st
  | .normal, st => YS res r post st
  | _, _ => False

section
variable {P : Program}

def QeH (tmps : Array Value) : ResultVar → Sem Value
  | .tmp t => pure (tmps.getD t undef)
  | .cell x t => do loadVar t (← asAddr (tmps.getD x undef))
theorem Qku (fn : Func) (tmps : Array Value) : results fn tmps = (do let vs ← fn.results.mapM (QeH tmps); pure (if h : vs.size = 1 then vs[0] else .tuple vs)) := by
  have : (fun rv : ResultVar => (match rv with | .tmp t => pure (tmps.getD t undef) | .cell x t => do loadVar t (← asAddr (tmps.getD x undef)) : Sem Value)) = QeH tmps := by
    funext rv; cases rv <;> rfl
  unfold results
  rw [← this]
  rfl

theorem QoR {A : A0} {C0 : Ctx} {st : St} {a : Act} {w : World} {loc : Nat → Option Value} (hI : Inv A ⟨C0.io, w, loc, getM st.M⟩) (hE : ∀ k, RelV ⟨C0.io, w, loc, getM st.M⟩ (getE st.E k) (a.tmps.getD k undef)) {n : Nat} :
    ∀ {rv : ResultVar} {s : SRes} {v : AV}, Qae P n [rv] [s] = true → QkW st s v → ∃ c, (QeH a.tmps rv).run P w = .ok c w ∧ RelV ⟨C0.io, w, loc, getM st.M⟩ v c := by
  intro rv s v hok hr
  cases rv with
  | tmp k =>
    cases s with
    | t k' =>
      simp only [Qae, Bool.and_eq_true, beq_iff_eq] at hok
      obtain ⟨rfl, _⟩ := hok
      simp only [QkW] at hr
      exact ⟨_, rfl, hr ▸ hE k⟩
    | c1 => simp [Qae] at hok
    | cN => simp [Qae] at hok
  | cell k t =>
    cases s with
    | t k' => simp [Qae] at hok
    | c1 k' =>
      simp only [Qae, Bool.and_eq_true, beq_iff_eq] at hok
      obtain ⟨⟨rfl, hpl⟩, _⟩ := hok
      simp only [QkW] at hr
      split at hr
      · rename_i o off hk
        split at hr
        · rename_i ls hM
          have hx := hE k
          rw [hk] at hx
          have hp : (Zj (getM st.M) (.ptr o off) JD).pre ∧ (Zj (getM st.M) (.ptr o off) JD).v = v := by
            simp only [Zj, hM]
            have : ls.drop off = ls.getD off .junk :: ls.drop (off + 1) := by
              rw [List.drop_eq_getElem_cons hr.1]; simp [hr.1]
            rw [this]; exact ⟨trivial, hr.2⟩
          obtain ⟨c, h1, h2, _⟩ := Qer (P := P) hI hx hpl hp.1
          rw [hp.2] at h2
          obtain ⟨_, b, off', cs, _, _, _, hv, _⟩ := Qep hI hx hp.1
          refine ⟨c, ?_, h2⟩
          simp only [Instr.loadAt, Sem.run_bind, hv, Instr.sureAddr, Sem.run_pure, Result.andThen_ok] at h1
          simp only [QeH, Sem.run_bind, hv, asAddr, Sem.run_pure, Result.andThen_ok, h1]
        · exact hr.elim
      · exact hr.elim
    | cN k' m =>
      simp only [Qae, Bool.and_eq_true, beq_iff_eq] at hok
      obtain ⟨⟨⟨rfl, hag⟩, hsz⟩, _⟩ := hok
      simp only [QkW] at hr
      split at hr
      · rename_i o off hk
        split at hr
        · rename_i ls hM
          have hx := hE k
          rw [hk] at hx
          have hp : (Zj (getM st.M) (.ptr o off) fun ls => ⟨m ≤ ls.length, .agg (ls.take m), []⟩).pre ∧ (Zj (getM st.M) (.ptr o off) fun ls => ⟨m ≤ ls.length, .agg (ls.take m), []⟩).v = v := by
            simp only [Zj, hM]
            refine ⟨by rw [List.length_drop]; omega, hr.2.symm⟩
          obtain ⟨c, h1, h2, _⟩ := Qes (P := P) hI hx hag hsz hp.1
          rw [hp.2] at h2
          obtain ⟨_, b, off', cs, _, _, _, hv, _⟩ := Qep hI hx hp.1
          refine ⟨c, ?_, h2⟩
          simp only [Instr.loadAt, Sem.run_bind, hv, Instr.sureAddr, Sem.run_pure, Result.andThen_ok] at h1
          simp only [QeH, Sem.run_bind, hv, asAddr, Sem.run_pure, Result.andThen_ok, h1]
        · exact hr.elim
      · exact hr.elim

theorem QbC {A : A0} {C0 : Ctx} {st : St} {a : Act} {w : World} {loc : Nat → Option Value} (hI : Inv A ⟨C0.io, w, loc, getM st.M⟩) (hE : ∀ k, RelV ⟨C0.io, w, loc, getM st.M⟩ (getE st.E k) (a.tmps.getD k undef)) {n : Nat} :
    ∀ {rs : List ResultVar} {ss : List SRes} {vs : List AV}, Qae P n rs ss = true → Qcd st ss vs →
      ∃ cs, (rs.mapM (QeH a.tmps)).run P w = .ok cs w ∧ RelL ⟨C0.io, w, loc, getM st.M⟩ vs cs ∧ cs.length = ss.length
  | [], [], vs, _, h => by simp only [Qcd] at h; subst h; exact ⟨[], by simp, by simp [RelL], rfl⟩
  | [], _ :: _, vs, h, _ => by simp [Qae] at h
  | .tmp _ :: _, [], vs, h, _ => by simp [Qae] at h
  | .cell _ _ :: _, [], vs, h, _ => by simp [Qae] at h
  | rv :: rs, s :: ss, vs, hok, h => by
    simp only [Qcd] at h
    obtain ⟨v, vs', rfl, h1, h2⟩ := h
    have hok' : Qae P n [rv] [s] = true ∧ Qae P n rs ss = true := by
      cases rv <;> cases s <;> simp only [Qae, Bool.and_eq_true, Bool.and_true] at hok ⊢ <;> first | exact hok | (simp at hok)
    obtain ⟨c, h3, h4⟩ := QoR hI hE hok'.1 h1
    obtain ⟨cs, h5, h6, h7⟩ := QbC hI hE hok'.2 h2
    refine ⟨c :: cs, ?_, RelL.cons h4 h6, by simp [h7]⟩
    rw [List.mapM_cons]
    simp only [Sem.run_bind, h3, Result.andThen_ok, h5, Sem.run_pure]

/-- A FUNCTION's CONTRACT, out of what its code comes to. -/
theorem QP (X : Env P) (hm : P.follows .mixedOrders = true)
    {f : FuncId} {sf : SFun} (hok : YM P f sf = true) {args : List AV} (hl : args.length ≤ sf.n) {pre : List (Nat × AObj)} (h100 : (dom pre).all (decide <| · % 1000 < 100) = true) {r : AV} {post : List (Nat × AObj)}
    (h : sf.body.wp X (Qjx sf.res r post) ⟨QeG 0 args, pre⟩) : Contract P f args pre r post := by
  intro io w loc vs hio hwf hargs
  unfold YM at hok
  split at hok
  · rename_i fn hfn
    simp only [Bool.and_eq_true, beq_iff_eq] at hok
    obtain ⟨⟨hn, hres⟩, hb⟩ := hok
    split at hb
    · rename_i c hc
      let C0 : Ctx := ⟨io, w, loc, getM pre⟩
      let A : A0 := ⟨io, w, 100, fun o b => ∃ hv, loc o = some hv ∧ blkOf hv = some b, sf.n⟩
      have h100' : ∀ o obj, C0.M o = some obj → o % 1000 < 100 := fun o obj ho => by
        rw [List.all_eq_true] at h100
        have := h100 o (by have := G7 (show getM pre o = some obj from ho); simpa using this)
        simpa using this
      have hI : Inv A C0 := ⟨rfl, Nat.le_refl _, hio, hwf, fun o b ⟨hv, h1, _⟩ => by
        obtain ⟨obj, ho⟩ := hwf.dom o hv h1
        exact h100' o obj ho, Ev.refl _ _, fun o hv b h1 h2 => .inr ⟨hv, h1, h2⟩⟩
      have hvl := hargs.length
      have hR : Rel A C0 ⟨QeG 0 args, pre⟩ { tmps := vs.toArray ++ Array.replicate (fn.ntmps - vs.toArray.size) undef, defers := [] } w := by
        refine ⟨⟨loc, hI, Ext.refl _, fun k => ?_⟩, ?_, rfl⟩
        · have key : ∀ (xs : List AV) (cs : List Value) (j : Nat), RelL C0 xs cs → (k < j ∨ k ≥ j + xs.length → getE (QeG j xs) k = .junk) ∧ (∀ i, k = j + i → i < xs.length → ∃ c, cs[i]? = some c ∧ RelV C0 (getE (QeG j xs) k) c) := by
            intro xs
            induction xs with
            | nil => intro cs j _; exact ⟨fun _ => rfl, fun i _ h => by simp at h⟩
            | cons x xs ih =>
              intro cs j h
              simp only [RelL] at h
              obtain ⟨c, cs', rfl, h1, h2⟩ := h
              obtain ⟨ih1, ih2⟩ := ih cs' (j + 1) h2
              refine ⟨fun hk => ?_, fun i hk hi => ?_⟩
              · simp only [QeG, getE]
                rw [if_neg (by simp at hk; omega)]
                exact ih1 (by simp at hk; omega)
              · simp only [QeG, getE]
                cases i with
                | zero => rw [if_pos (by omega)]; exact ⟨c, rfl, h1⟩
                | succ i =>
                  rw [if_neg (by omega)]
                  obtain ⟨c', h3, h4⟩ := ih2 i (by omega) (by simpa using hi)
                  exact ⟨c', by simpa using h3, h4⟩
          obtain ⟨k1, k2⟩ := key args vs 0 hargs
          by_cases hk : k < args.length
          · obtain ⟨c, h1, h2⟩ := k2 k (by omega) hk
            have hkv : k < vs.length := by omega
            have : (vs.toArray ++ Array.replicate (fn.ntmps - vs.toArray.size) undef).getD k undef = c := by
              simp only [Array.getD_eq_getD_getElem?, Array.getElem?_append, List.size_toArray, hkv, if_true, List.getElem?_toArray, h1, Option.getD_some]
            rw [this]; exact h2
          · rw [k1 (by omega)]; simp [RelV]
        · simp only [Array.size_append, List.size_toArray, Array.size_replicate]
          show vs.length + (fn.ntmps - vs.length) = sf.n
          omega
      refine calls_of_wp hfn hc ?_
      refine Qkt hm h100' sf.body c (Qjx sf.res r post) _ hb ?_ _ _ _ hR h
      intro e st a' w' hR' hq
      have fin : YS sf.res r post st → a'.defers = [] ∧ ∃ v, (results fn a'.tmps).run P w' = .ok v w' ∧ (∃ v_1 loc', (Ending.returned v) = .returned v_1 ∧ WfM ⟨io, w', loc', getM post⟩ ∧ Ext ⟨io, w, loc, getM pre⟩ ⟨io, w', loc', getM post⟩ ∧ RelV ⟨io, w', loc', getM post⟩ r v_1 ∧
          Ev w w' (Ctx.ownB ⟨io, w, loc, getM pre⟩) ∧ ∀ o hv b, loc' o = some hv → blkOf hv = some b → w.heap.size ≤ b ∨ ∃ hv0, loc o = some hv0 ∧ blkOf hv0 = some b) := by
        rintro ⟨h1, h2, h3, h4, h5⟩
        obtain ⟨⟨loc', hI', hX', hE'⟩, _, hdf⟩ := hR'
        refine ⟨hdf, ?_⟩
        have hIo : C0.io = io := rfl
        obtain ⟨hres', hI''⟩ := Inv.restrict hI' h2 h3
        have done : ∀ v, RelV ⟨io, w', loc', getM st.M⟩ r v → ∃ v_1 loc', (Ending.returned v) = .returned v_1 ∧ WfM ⟨io, w', loc', getM post⟩ ∧ Ext ⟨io, w, loc, getM pre⟩ ⟨io, w', loc', getM post⟩ ∧ RelV ⟨io, w', loc', getM post⟩ r v_1 ∧
          Ev w w' (Ctx.ownB ⟨io, w, loc, getM pre⟩) ∧ ∀ o hv b, loc' o = some hv → blkOf hv = some b → w.heap.size ≤ b ∨ ∃ hv0, loc o = some hv0 ∧ blkOf hv0 = some b := by
          intro v hv
          refine ⟨v, _, rfl, hI''.wf, ⟨fun t b hb => ?_, fun o obj hv ho hl => ?_⟩, RelV.res hres' r v h4 hv, ?_, fun o hv b h6 h7 => hI''.new o hv b h6 h7⟩
          · obtain ⟨h6, h7⟩ := hX'.ok t b hb
            exact ⟨(hres'.ok t b h6).1, h7⟩
          · obtain ⟨obj', hv', h6, h7, h8⟩ := hX'.refs o obj hv ho hl
            have h6 : getM st.M o = some obj' := h6
            have hd : (dom post).contains o = true := by
              unfold keepB at h5
              rw [List.all_eq_true] at h5
              have := h5 o (by have := G7 h6; simpa using this)
              simp only [Bool.or_eq_true, decide_eq_true_eq] at this
              have hlt := h100' o obj ho
              rcases this with h | h
              · omega
              · exact h
            have := hres'.obj o hd
            exact ⟨obj', hv', by rw [this.1]; exact h6, by rw [this.2]; exact h7, h8⟩
          · have hev := hI''.ev
            exact ⟨hev.os, hev.tape, hev.output, hev.size, fun b hb ho => hev.block b hb (fun ⟨o, hv, h6, h7⟩ => ho ⟨o, hv, h6, h7⟩)⟩
        have hmap : ∀ {cs : List Value}, (fn.results.toList.mapM (QeH a'.tmps)).run P w' = .ok cs w' →
            (results fn a'.tmps).run P w' = .ok (if h : cs.toArray.size = 1 then cs.toArray[0] else .tuple cs.toArray) w' := by
          intro cs h6
          rw [Qku, Array.mapM_eq_mapM_toList]
          simp only [Sem.run_bind, Sem.run_map]
          rw [h6]
          rfl
        split at h1
        · rename_i x hx
          have hlp : Qcd st sf.res [r] := by rw [hx]; simp only [Qcd]; exact ⟨r, [], rfl, h1, rfl⟩
          obtain ⟨cs, h6, h7, h8⟩ := QbC hI' hE' hres hlp
          rw [hx] at h8
          simp only [RelL] at h7
          obtain ⟨c1, cs1, rfl, h9, rfl⟩ := h7
          exact ⟨c1, hmap h6, done c1 h9⟩
        · rename_i hx
          obtain ⟨vs', hvs, rfl⟩ := h1
          obtain ⟨cs, h6, h7, h8⟩ := QbC hI' hE' hres hvs
          have hne : ¬ cs.toArray.size = 1 := by
            simp only [List.size_toArray, h8]
            intro h1
            match hsr : sf.res with
            | [] => rw [hsr] at h1; simp at h1
            | [x] => exact hx x hsr
            | x :: y :: l => rw [hsr] at h1; simp at h1
          have := hmap h6
          rw [dif_neg hne] at this
          exact ⟨_, this, done _ (by simp only [RelV]; exact ⟨cs, rfl, h7⟩)⟩
      cases e with
      | normal => exact fin hq
      | ret => exact fin hq
      | exit id => exact hq.elim
    · cases hb
  · cases hok
end
end Go.Ve

namespace Go.Ve
set_option linter.unusedSimpArgs false
set_option linter.unusedVariables false
open Go.RowKit

/-! The laws that a walk rewrites with: each asks for all arguments, so that nothing is opened ahead of its time. -/
/-- Two ways: both are kept shut till it is known which is walked. -/
def br (v : AV) (A : St → Prop) (sa : St) (B : St → Prop) (sb : St) : Prop :=
  match v with
  | .bool b => (b = true → A sa) ∧ (b = false → B sb)
  | _ => False
/-- The same with a third way, for a Boolean that was passed over itself. -/
def brU (v : AV) (A B U : St → Prop) (s : St) : Prop :=
  match v with
  | .bool b => (b = true → A s) ∧ (b = false → B s)
  | .tup [] => U s
  | _ => False
section
variable {A B U : St → Prop} {sa sb s : St}
theorem QS : br (.bool true) A sa B sb = A sa := by simp [br]
theorem Qy : br (.bool false) A sa B sb = B sb := by simp [br]
theorem JE {b : Bool} : br (.bool (!b)) A sa B sb = br (.bool b) B sb A sa := by cases b <;> simp [br]
theorem JF {a b : Bool} : br (.bool (a && b)) A sa B sb = ((a = true ∧ b = true → A sa) ∧ (¬ (a = true ∧ b = true) → B sb)) := by cases a <;> cases b <;> simp [br]
theorem KK {a b : Bool} : br (.bool (a || b)) A sa B sb = ((a = true ∨ b = true → A sa) ∧ (¬ (a = true ∨ b = true) → B sb)) := by cases a <;> cases b <;> simp [br]
theorem JG {p : Prop} [Decidable p] : br (.bool (decide p)) A sa B sb = ((p → A sa) ∧ (¬ p → B sb)) := by by_cases h : p <;> simp [br, h]
theorem KL {x y : Int} : br (.bool (x == y)) A sa B sb = ((x = y → A sa) ∧ (¬ x = y → B sb)) := by by_cases h : x = y <;> simp [br, h]
theorem KM {x y : Int} : br (.bool (x != y)) A sa B sb = ((¬ x = y → A sa) ∧ (x = y → B sb)) := by by_cases h : x = y <;> simp [br, h]
theorem Qz : brU (.bool true) A B U s = A s := by simp [brU]
theorem Qk : brU (.bool false) A B U s = B s := by simp [brU]
theorem KN : brU (.tup []) A B U s = U s := by simp [brU]
theorem QT {b : Bool} : brU (.bool (!b)) A B U s = brU (.bool b) B A U s := by cases b <;> simp [brU]
theorem QU {a b : Bool} : brU (.bool (a && b)) A B U s = ((a = true ∧ b = true → A s) ∧ (¬ (a = true ∧ b = true) → B s)) := by cases a <;> cases b <;> simp [brU]
theorem JH {a b : Bool} : brU (.bool (a || b)) A B U s = ((a = true ∨ b = true → A s) ∧ (¬ (a = true ∨ b = true) → B s)) := by cases a <;> cases b <;> simp [brU]
theorem QV {p : Prop} [Decidable p] : brU (.bool (decide p)) A B U s = ((p → A s) ∧ (¬ p → B s)) := by by_cases h : p <;> simp [brU, h]
theorem JI {x y : Int} : brU (.bool (x == y)) A B U s = ((x = y → A s) ∧ (¬ x = y → B s)) := by by_cases h : x = y <;> simp [brU, h]
theorem JJ {x y : Int} : brU (.bool (x != y)) A B U s = ((¬ x = y → A s) ∧ (x = y → B s)) := by by_cases h : x = y <;> simp [brU, h]
end
def QoS {P : Program} (X : Env P) (d : Option Nat) (op : SOp) (ks : List Nat) (t : Nat) (b : Bool) (r : List SOper) (K : St → Prop) (st : St) : Prop := XR X op (st.lit t b) (QmZ d ks (st.lit t b) (Qb9 X r K))
def Qlo {P : Program} (X : Env P) (d : Option Nat) (ks : List Nat) (t : Nat) (b : Bool) (r : List SOper) (K : St → Prop) (st : St) : Prop := Qb9 X r K (Qan ks ((st.lit t b).put d (.tup []) []))
def QoT {P : Program} (X : Env P) (d : Option Nat) (ks : List Nat) (r : List SOper) (K : St → Prop) (st : St) : Prop := Qb9 X r K (Qan ks (st.put d (.tup []) []))
def QoU {P : Program} (X : Env P) (ck : List (Option (List Nat))) (tr : List (List Nat)) (s : SOper) (t : Nat) (b : Bool) (K : List (List Nat) → St → Prop) (st : St) : Prop := XR X s.op (st.lit t b) (drK ck tr s (st.lit t b) K)
def Qlp {P : Program} (X : Env P) (d : Option Nat) (t : Nat) (b : Bool) (tr : List (List Nat)) (K : List (List Nat) → St → Prop) (st : St) : Prop := K ([] :: tr) ((st.lit t b).put d (.tup []) [])
def QoV {P : Program} (X : Env P) (d : Option Nat) (tr : List (List Nat)) (K : List (List Nat) → St → Prop) (st : St) : Prop := K ([] :: tr) (st.put d (.tup []) [])

section
variable {P : Program} {X : Env P}
theorem JK {Q : XT → St → Prop} {st : St} : SCode.wp X .skip Q st = Q .normal st := (rfl)
theorem Gr {ops : List SOper} {outs : List Nat} {Q : XT → St → Prop} {st : St} : SCode.wp X (.rg ops outs) Q st = Qb9 X ops (QeE outs Q) st := (rfl)
theorem KO {ops : List SOper} {outs : List Nat} {ck : List (Option (List Nat))} {Q : XT → St → Prop} {st : St} : SCode.wp X (.rgd ops outs ck) Q st = Qdd X ops ck (QeE outs Q) [] st := (rfl)
theorem KP {a b : SCode} {Q : XT → St → Prop} {st : St} : SCode.wp X (.seq a b) Q st = SCode.wp X a (Qcc (SCode.wp X b Q) Q) st := (rfl)
theorem JL {c : SX} {a b : SCode} {Q : XT → St → Prop} {st : St} : SCode.wp X (.cond c a b) Q st = br (ev (getE st.E) c) (SCode.wp X a Q) st (SCode.wp X b Q) st := (rfl)
theorem QW {id : Nat} {c : SCode} {Q : XT → St → Prop} {st : St} : SCode.wp X (.block id c) Q st = SCode.wp X c (UZ id Q) st := (rfl)
theorem JM {c : SCode} {Q : XT → St → Prop} {st : St} : SCode.wp X (.loop c) Q st = QeF (SCode.wp X c) Q st := (rfl)
theorem JN {id : Nat} {Q : XT → St → Prop} {st : St} : SCode.wp X (.exit id) Q st = Q (.exit id) st := (rfl)
theorem KQ {Q : XT → St → Prop} {st : St} : SCode.wp X .ret Q st = Q .ret st := (rfl)
theorem Gs {g : Gh} {c : SCode} {Q : XT → St → Prop} {st : St} : SCode.wp X (.gh g c) Q st = KH g st (SCode.wp X c Q) := (rfl)
theorem KR {K : St → Prop} {st : St} : Qb9 X [] K st = K st := (rfl)
theorem KS {d : Option Nat} {op : SOp} {ks : List Nat} {r : List SOper} {K : St → Prop} {st : St} : Qb9 X (⟨d, op, none, ks⟩ :: r) K st = XR X op st (QmZ d ks st (Qb9 X r K)) := (rfl)
theorem KT {d : Option Nat} {op : SOp} {t : Nat} {ks : List Nat} {r : List SOper} {K : St → Prop} {st : St} : Qb9 X (⟨d, op, some (t, true), ks⟩ :: r) K st = brU (getE st.E t) (QoS X d op ks t true r K) (Qlo X d ks t false r K) (QoT X d ks r K) st := (rfl)
theorem KU {d : Option Nat} {op : SOp} {t : Nat} {ks : List Nat} {r : List SOper} {K : St → Prop} {st : St} : Qb9 X (⟨d, op, some (t, false), ks⟩ :: r) K st = brU (getE st.E t) (Qlo X d ks t true r K) (QoS X d op ks t false r K) (QoT X d ks r K) st := by
  show (match getE st.E t with | .bool b => _ | .tup [] => _ | _ => False) = brU (getE st.E t) _ _ _ _
  rcases getE st.E t with _ | _ | _ | _ | (_ | _) | _ | _ | _ | _ | _ | _ | _ <;> first | rfl | exact propext and_comm
theorem KV {d : Option Nat} {op : SOp} {ks : List Nat} {t : Nat} {b : Bool} {r : List SOper} {K : St → Prop} {st : St} : QoS X d op ks t b r K st = XR X op (st.lit t b) (QmZ d ks (st.lit t b) (Qb9 X r K)) := (rfl)
theorem KW {d : Option Nat} {ks : List Nat} {t : Nat} {b : Bool} {r : List SOper} {K : St → Prop} {st : St} : Qlo X d ks t b r K st = Qb9 X r K (Qan ks ((st.lit t b).put d (.tup []) [])) := (rfl)
theorem KX {d : Option Nat} {ks : List Nat} {r : List SOper} {K : St → Prop} {st : St} : QoT X d ks r K st = Qb9 X r K (Qan ks (st.put d (.tup []) [])) := (rfl)
theorem KY {ck : List (Option (List Nat))} {tr : List (List Nat)} {K : St → Prop} {st : St} : Qdd X [] ck K tr st = K st := (rfl)
theorem KZ {ks : List Nat} {d : Option Nat} {op : SOp} {r : List SOper} {c : Option (List Nat)} {ck : List (Option (List Nat))} {tr : List (List Nat)} {K : St → Prop} {st : St} : Qdd X (⟨d, op, none, ks⟩ :: r) (c :: ck) K tr st = XR X op st (drK (c :: ck) tr ⟨d, op, none, ks⟩ st (Qdd X r ck K)) := (rfl)
theorem K1 {ks : List Nat} {d : Option Nat} {op : SOp} {t : Nat} {r : List SOper} {c : Option (List Nat)} {ck : List (Option (List Nat))} {tr : List (List Nat)} {K : St → Prop} {st : St} : Qdd X (⟨d, op, some (t, true), ks⟩ :: r) (c :: ck) K tr st =
    brU (getE st.E t) (QoU X (c :: ck) tr ⟨d, op, some (t, true), ks⟩ t true (Qdd X r ck K)) (Qlp X d t false tr (Qdd X r ck K)) (QoV X d tr (Qdd X r ck K)) st := (rfl)
theorem K2 {ks : List Nat} {d : Option Nat} {op : SOp} {t : Nat} {r : List SOper} {c : Option (List Nat)} {ck : List (Option (List Nat))} {tr : List (List Nat)} {K : St → Prop} {st : St} : Qdd X (⟨d, op, some (t, false), ks⟩ :: r) (c :: ck) K tr st =
    brU (getE st.E t) (Qlp X d t true tr (Qdd X r ck K)) (QoU X (c :: ck) tr ⟨d, op, some (t, false), ks⟩ t false (Qdd X r ck K)) (QoV X d tr (Qdd X r ck K)) st := by
  show (match getE st.E t with | .bool b => _ | .tup [] => _ | _ => False) = brU (getE st.E t) _ _ _ _
  rcases getE st.E t with _ | _ | _ | _ | (_ | _) | _ | _ | _ | _ | _ | _ | _ <;> first | rfl | exact propext and_comm
theorem QX {d : Option Nat} {op : SOp} {g : Option (Nat × Bool)} {ks : List Nat} {ck : List (Option (List Nat))} {tr : List (List Nat)} {t : Nat} {b : Bool} {K : List (List Nat) → St → Prop} {st : St} :
    QoU X ck tr ⟨d, op, g, ks⟩ t b K st = XR X op (st.lit t b) (drK ck tr ⟨d, op, g, ks⟩ (st.lit t b) K) := (rfl)
theorem QY {d : Option Nat} {t : Nat} {b : Bool} {tr : List (List Nat)} {K : List (List Nat) → St → Prop} {st : St} : Qlp X d t b tr K st = K ([] :: tr) ((st.lit t b).put d (.tup []) []) := (rfl)
theorem QZ {d : Option Nat} {tr : List (List Nat)} {K : List (List Nat) → St → Prop} {st : St} : QoV X d tr K st = K ([] :: tr) (st.put d (.tup []) []) := (rfl)
theorem JO {ks : List Nat} {d : Option Nat} {op : SOp} {g : Option (Nat × Bool)} {ck : List (Option (List Nat))} {tr : List (List Nat)} {st : St} {K : List (List Nat) → St → Prop} {v : AV} {ups : List (Nat × AObj)} :
    drK (none :: ck) tr ⟨d, op, g, ks⟩ st K v ups = K ([] :: tr) (st.put d v ups) := by simp [drK, trk, nxt]
theorem JP {ks : List Nat} {js : List Nat} {d : Option Nat} {op : SOp} {g : Option (Nat × Bool)} {ck : List (Option (List Nat))} {tr : List (List Nat)} {st : St} {K : List (List Nat) → St → Prop} {v : AV} {ups : List (Nat × AObj)} :
    drK (some js :: ck) tr ⟨d, op, g, ks⟩ st K v ups = ((js.all fun d => Gl (tr.getD d []) (Gm op (getE st.E) ups)) = true ∧ K (Gm op (getE st.E) ups :: tr) (st.put d v ups)) := (rfl)
theorem JQ {d : Option Nat} {ks : List Nat} {st : St} {K : St → Prop} {v : AV} {ups : List (Nat × AObj)} : QmZ d ks st K v ups = K (Qan ks (st.put d v ups)) := (rfl)
theorem Q0 {outs : List Nat} {Q : XT → St → Prop} {st : St} : QeE outs Q st = Q .normal (trim outs st) := (rfl)
theorem Q1 {n : St → Prop} {Q : XT → St → Prop} {st : St} : Qcc n Q .normal st = n st := (rfl)
theorem Q2 {n : St → Prop} {Q : XT → St → Prop} {st : St} {id : Nat} : Qcc n Q (.exit id) st = Q (.exit id) st := (rfl)
theorem Q3 {n : St → Prop} {Q : XT → St → Prop} {st : St} : Qcc n Q .ret st = Q .ret st := (rfl)
theorem Q4 {c : SCode} {Q : XT → St → Prop} {st : St} : SCode.wp X (.scope c) Q st = SCode.wp X c Q st := (rfl)
theorem Q5 {l : Nat} {Q : XT → St → Prop} {st : St} : SCode.wp X (.label l) Q st = Q .normal st := (rfl)
theorem JR {i : Nat} {Q : XT → St → Prop} {st : St} : UZ i Q .normal st = Q .normal st := (rfl)
theorem JS {i id : Nat} {Q : XT → St → Prop} {st : St} : UZ i Q (.exit id) st = if id = i then Q .normal st else Q (.exit id) st := (rfl)
theorem JT {i : Nat} {Q : XT → St → Prop} {st : St} : UZ i Q .ret st = Q .ret st := (rfl)
theorem Jq {x : SX} {args : List SX} {st : St} {K : AV → List (Nat × AObj) → Prop} : XR X (.callV x args) st K = QbA X (ev (getE st.E) x) (args.map (ev (getE st.E))) (getM st.M) K := (rfl)
theorem Jr {f : FuncId} {a b args : List AV} {M : Nat → Option AObj} {K : AV → List (Nat × AObj) → Prop} : QbA X (.fn f a b) args M K = (Qdb P f = true ∧ Qdx X f (a ++ (args ++ b)) M K) := (rfl)
theorem Kp {f : FuncId} {caps : List SX} {st : St} {K : AV → List (Nat × AObj) → Prop} : XR X (.clos f caps) st K = ZV (eff (.clos f caps) (getE st.E) (getM st.M)) K := (rfl)
theorem Js {o kk : Nat} {st : St} {K : AV → List (Nat × AObj) → Prop} : XR X (.mkmap o kk) st K = ZV (eff (.mkmap o kk) (getE st.E) (getM st.M)) K := (rfl)
theorem Kq {ok : Bool} {kk : Nat} {z : AV} {m k : SX} {st : St} {K : AV → List (Nat × AObj) → Prop} : XR X (.look ok kk z m k) st K = ZV (eff (.look ok kk z m k) (getE st.E) (getM st.M)) K := (rfl)
theorem Kr {kk : Nat} {m k x : SX} {st : St} {K : AV → List (Nat × AObj) → Prop} : XR X (.mset kk m k x) st K = ZV (eff (.mset kk m k x) (getE st.E) (getM st.M)) K := (rfl)
theorem Yu {n : Nat} {x i : SX} {st : St} {K : AV → List (Nat × AObj) → Prop} : XR X (.idx n x i) st K = ZV (eff (.idx n x i) (getE st.E) (getM st.M)) K := (rfl)
theorem Ks {n sz : Nat} {x i : SX} {st : St} {K : AV → List (Nat × AObj) → Prop} : XR X (.idxN n sz x i) st K = ZV (eff (.idxN n sz x i) (getE st.E) (getM st.M)) K := (rfl)
theorem QL {n sz : Nat} {x i : SX} {st : St} {K : AV → List (Nat × AObj) → Prop} : XR X (.iaddrA n sz x i) st K = ZV (eff (.iaddrA n sz x i) (getE st.E) (getM st.M)) K := (rfl)
theorem Jt {neg : Bool} {x : SX} {st : St} {K : AV → List (Nat × AObj) → Prop} : XR X (.isnil neg x) st K = ZV (eff (.isnil neg x) (getE st.E) (getM st.M)) K := (rfl)
theorem Yv {x : SX} {st : St} {K : AV → List (Nat × AObj) → Prop} : XR X (.b2s x) st K = ZV (eff (.b2s x) (getE st.E) (getM st.M)) K := (rfl)
theorem JU {f : FuncId} {args : List SX} {st : St} {K : AV → List (Nat × AObj) → Prop} : XR X (.call f args) st K = Qdx X f (args.map (ev (getE st.E))) (getM st.M) K := (rfl)
theorem JV {p : Prop} {v : AV} {u : List (Nat × AObj)} {K : AV → List (Nat × AObj) → Prop} : ZV ⟨p, v, u⟩ K = (p ∧ K v u) := (rfl)

theorem QA {f : FuncId} {args : List AV} {M : Nat → Option AObj} {K : AV → List (Nat × AObj) → Prop} : Qdx X f args M K = Qlb P X f args M K (X.R f args M) := (rfl)
theorem QB {f : FuncId} {args : List AV} {M : Nat → Option AObj} {K : AV → List (Nat × AObj) → Prop} : Qlb P X f args M K none = QiM P X f args M K (Y7 M args) := (rfl)
theorem QD {f : FuncId} {args : List AV} {M : Nat → Option AObj} {K : AV → List (Nat × AObj) → Prop} {α : Type} {p : Prop} {g : α → Prop} {r : α → AV} {u : α → List (Nat × AObj)} : Qlb P X f args M K (some ⟨p, g, r, u⟩) = (p ∧ ∀ a, g a → K (r a) (u a)) := (rfl)
theorem Gt {f : FuncId} {l : List AV} {M : Nat → Option AObj} : (Env.nil P).R f l M = none := (rfl)
theorem Gu {f g : FuncId} {t : List AV → Option (Prop × AV)} {h : ∀ args p v, t args = some (p, v) → p → Contract P f args [] v [] ∧ noref v = true ∧ No99 v} {l : List AV} {M : Nat → Option AObj} : (X.add f t h).R g l M = X.R g l M := (rfl)
theorem Gv {f g : FuncId} {t : RTab} {h : okTab P f t} {l : List AV} {M : Nat → Option AObj} : (X.addR f t h).R g l M = if g = f then t l M else X.R g l M := (rfl)
theorem Gw {f g : FuncId} {t : RTab} {h : okTab P f t} {l : List AV} : (X.addR f t h).T g l = X.T g l := (rfl)
theorem Q6 {f : FuncId} {args l : List AV} {M : Nat → Option AObj} {K : AV → List (Nat × AObj) → Prop} : QiM P X f args M K (some l) = QoM P f args M K (X.T f l) := (rfl)
theorem Q7 {f : FuncId} {args : List AV} {M : Nat → Option AObj} {K : AV → List (Nat × AObj) → Prop} {p : Prop} {v : AV} : QoM P f args M K (some (p, v)) = (p ∧ K v []) := (rfl)
theorem Gx {f : FuncId} {l : List AV} : (Env.nil P).T f l = none := (rfl)
theorem Gy {f g : FuncId} {t : List AV → Option (Prop × AV)} {h : ∀ args p v, t args = some (p, v) → p → Contract P f args [] v [] ∧ noref v = true ∧ No99 v} {l : List AV} : (X.add f t h).T g l = if g = f then t l else X.T g l := (rfl)
theorem Qlq {α : Type} (F : α → St) (good : α → Prop) (μ : α → Nat) (a0 : α) {body : (XT → St → Prop) → St → Prop} {Q : XT → St → Prop} {st : St} (h0 : Wk st (F a0)) (g0 : good a0)
    (step : ∀ a, good a → body (Qcc (QoP (fun m st => ∃ a, st = F a ∧ good a ∧ μ a = m) (μ a)) Q) (F a)) : QeF body Q st :=
  ⟨fun m st => ∃ a, st = F a ∧ good a ∧ μ a = m, ⟨μ a0, F a0, h0, a0, rfl, g0, rfl⟩, fun m st ⟨a, h1, h2, h3⟩ => by subst h1; subst h3; exact step a h2⟩
theorem Q8 {d : Nat} : getE [] d = .junk := (rfl)
theorem Q9 {k : Nat} {v : AV} {r : List (Nat × AV)} {d : Nat} : getE ((k, v) :: r) d = if d = k then v else getE r d := (rfl)
theorem QQ {d : Nat} : getM [] d = none := (rfl)
theorem QR {k : Nat} {v : AObj} {r : List (Nat × AObj)} {d : Nat} : getM ((k, v) :: r) d = if d = k then some v else getM r d := (rfl)
theorem JW {M : List (Nat × AObj)} : YU M [] = M := (rfl)
theorem JX {M : List (Nat × AObj)} {k : Nat} {v : AObj} : YU M [(k, v)] = Xx M k v := (rfl)
theorem JY {M : List (Nat × AObj)} {k : Nat} {v : AObj} {r : List (Nat × AObj)} : YU M ((k, v) :: r) = Xx (YU M r) k v := (rfl)
theorem JZ {st : St} {d : Nat} {v : AV} {u : List (Nat × AObj)} : st.put (some d) v u = ⟨Qhb st.E d v, YU st.M u⟩ := (rfl)
theorem J0 {st : St} {v : AV} {u : List (Nat × AObj)} : st.put none v u = ⟨st.E, YU st.M u⟩ := (rfl)
theorem Ja {st : St} : Qan [] st = st := (rfl)
theorem Jb {d : Nat} {l : List Nat} {st : St} : Qan (d :: l) st = Qan l ⟨Qb8 d st.E, st.M⟩ := (rfl)
theorem QE {d : Nat} : Qb8 d [] = [] := (rfl)
theorem QF {d k : Nat} {v : AV} {r : List (Nat × AV)} : Qb8 d ((k, v) :: r) = if d = k then Qb8 d r else (k, v) :: Qb8 d r := (rfl)
theorem Qc {d : Nat} {v : AV} : Qhb [] d v = [(d, v)] := (rfl)
theorem Qd {k d : Nat} {x v : AV} {r : List (Nat × AV)} : Qhb ((k, x) :: r) d v = if d = k then (k, v) :: r else (k, x) :: Qhb r d v := (rfl)
theorem K3 {st : St} {t : Nat} {b : Bool} : st.lit t b = ⟨Qhb st.E t (.bool b), st.M⟩ := (rfl)
theorem Ky {res : List SRes} {r : AV} {post : List (Nat × AObj)} {st : St} : Qjx res r post .ret st = YS res r post st := (rfl)
theorem Jz {res : List SRes} {r : AV} {post : List (Nat × AObj)} {st : St} : Qjx res r post .normal st = YS res r post st := (rfl)
end

section
variable {P : Program} {X : Env P} {st : St} {K : AV → List (Nat × AObj) → Prop}
theorem Gz {x : SX} : XR X (.mv x) st K = ZV (eff (.mv x) (getE st.E) (getM st.M)) K := (rfl)
theorem QG {o e sz : Nat} : XR X (.newnil o e sz) st K = ZV (eff (.newnil o e sz) (getE st.E) (getM st.M)) K := (rfl)
theorem J1 {c a b : SX} : XR X (.pick c a b) st K = ZV (eff (.pick c a b) (getE st.E) (getM st.M)) K := (rfl)
theorem K4 {b : BinOp} {x y : SX} : XR X (.bin b x y) st K = ZV (eff (.bin b x y) (getE st.E) (getM st.M)) K := (rfl)
theorem J2 {b : BinOp} {x y : SX} : XR X (.binN b x y) st K = ZV (eff (.binN b x y) (getE st.E) (getM st.M)) K := (rfl)
theorem K5 {x : SX} : XR X (.neg x) st K = ZV (eff (.neg x) (getE st.E) (getM st.M)) K := (rfl)
theorem K6 {x : SX} : XR X (.not x) st K = ZV (eff (.not x) (getE st.E) (getM st.M)) K := (rfl)
theorem K7 {n : Bool} {x y : SX} : XR X (.eqB n x y) st K = ZV (eff (.eqB n x y) (getE st.E) (getM st.M)) K := (rfl)
theorem K8 {n : Bool} {ks : List LK} {x y : SX} : XR X (.eqS n ks x y) st K = ZV (eff (.eqS n ks x y) (getE st.E) (getM st.M)) K := (rfl)
theorem J3 {k : IntKind} {x : SX} : XR X (.conv k x) st K = ZV (eff (.conv k x) (getE st.E) (getM st.M)) K := (rfl)
theorem Jc {o : Nat} {zs : List AV} : XR X (.alloc o zs) st K = ZV (eff (.alloc o zs) (getE st.E) (getM st.M)) K := (rfl)
theorem K9 {o : Nat} {x : SX} : XR X (.box o x) st K = ZV (eff (.box o x) (getE st.E) (getM st.M)) K := (rfl)
theorem Jd {x : SX} : XR X (.load1 x) st K = ZV (eff (.load1 x) (getE st.E) (getM st.M)) K := (rfl)
theorem Je {n : Nat} {x : SX} : XR X (.loadN n x) st K = ZV (eff (.loadN n x) (getE st.E) (getM st.M)) K := (rfl)
theorem Jf {n : Nat} {x y : SX} : XR X (.store n x y) st K = ZV (eff (.store n x y) (getE st.E) (getM st.M)) K := (rfl)
theorem Jg {x : SX} : XR X (.nilck x) st K = ZV (eff (.nilck x) (getE st.E) (getM st.M)) K := (rfl)
theorem Jh {o : Nat} {x : SX} : XR X (.faddr o x) st K = ZV (eff (.faddr o x) (getE st.E) (getM st.M)) K := (rfl)
theorem QH {o : Nat} {x : SX} : XR X (.field1 o x) st K = ZV (eff (.field1 o x) (getE st.E) (getM st.M)) K := (rfl)
theorem QI {o n : Nat} {x : SX} : XR X (.fieldN o n x) st K = ZV (eff (.fieldN o n x) (getE st.E) (getM st.M)) K := (rfl)
theorem Ji {sz : Nat} {x i : SX} : XR X (.iaddr sz x i) st K = ZV (eff (.iaddr sz x i) (getE st.E) (getM st.M)) K := (rfl)
theorem J4 {x i : SX} : XR X (.istr x i) st K = ZV (eff (.istr x i) (getE st.E) (getM st.M)) K := (rfl)
theorem Jj {x : SX} {lo hi : Option SX} : XR X (.slStr x lo hi) st K = ZV (eff (.slStr x lo hi) (getE st.E) (getM st.M)) K := (rfl)
theorem J5 {sz : Nat} {x : SX} {lo hi : Option SX} : XR X (.slSl sz x lo hi) st K = ZV (eff (.slSl sz x lo hi) (getE st.E) (getM st.M)) K := (rfl)
theorem J6 {x : SX} : XR X (.lenS x) st K = ZV (eff (.lenS x) (getE st.E) (getM st.M)) K := (rfl)
theorem J7 {x : SX} : XR X (.lenL x) st K = ZV (eff (.lenL x) (getE st.E) (getM st.M)) K := (rfl)
theorem GA {x y : SX} : XR X (.mx x y) st K = ZV (eff (.mx x y) (getE st.E) (getM st.M)) K := (rfl)
theorem GB {x y : SX} : XR X (.mn x y) st K = ZV (eff (.mn x y) (getE st.E) (getM st.M)) K := (rfl)
theorem Ya {i : Nat} {x : SX} : XR X (.ext i x) st K = ZV (eff (.ext i x) (getE st.E) (getM st.M)) K := (rfl)
theorem Jk {zs : List AV} {ps : List (Nat × Nat × SX)} : XR X (.build zs ps) st K = ZV (eff (.build zs ps) (getE st.E) (getM st.M)) K := (rfl)
theorem Yb {e sz : Nat} {ps : List SX} : XR X (.lit e sz ps) st K = ZV (eff (.lit e sz ps) (getE st.E) (getM st.M)) K := (rfl)
theorem QJ {o e sz : Nat} {ps : List SX} : XR X (.litOwn o e sz ps) st K = ZV (eff (.litOwn o e sz ps) (getE st.E) (getM st.M)) K := (rfl)
theorem J8 {o e sz : Nat} {x y : SX} : XR X (.appN o e sz x y) st K = ZV (eff (.appN o e sz x y) (getE st.E) (getM st.M)) K := (rfl)
theorem KJ {o e sz : Nat} {x y : SX} : XR X (.app o e sz x y) st K = ZV (eff (.app o e sz x y) (getE st.E) (getM st.M)) K := (rfl)
theorem GC {o e sz : Nat} {zs : List AV} {n : SX} : XR X (.mk o e sz zs n) st K = ZV (eff (.mk o e sz zs n) (getE st.E) (getM st.M)) K := (rfl)
theorem Jl {x : SX} : XR X (.mvfrz x) st K = ZV (eff (.mvfrz x) (getE st.E) (getM st.M)) K := (rfl)
end
theorem GD {E : Nat → AV} {k : Nat} : ev E (.v k) = E k := (rfl)
theorem GX {E : Nat → AV} {k : Nat} : ev E (.g k) = Qqq k := (rfl)
theorem GE {E : Nat → AV} {x : AV} : ev E (.c x) = x := (rfl)
theorem Yc {k : IntKind} {n : Int} : YL (.int k n) = [.int k n] := (rfl)
theorem J9 {b : Bool} : YL (.bool b) = [.bool b] := (rfl)
theorem Yd {s : ByteArray} : YL (.str s) = [.str s] := (rfl)
theorem Ye {l : List AV} : YL (.agg l) = l := (rfl)
theorem GF {t sz : Nat} {xs : List (List AV)} : YL (.sl t sz xs) = [.sl t sz xs] := (rfl)
theorem Yf {o v l h : Nat} : YL (.own o v l h) = [.own o v l h] := (rfl)
theorem Yg {o f : Nat} : YL (.ptr o f) = [.ptr o f] := (rfl)
theorem GG {t : Nat} {l : List AV} : YL (.pp t l) = [.pp t l] := (rfl)
theorem Yh {k : IntKind} {n : Int} : Y8 (.int k n) = true := (rfl)
theorem Ka {b : Bool} : Y8 (.bool b) = true := (rfl)
theorem Yi {s : ByteArray} : Y8 (.str s) = true := (rfl)
theorem GH {t sz : Nat} {xs : List (List AV)} : Y8 (.sl t sz xs) = true := (rfl)
theorem Yj {o v l h : Nat} : Y8 (.own o v l h) = true := (rfl)
theorem Yk {o f : Nat} : Y8 (.ptr o f) = true := (rfl)
theorem GI {t : Nat} {l : List AV} : Y8 (.pp t l) = true := (rfl)
theorem GJ {p : AV → Bool} : [].all p = true := (rfl)
theorem GK {p : AV → Bool} {x : AV} {l : List AV} : (x :: l).all p = (p x && l.all p) := (rfl)
theorem Yl {v : AV} : ok1 v = ⟨True, v, []⟩ := (rfl)
theorem Kb {outs : List Nat} {st : St} : trim outs st = ⟨outs.map fun k => (k, getE st.E k), st.M⟩ := (rfl)
theorem Qe {d : Nat} {v : AObj} : Xx [] d v = [(d, v)] := (rfl)
theorem Qf {k d : Nat} {x v : AObj} {r : List (Nat × AObj)} : Xx ((k, x) :: r) d v = if d = k then (k, v) :: r else (k, x) :: Xx r d v := (rfl)
theorem Kc {n : Nat} : QeG n [] = [] := (rfl)
theorem Kd {n : Nat} {x : AV} {l : List AV} : QeG n (x :: l) = (n, x) :: QeG (n + 1) l := (rfl)
abbrev jm (d x : Nat) (k : List Nat) : SOper := ⟨some d, .mv (.v x), none, k⟩
abbrev jn (d : Nat) (o : SOp) (k : List Nat) : SOper := ⟨some d, o, none, k⟩
abbrev jf (d i x : Nat) (k : List Nat) : SOper := ⟨some d, .faddr i (.v x), none, k⟩
abbrev jl (d x : Nat) (k : List Nat) : SOper := ⟨some d, .load1 (.v x), none, k⟩
abbrev jh (d t : Nat) (o : SOp) (k : List Nat) : SOper := ⟨some d, o, some (t, false), k⟩
abbrev jt (d t : Nat) (o : SOp) (k : List Nat) : SOper := ⟨some d, o, some (t, true), k⟩
abbrev jL (d n x : Nat) (k : List Nat) : SOper := ⟨some d, .loadN n (.v x), none, k⟩
abbrev jb (d : Nat) (o : BinOp) (x y : Nat) (k : List Nat) : SOper := ⟨some d, .bin o (.v x) (.v y), none, k⟩
abbrev jc (d : Nat) (o : BinOp) (x : Nat) (n : Int) (k : List Nat) : SOper := ⟨some d, .bin o (.v x) (.c (.int .i64 n)), none, k⟩
abbrev ja (d n x y : Nat) (k : List Nat) : SOper := ⟨some d, .iaddr n (.v x) (.v y), none, k⟩
abbrev jM (d t x : Nat) (k : List Nat) : SOper := ⟨some d, .mv (.v x), some (t, false), k⟩
abbrev jI (d : Nat) (n : Int) (k : List Nat) : SOper := ⟨some d, .mv (.c (.int .i64 n)), none, k⟩
abbrev jp (d x y : Nat) (k : List Nat) : SOper := ⟨some d, .pick (.v x) (.c (.bool true)) (.v y), none, k⟩
abbrev ci (n : Int) : SX := .c (.int .i64 n)
abbrev jq (l : List SOper) (o : List Nat) (c : SCode) : SCode := .seq (.rg l o) c
end Go.Ve

namespace Go.Ve
set_option linter.unusedSimpArgs false
set_option linter.unusedVariables false
open Go.RowKit

/-! Rows that are told as a list of one kind. -/
section
variable {α : Type} [Inhabited α] {f : α → List AV} {l : List α} {K : AV → List (Nat × AObj) → Prop} {M : Nat → Option AObj}

theorem Qap {i : Nat} (h : i < l.length) : (l.map f).getD i [] = f (l.getD i default) := by
  simp [h]
omit [Inhabited α] in
theorem Qce {i : Nat} (h : ¬ i < l.length) : (l.map f).getD i [] = [] := by
  simp [Nat.not_lt.1 h]
theorem Jm {t sz sz' : Nat} {n : Int} : ZV (Qbl M sz n (.sl t sz' (l.map f))) K = (sz = sz' ∧ 0 ≤ n ∧ n < l.length ∧ K (.pp t (f (l.getD n.toNat default))) []) := by
  simp only [ZV, Qbl, List.length_map, and_assoc]
  refine propext ⟨?_, ?_⟩
  · rintro ⟨h1, h2, h3, h4⟩
    rw [Qap (by omega)] at h4
    exact ⟨h1, h2, h3, h4⟩
  · rintro ⟨h1, h2, h3, h4⟩
    rw [Qap (by omega)]
    exact ⟨h1, h2, h3, h4⟩
theorem G8 {i off : Nat} {new : List AV} (g : α → α) (h : ∀ x, YB (f x) off new = f (g x)) : (l.map f).set i (YB ((l.map f).getD i []) off new) = (l.set i (g (l.getD i default))).map f := by
  by_cases hi : i < l.length
  · rw [Qap hi, h, List.map_set]
  · rw [List.set_eq_of_length_le (by simp; omega), List.set_eq_of_length_le (by omega)]
end
theorem fm0 {β : Type} {p : β → Prop} : (∀ x, x ∈ ([] : List β) → p x) = True := by simp
theorem Qqx : (JD []).pre = False := (rfl)
/-! Places, by what they lead to. -/
def Qqy (ob : Option AObj) (ver i off : Nat) (k : List AV → Eff) : Eff :=
  match ob with | some (.arr _ cv _ xs) => let r := k ((xs.getD i []).drop off); ⟨ver = cv ∧ r.pre, r.v, r.ups⟩ | _ => bad
def iaO (ob : Option AObj) (sz : Nat) (i : Int) (o ver lo hi : Nat) : Eff :=
  match ob with | some (.arr _ cv sz' _) => ⟨sz = sz' ∧ ver = cv ∧ 0 ≤ i ∧ i < ((hi - lo : Nat) : Int), .elt o ver (lo + i.toNat) 0, []⟩ | _ => bad
section
variable {M : Nat → Option AObj} {k : List AV → Eff} {K : AV → List (Nat × AObj) → Prop}
theorem Ke {o off : Nat} : Zj M (.ptr o off) k = (match M o with | some (.box ls) => k (ls.drop off) | _ => bad) := (rfl)
theorem Ym {t : Nat} {ls : List AV} : Zj M (.pp t ls) k = k ls := (rfl)
theorem Kf {o ver i off : Nat} : Zj M (.elt o ver i off) k = Qqy (M o) ver i off k := (rfl)
theorem Kg {sz o ver lo hi : Nat} {n : Int} : Qbl M sz n (.own o ver lo hi) = iaO (M o) sz n o ver lo hi := (rfl)
theorem Kh {sz sz' o ver lo hi e cv : Nat} {n : Int} {xs : List (List AV)} : iaO (some (.arr e cv sz' xs)) sz n o ver lo hi = ⟨sz = sz' ∧ ver = cv ∧ 0 ≤ n ∧ n < ((hi - lo : Nat) : Int), .elt o ver (lo + n.toNat) 0, []⟩ := (rfl)
theorem GL {α : Type} [Inhabited α] {f : α → List AV} {l : List α} {e cv sz ver i off : Nat} : ZV (Qqy (some (.arr e cv sz (l.map f))) ver i off JD) K = (ver = cv ∧ i < l.length ∧ ZV (JD ((f (l.getD i default)).drop off)) K) := by
  simp only [ZV, Qqy, and_assoc]
  by_cases h : i < l.length
  · simp only [Qap h, h, true_and]
  · simp only [Qce h, h, List.drop_nil, Qqx, false_and, and_false]
theorem GM {α : Type} [Inhabited α] {f : α → List AV} {l : List α} {e cv sz ver i off n : Nat} : ZV (Qqy (some (.arr e cv sz (l.map f))) ver i off fun ls => ⟨n + 1 ≤ ls.length, .agg (ls.take (n + 1)), []⟩) K = (ver = cv ∧ i < l.length ∧ ZV ⟨n + 1 ≤ ((f (l.getD i default)).drop off).length, .agg (((f (l.getD i default)).drop off).take (n + 1)), []⟩ K) := by
  simp only [ZV, Qqy, and_assoc]
  by_cases h : i < l.length
  · simp only [Qap h, h, true_and]
  · simp only [Qce h, h, List.drop_nil, List.length_nil, false_and, and_false, Nat.not_succ_le_zero, Nat.add_one_ne_zero, Nat.le_zero_eq]
end
theorem GN {x : AV} {l new : List AV} {n : Nat} : YB (x :: l) (n + 1) new = x :: YB l n new := by simp [YB, Nat.add_right_comm]
theorem GO {x y : AV} {l new : List AV} : YB (x :: l) 0 (y :: new) = y :: YB l 0 new := by simp [YB]
theorem GP {l : List AV} : YB l 0 [] = l := by simp [YB]

/-! What a function gives back. -/
theorem GQ {k : Nat} {r : AV} {st : St} : Qjx [.t k] r [] .ret st = (getE st.E k = r ∧ Qx [] r = true ∧ keepB st.M [] = true) := by
  simp [Qjx, YS, QkW, wkM, dom]
theorem Yn {k : Nat} {r : AV} {st : St} : Qjx [.t k] r [] .normal st = (getE st.E k = r ∧ Qx [] r = true ∧ keepB st.M [] = true) := by
  simp [Qjx, YS, QkW, wkM, dom]
theorem Yo {M' : List (Nat × AObj)} : keepB [] M' = true := (rfl)
theorem Yp {k : Nat} {x : AObj} {M : List (Nat × AObj)} : keepB ((k, x) :: M) [] = (decide (100 ≤ k % 1000) && keepB M []) := by simp [keepB, dom]
theorem Ki {d : List Nat} {k : IntKind} {n : Int} : Qx d (.int k n) = true := (rfl)
theorem Jn {d : List Nat} {b : Bool} : Qx d (.bool b) = true := (rfl)
theorem Kj {d : List Nat} {s : ByteArray} : Qx d (.str s) = true := (rfl)
theorem Yq {d : List Nat} {t sz : Nat} {xs : List (List AV)} : Qx d (.sl t sz xs) = true := (rfl)
theorem Kk {d : List Nat} {l : List AV} : Qx d (.agg l) = Qo d l := (rfl)
theorem Kl {d : List Nat} {l : List AV} : Qx d (.tup l) = Qo d l := (rfl)
theorem GR {d : List Nat} : Qo d [] = true := (rfl)
theorem GS {d : List Nat} {x : AV} {l : List AV} : Qo d (x :: l) = (Qx d x && Qo d l) := (rfl)
theorem GT {k : Nat} {st : St} {v : AV} : QkW st (.t k) v = (getE st.E k = v) := (rfl)
theorem Yr {k n : Nat} {st : St} {v : AV} : QkW st (.cN k n) v = (match getE st.E k with
    | .ptr o off => match getM st.M o with | some (.box ls) => off + n ≤ ls.length ∧ v = .agg ((ls.drop off).take n) | _ => False
    | _ => False) := (rfl)
theorem Ys {st : St} {vs : List AV} : Qcd st [] vs = (vs = []) := (rfl)
theorem Yt {st : St} {x : SRes} {xs : List SRes} {v : AV} {vs : List AV} : Qcd st (x :: xs) (v :: vs) = (QkW st x v ∧ Qcd st xs vs) := by
  simp only [Qcd, List.cons.injEq]
  exact propext ⟨fun ⟨_, _, ⟨h1, h2⟩, h3, h4⟩ => by subst h1; subst h2; exact ⟨h3, h4⟩, fun ⟨h1, h2⟩ => ⟨v, vs, ⟨rfl, rfl⟩, h1, h2⟩⟩
theorem Jo {x y : SRes} {rs : List SRes} {vs : List AV} {st : St} : Qjx (x :: y :: rs) (.tup vs) [] .ret st = (Qcd st (x :: y :: rs) vs ∧ Qx [] (.tup vs) = true ∧ keepB st.M [] = true) := by
  simp [Qjx, YS, wkM, dom]
theorem Jp {x : SRes} {r : AV} {st : St} : Qjx [x] r [] .ret st = (QkW st x r ∧ Qx [] r = true ∧ keepB st.M [] = true) := by
  simp [Qjx, YS, wkM, dom]
end Go.Ve

namespace Go.Ve
set_option linter.unusedSimpArgs false
set_option linter.unusedVariables false
open Go.RowKit

/-! ## one outcome of many: what holds ahead of a code leads to one end -/
section
variable {P : Program} {X : Env P}

theorem Qjy : ∀ {ops : List SOper} {K : St → Prop} {st : St}, Qb9 X ops K st → ∃ st', K st' ∧ ∀ K' : St → Prop, K' st' → Qb9 (Env.nil P) ops K' st
  | [], K, st, h => ⟨st, h, fun K' h => h⟩
  | s :: rest, K, st, h => by
    simp only [Qb9] at h ⊢
    have one : ∀ {st1 : St}, XR X s.op st1 (QmZ s.dst s.k st1 (Qb9 X rest K)) → ∃ st', K st' ∧ ∀ K' : St → Prop, K' st' → XR (Env.nil P) s.op st1 (QmZ s.dst s.k st1 (Qb9 (Env.nil P) rest K')) := by
      intro st1 h
      obtain ⟨v, ups, h1, h2⟩ := Qd3 h
      obtain ⟨st', h3, h4⟩ := Qjy h2
      exact ⟨st', h3, fun K' hk => Qhy h1 (h4 K' hk)⟩
    split at h
    · exact one h
    · split at h
      · rename_i t want _ _ b _
        by_cases e : b = want
        · obtain ⟨st', h3, h4⟩ := one (h.1 e)
          exact ⟨st', h3, fun K' hk => ⟨fun _ => h4 K' hk, fun e2 => by subst e; cases b <;> simp at e2⟩⟩
        · have e2 : b = !want := by cases b <;> cases want <;> simp_all
          obtain ⟨st', h3, h4⟩ := Qjy (h.2 e2)
          exact ⟨st', h3, fun K' hk => ⟨fun e3 => absurd e3 e, fun _ => h4 K' hk⟩⟩
      · obtain ⟨st', h3, h4⟩ := Qjy h
        exact ⟨st', h3, fun K' hk => h4 K' hk⟩
      · exact h.elim
theorem Qjz : ∀ {ops : List SOper} {ck : List (Option (List Nat))} {K : St → Prop} {tr : List (List Nat)} {st : St}, Qdd X ops ck K tr st → ∃ st', K st' ∧ ∀ K' : St → Prop, K' st' → Qdd (Env.nil P) ops ck K' tr st
  | [], ck, K, tr, st, h => ⟨st, h, fun K' h => h⟩
  | s :: rest, ck, K, tr, st, h => by
    simp only [Qdd] at h ⊢
    have one : ∀ {st1 : St}, XR X s.op st1 (drK ck tr s st1 (Qdd X rest ck.tail K)) → ∃ st', K st' ∧ ∀ K' : St → Prop, K' st' → XR (Env.nil P) s.op st1 (drK ck tr s st1 (Qdd (Env.nil P) rest ck.tail K')) := by
      intro st1 h
      obtain ⟨v, ups, h1, h2, h2'⟩ := Qd3 h
      obtain ⟨st', h3, h4⟩ := Qjz h2'
      exact ⟨st', h3, fun K' hk => Qhy h1 ⟨h2, h4 K' hk⟩⟩
    split at h
    · exact one h
    · split at h
      · rename_i t want _ _ b _
        by_cases e : b = want
        · obtain ⟨st', h3, h4⟩ := one (h.1 e)
          exact ⟨st', h3, fun K' hk => ⟨fun _ => h4 K' hk, fun e2 => by subst e; cases b <;> simp at e2⟩⟩
        · have e2 : b = !want := by cases b <;> cases want <;> simp_all
          obtain ⟨st', h3, h4⟩ := Qjz (h.2 e2)
          exact ⟨st', h3, fun K' hk => ⟨fun e3 => absurd e3 e, fun _ => h4 K' hk⟩⟩
      · obtain ⟨st', h3, h4⟩ := Qjz h
        exact ⟨st', h3, fun K' hk => h4 K' hk⟩
      · exact h.elim
theorem Qlr {g : Gh} {st : St} {K : St → Prop} (h : KH g st K) : ∃ st', K st' ∧ ∀ K' : St → Prop, K' st' → KH g st K' := by
  unfold KH at h ⊢
  split at h
  · split at h
    · split at h
      · obtain ⟨h1, h2, h3, h3', h4⟩ := h; exact ⟨_, h4, fun K' hk => ⟨h1, h2, h3, h3', hk⟩⟩
      · exact ⟨_, h, fun K' hk => hk⟩
    · exact ⟨_, h, fun K' hk => hk⟩
  · split at h
    · split at h
      · split at h
        · obtain ⟨h1, h2, h3, h3', h4, h5, h6⟩ := h; exact ⟨_, h6, fun K' hk => ⟨h1, h2, h3, h3', h4, h5, hk⟩⟩
        · exact ⟨_, h, fun K' hk => hk⟩
      · exact ⟨_, h, fun K' hk => hk⟩
    · exact ⟨_, h, fun K' hk => hk⟩
  · split at h
    · obtain ⟨h1, h2⟩ := h; exact ⟨_, h2, fun K' hk => ⟨h1, hk⟩⟩
    · exact ⟨_, h, fun K' hk => hk⟩
  · split at h
    · split at h
      · obtain ⟨h1, h2, h3, h4⟩ := h; exact ⟨_, h4, fun K' hk => ⟨h1, h2, h3, hk⟩⟩
      · exact ⟨_, h, fun K' hk => hk⟩
    · exact ⟨_, h, fun K' hk => hk⟩
  · obtain ⟨s, st', h1, h2, h3, h4⟩ := h
    exact ⟨st', h4, fun K' hk => ⟨s, st', h1, h2, h3, hk⟩⟩

/-- The way that a loop takes. -/
inductive Way (body : (XT → St → Prop) → St → Prop) (e : XT) (sf : St) : Nat → St → Prop
  | stop {m : Nat} {st : St} : (∀ Q' : XT → St → Prop, Q' e sf → body Q' st) → e ≠ .normal → Way body e sf m st
  | step {m m' : Nat} {st s1 s2 : St} : (∀ Q' : XT → St → Prop, Q' .normal s1 → body Q' st) → Wk s1 s2 → m' < m → Way body e sf m' s2 → Way body e sf m st

theorem Qcf : ∀ (c : SCode) {Q : XT → St → Prop} {st : St}, c.wp X Q st → ∃ e st', Q e st' ∧ ∀ Q' : XT → St → Prop, Q' e st' → c.wp (Env.nil P) Q' st
  | .skip, Q, st, h => ⟨.normal, st, h, fun Q' hq => hq⟩
  | .rg ops outs, Q, st, h => by
    obtain ⟨st', h1, h2⟩ := Qjy (show Qb9 X ops (QeE outs Q) st from h)
    exact ⟨.normal, trim outs st', h1, fun Q' hq => h2 (QeE outs Q') hq⟩
  | .rgd ops outs ck, Q, st, h => by
    obtain ⟨st', h1, h2⟩ := Qjz (show Qdd X ops ck (QeE outs Q) [] st from h)
    exact ⟨.normal, trim outs st', h1, fun Q' hq => h2 (QeE outs Q') hq⟩
  | .seq a b, Q, st, h => by
    obtain ⟨e, s1, h1, h2⟩ := Qcf a (show a.wp X (Qcc (b.wp X Q) Q) st from h)
    cases e with
    | normal =>
      obtain ⟨e2, s2, h3, h4⟩ := Qcf b (show b.wp X Q s1 from h1)
      exact ⟨e2, s2, h3, fun Q' hq => h2 (Qcc (b.wp (Env.nil P) Q') Q') (h4 Q' hq)⟩
    | exit id => exact ⟨.exit id, s1, h1, fun Q' hq => h2 (Qcc (b.wp (Env.nil P) Q') Q') hq⟩
    | ret => exact ⟨.ret, s1, h1, fun Q' hq => h2 (Qcc (b.wp (Env.nil P) Q') Q') hq⟩
  | .cond c a b, Q, st, h => by
    simp only [SCode.wp] at h ⊢
    split at h
    · rename_i t _
      cases t with
      | true =>
        obtain ⟨e, s1, h1, h2⟩ := Qcf a (h.1 rfl)
        exact ⟨e, s1, h1, fun Q' hq => ⟨fun _ => h2 Q' hq, (fun h => by cases h)⟩⟩
      | false =>
        obtain ⟨e, s1, h1, h2⟩ := Qcf b (h.2 rfl)
        exact ⟨e, s1, h1, fun Q' hq => ⟨(fun h => by cases h), fun _ => h2 Q' hq⟩⟩
    · exact h.elim
  | .block id c, Q, st, h => by
    obtain ⟨e, s1, h1, h2⟩ := Qcf c (show c.wp X (UZ id Q) st from h)
    cases e with
    | normal => exact ⟨.normal, s1, h1, fun Q' hq => h2 (UZ id Q') hq⟩
    | ret => exact ⟨.ret, s1, h1, fun Q' hq => h2 (UZ id Q') hq⟩
    | exit id' =>
      simp only [UZ] at h1
      by_cases e : id' = id
      · rw [if_pos e] at h1
        exact ⟨.normal, s1, h1, fun Q' hq => h2 (UZ id Q') (by simp only [UZ]; rw [if_pos e]; exact hq)⟩
      · rw [if_neg e] at h1
        exact ⟨.exit id', s1, h1, fun Q' hq => h2 (UZ id Q') (by simp only [UZ]; rw [if_neg e]; exact hq)⟩
  | .loop c, Q, st, h => by
    obtain ⟨I, ⟨m0, st0, hwk, hI⟩, hs⟩ := (show QeF (c.wp X) Q st from h)
    have go : ∀ (n m : Nat) (s : St), m < n → I m s → ∃ e sf, Q e sf ∧ Way (c.wp (Env.nil P)) e sf m s := by
      intro n
      induction n with
      | zero => intro m s hm; omega
      | succ n ih =>
        intro m s hm hi
        obtain ⟨e, s1, h1, h2⟩ := Qcf c (hs m s hi)
        cases e with
        | normal =>
          obtain ⟨m', s2, h3, h4, h5⟩ := (show QoP I m s1 from h1)
          obtain ⟨e, sf, h6, h7⟩ := ih m' s2 (by omega) h4
          exact ⟨e, sf, h6, .step h2 h3 h5 h7⟩
        | exit id => exact ⟨.exit id, s1, h1, .stop h2 (by simp)⟩
        | ret => exact ⟨.ret, s1, h1, .stop h2 (by simp)⟩
    obtain ⟨e, sf, h1, h2⟩ := go (m0 + 1) m0 st0 (by omega) hI
    refine ⟨e, sf, h1, fun Q' hq => ?_⟩
    show QeF (c.wp (Env.nil P)) Q' st
    refine ⟨Way (c.wp (Env.nil P)) e sf, ⟨m0, st0, hwk, h2⟩, fun m s hw => ?_⟩
    cases hw with
    | stop k1 k2 =>
      refine k1 _ ?_
      cases e with
      | normal => exact absurd rfl k2
      | exit id => exact hq
      | ret => exact hq
    | step k1 k2 k3 k4 => exact k1 _ ⟨_, _, k2, k4, k3⟩
  | .exit id, Q, st, h => ⟨.exit id, st, h, fun Q' hq => hq⟩
  | .ret, Q, st, h => ⟨.ret, st, h, fun Q' hq => hq⟩
  | .label _, Q, st, h => ⟨.normal, st, h, fun Q' hq => hq⟩
  | .scope c, Q, st, h => by
    obtain ⟨e, s1, h1, h2⟩ := Qcf c (show c.wp X Q st from h)
    exact ⟨e, s1, h1, fun Q' hq => h2 Q' hq⟩
  | .gh g c, Q, st, h => by
    obtain ⟨s1, h1, h2⟩ := Qlr (show KH g st (c.wp X Q) from h)
    obtain ⟨e, s2, h3, h4⟩ := Qcf c h1
    exact ⟨e, s2, h3, fun Q' hq => h2 (c.wp (Env.nil P) Q') (h4 Q' hq)⟩

/-- Behind a function of many outcomes. -/
def QrA {α : Type} (res : List SRes) (good : α → Prop) (R : α → AV) (U : α → List (Nat × AObj)) (e : XT) (st : St) : Prop := ∃ a, good a ∧ Qjx res (R a) (U a) e st
theorem JA {α : Type} {res : List SRes} {good : α → Prop} {R : α → AV} {U : α → List (Nat × AObj)} {st : St} : QrA res good R U .ret st = ∃ a, good a ∧ Qjx res (R a) (U a) .ret st := (rfl)

/-- A FUNCTION's CONTRACT, one of many outcomes: there is one that it keeps to. -/
theorem Qcg {α : Type} (X : Env P) (hm : P.follows .mixedOrders = true)
    {f : FuncId} {sf : SFun} (hok : YM P f sf = true) {args : List AV} (hl : args.length ≤ sf.n) {pre : List (Nat × AObj)} (h100 : (dom pre).all (decide <| · % 1000 < 100) = true) (good : α → Prop) (R : α → AV) (U : α → List (Nat × AObj))
    (h : sf.body.wp X (QrA sf.res good R U) ⟨QeG 0 args, pre⟩) : ∃ a, good a ∧ Contract P f args pre (R a) (U a) := by
  obtain ⟨e, st', ⟨a, h1, h2⟩, h3⟩ := Qcf sf.body h
  exact ⟨a, h1, QP (Env.nil P) hm hok hl h100 (h3 _ h2)⟩
end
end Go.Ve

namespace Go.Ve
set_option linter.unusedSimpArgs false
set_option linter.unusedVariables false
/-! Loops told by what turns in the state ahead of them. -/
def Qom (E : List (Nat × AV)) : List (Nat × AV) → List (Nat × AV)
  | [] => E
  | (k, v) :: r => Qhb (Qom E r) k v
def QhE (M : List (Nat × AObj)) : List (Nat × AObj) → List (Nat × AObj)
  | [] => M
  | (k, v) :: r => Xx (QhE M r) k v
theorem YC {E : List (Nat × AV)} : Qom E [] = E := (rfl)
theorem YD {E r : List (Nat × AV)} {k : Nat} {v : AV} : Qom E ((k, v) :: r) = Qhb (Qom E r) k v := (rfl)
theorem YE {M : List (Nat × AObj)} : QhE M [] = M := (rfl)
theorem YF {M r : List (Nat × AObj)} {k : Nat} {v : AObj} : QhE M ((k, v) :: r) = Xx (QhE M r) k v := (rfl)
theorem Yz {α : Type} (U : α → List (Nat × AV)) (V : α → List (Nat × AObj)) (good : α → Prop) (μ : α → Nat) (a0 : α) {body : (XT → St → Prop) → St → Prop} {Q : XT → St → Prop} {E : List (Nat × AV)} {M : List (Nat × AObj)}
    (h0 : Wk ⟨E, M⟩ ⟨Qom E (U a0), QhE M (V a0)⟩) (g0 : good a0)
    (step : ∀ a, good a → ∀ NX : St → Prop, (∀ a' st', Wk st' ⟨Qom E (U a'), QhE M (V a')⟩ → good a' → μ a' < μ a → NX st') → body (Qcc NX Q) ⟨Qom E (U a), QhE M (V a)⟩) : QeF body Q ⟨E, M⟩ :=
  Qlq (fun a => ⟨Qom E (U a), QhE M (V a)⟩) good μ a0 h0 g0 fun a ga => step a ga _ fun a' st' h1 h2 h3 => ⟨μ a', _, h1, ⟨a', rfl, h2, rfl⟩, h3⟩
end Go.Ve

namespace Go.Ve
set_option linter.unusedSimpArgs false
set_option linter.unusedVariables false
/-! strings in order -/
def slt (a b : ByteArray) : Prop := Op.bytesLess a.toList b.toList = true
noncomputable instance (a b : ByteArray) : Decidable (slt a b) := Classical.propDecidable _
theorem Km {a b : ByteArray} : (a.toList == b.toList) = decide (a = b) := by
  by_cases h : a = b
  · subst h; simp
  · simp only [h, decide_false, beq_eq_false_iff_ne, ne_eq]
    intro e
    rw [ByteArray.toList_eq, ByteArray.toList_eq] at e
    have := Array.toList_inj.1 e
    cases a; cases b; simp_all
theorem Kt {a b : ByteArray} : Op.bytesLess a.toList b.toList = decide (slt a b) := by
  by_cases h : slt a b
  · have h2 : Op.bytesLess a.toList b.toList = true := h
    simp [h, h2]
  · have h2 : Op.bytesLess a.toList b.toList = false := by simpa [slt] using h
    simp [h, h2]
theorem QhF : ∀ a : List UInt8, Op.bytesLess a a = false
  | [] => rfl
  | x :: xs => by simp [Op.bytesLess, QhF xs]
theorem QjA : ∀ a b : List UInt8, Op.bytesLess a b = true → Op.bytesLess b a = false
  | [], [], h => by cases h
  | [], _ :: _, _ => rfl
  | _ :: _, [], h => by cases h
  | x :: xs, y :: ys, h => by
    simp only [Op.bytesLess, Bool.or_eq_true, Bool.and_eq_true, decide_eq_true_eq, beq_iff_eq] at h
    simp only [Op.bytesLess, Bool.or_eq_false_iff, Bool.and_eq_false_iff, decide_eq_false_iff_not, beq_eq_false_iff_ne]
    rcases h with h | ⟨rfl, h⟩
    · exact ⟨by intro k; exact absurd (UInt8.lt_trans h k) (UInt8.lt_irrefl _), .inl (by intro e; subst e; exact UInt8.lt_irrefl _ h)⟩
    · exact ⟨UInt8.lt_irrefl _, .inr (QjA xs ys h)⟩
theorem QjB : ∀ a b : List UInt8, Op.bytesLess a b = true ∨ a = b ∨ Op.bytesLess b a = true
  | [], [] => .inr (.inl rfl)
  | [], _ :: _ => .inl rfl
  | _ :: _, [] => .inr (.inr rfl)
  | x :: xs, y :: ys => by
    simp only [Op.bytesLess, Bool.or_eq_true, Bool.and_eq_true, decide_eq_true_eq, beq_iff_eq, List.cons.injEq]
    rcases (show x < y ∨ x = y ∨ y < x by rcases Nat.lt_trichotomy x.toNat y.toNat with h | h | h; exact .inl h; exact .inr (.inl (UInt8.toNat_inj.1 h)); exact .inr (.inr h)) with h | h | h
    · exact .inl (.inl h)
    · subst h
      rcases QjB xs ys with h | h | h
      · exact .inl (.inr ⟨rfl, h⟩)
      · exact .inr (.inl ⟨rfl, h⟩)
      · exact .inr (.inr (.inr ⟨rfl, h⟩))
    · exact .inr (.inr (.inl h))
theorem Xk (a : ByteArray) : ¬ slt a a := by unfold slt; rw [QhF]; simp
theorem QeI {a b : ByteArray} (h : slt a b) : ¬ slt b a := by unfold slt at *; rw [QjA _ _ h]; simp
theorem QeJ (a b : ByteArray) : slt a b ∨ a = b ∨ slt b a := by
  unfold slt
  rcases QjB a.toList b.toList with h | h | h
  · exact .inl h
  · refine .inr (.inl ?_)
    have : (a.toList == b.toList) = true := by simp [h]
    rw [Km] at this; simpa using this
  · exact .inr (.inr h)
theorem QhG {a b c : ByteArray} (h : slt a b) (k : slt b c) : slt a c := by
  have key : ∀ a b c : List UInt8, Op.bytesLess a b = true → Op.bytesLess b c = true → Op.bytesLess a c = true := by
    intro a
    induction a with
    | nil => intro b c h k; cases b <;> cases c <;> simp_all [Op.bytesLess]
    | cons x xs ih =>
      intro b c h k
      cases b with
      | nil => simp [Op.bytesLess] at h
      | cons y ys =>
        cases c with
        | nil => simp [Op.bytesLess] at k
        | cons z zs =>
          simp only [Op.bytesLess, Bool.or_eq_true, Bool.and_eq_true, decide_eq_true_eq, beq_iff_eq] at h k ⊢
          rcases h with h | ⟨rfl, h⟩ <;> rcases k with k | ⟨rfl, k⟩
          · exact .inl (UInt8.lt_trans h k)
          · exact .inl h
          · exact .inl k
          · exact .inr ⟨rfl, ih _ _ h k⟩
  exact key _ _ _ h k
theorem Ku {a b : ByteArray} : (decide (slt a b) || decide (a = b)) = decide (¬ slt b a) := by
  rcases QeJ a b with h | h | h
  · simp [h, QeI h]
  · subst h; simp [Xk]
  · simp [h, QeI h]; rintro rfl; exact Xk _ h
def QeK (c : UInt8) : Prop := (97 ≤ c.toNat ∧ c.toNat ≤ 122) ∨ (48 ≤ c.toNat ∧ c.toNat ≤ 57) ∨ c.toNat = 45
def XG (s : ByteArray) : Prop := (1 ≤ s.toList.length ∧ s.toList.length ≤ 8) ∧ ∀ i, i < s.toList.length → QeK (s.toList.getD i 0)
noncomputable instance (s : ByteArray) : Decidable (XG s) := Classical.propDecidable _
def Ko (s : ByteArray) : List AV := [.str s]
def unS : List AV → ByteArray
  | [.str s] => s
  | _ => default
theorem Yy (l : List ByteArray) : (l.map Ko).map unS = l := by
  rw [List.map_map]; exact List.map_id'' (fun s => rfl) l
theorem G3 (l : List ByteArray) : GW (l.map Ko) := by
  induction l with
  | nil => simp [GW]
  | cons x l ih => simp only [List.map_cons, GW]; exact ⟨by simp [Ko, Xl, No99], ih⟩
/-- The first Qep at which something holds, -1 if there is none. -/
def Qkv {α : Type} (p : α → Bool) (l : List α) : Int := match l.findIdx? p with | some i => (i : Int) | none => -1
theorem Qls {α : Type} [Inhabited α] {p : α → Bool} {l : List α} {i : Nat} (hi : i < l.length) (h : p (l.getD i default) = true) (k : ∀ j, j < i → p (l.getD j default) = false) : Qkv p l = i := by
  have : l.findIdx? p = some i := by
    rw [List.findIdx?_eq_some_iff_getElem]
    refine ⟨hi, by simpa [hi] using h, fun j hj => ?_⟩
    have := k j hj
    have hl : j < l.length := by omega
    simpa [hl] using this
  simp [Qkv, this]
theorem QhH {α : Type} [Inhabited α] {p : α → Bool} {l : List α} (k : ∀ j, j < l.length → p (l.getD j default) = false) : Qkv p l = -1 := by
  have : l.findIdx? p = none := by
    rw [List.findIdx?_eq_none_iff]
    intro x hx
    obtain ⟨j, hj, rfl⟩ := List.mem_iff_getElem.1 hx
    have := k j hj
    simpa [hj] using this
  simp [Qkv, this]
theorem QeL {α : Type} [Inhabited α] (p : α → Bool) (l : List α) : (Qkv p l = -1 ∧ ∀ j, j < l.length → p (l.getD j default) = false) ∨ ∃ i : Nat, Qkv p l = i ∧ i < l.length ∧ p (l.getD i default) = true ∧ ∀ j, j < i → p (l.getD j default) = false := by
  cases h : l.findIdx? p with
  | none =>
    refine .inl ⟨by simp [Qkv, h], fun j hj => ?_⟩
    rw [List.findIdx?_eq_none_iff] at h
    have := h (l.getD j default) (by simp [hj])
    simpa using this
  | some i =>
    rw [List.findIdx?_eq_some_iff_getElem] at h
    obtain ⟨hi, hp, hm⟩ := h
    refine .inr ⟨i, by simp [Qkv, List.findIdx?_eq_some_iff_getElem.2 ⟨hi, hp, hm⟩], hi, by simpa [hi] using hp, fun j hj => ?_⟩
    have := hm j hj
    have hl : j < l.length := by omega
    simpa [hl] using this
theorem QoW {α : Type} [Inhabited α] (p : α → Bool) (l : List α) : 0 ≤ Qkv p l ↔ ∃ i, i < l.length ∧ p (l.getD i default) = true := by
  rcases QeL p l with ⟨h, k⟩ | ⟨i, h, hi, hp, k⟩
  · rw [h]; constructor
    · intro h; omega
    · rintro ⟨i, hi, hp⟩; rw [k i hi] at hp; cases hp
  · rw [h]; exact ⟨fun _ => ⟨i, hi, hp⟩, fun _ => by omega⟩
theorem Ju {p q : Prop} [Decidable p] [Decidable q] : (decide p == decide q) = decide (p ↔ q) := by by_cases h : p <;> by_cases k : q <;> simp [h, k]
theorem QM {b : Bool} {q : Prop} [Decidable q] : (b == decide q) = decide (b = true ↔ q) := by cases b <;> by_cases k : q <;> simp [k]
theorem Kv {a b : Bool} {A B : St → Prop} {sa sb : St} : br (.bool (a == b)) A sa B sb = ((a = b → A sa) ∧ (¬ a = b → B sb)) := by cases a <;> cases b <;> simp [br]
theorem Jv {a b : Bool} {A B U : St → Prop} {s : St} : brU (.bool (a == b)) A B U s = ((a = b → A s) ∧ (¬ a = b → B s)) := by cases a <;> cases b <;> simp [brU]
theorem Kw {a b : Int} : (a == b) = decide (a = b) := by by_cases h : a = b <;> simp [h]
theorem Kx {a b : Int} : (a != b) = decide (¬ a = b) := by by_cases h : a = b <;> simp [h]
theorem Qn {p : Prop} [Decidable p] : (false = decide p) = ¬ p := by by_cases h : p <;> simp [h]
theorem QN {p : Prop} [Decidable p] : (true = decide p) = p := by by_cases h : p <;> simp [h]
theorem QhI {a b : List (Nat × AV)} (h : wkE a b) : ∀ {c : List (Nat × AV)}, wkE b c → wkE a c
  | [], _ => trivial
  | (k, v) :: r, h2 => by
    simp only [wkE] at h2 ⊢
    refine ⟨?_, QhI h h2.2⟩
    rcases h2.1 with e | e
    · exact .inl e
    · rcases QiR h k with e2 | e2
      · left; rw [← e, e2]
      · right; rw [e2, e]
theorem QhJ {a b : List (Nat × AObj)} (h : wkM a b) : ∀ {c : List (Nat × AObj)}, wkM b c → wkM a c
  | [], _ => trivial
  | (k, v) :: r, h2 => by
    simp only [wkM] at h2 ⊢
    exact ⟨Qgf h k v h2.1, QhJ h h2.2⟩
theorem Wk.trans {a b c : St} (h : Wk a b) (k : Wk b c) : Wk a c := by
  refine ⟨QhI h.e k.e, QhJ h.m k.m, k.cl, ?_⟩
  have h1 := h.kp
  have h2 := k.kp
  unfold keepB at *
  rw [List.all_eq_true] at *
  intro o ho
  have := h1 o ho
  simp only [Bool.or_eq_true, decide_eq_true_eq] at this ⊢
  rcases this with h3 | h3
  · exact .inl h3
  · have h3' : o ∈ dom b.M := by simpa using h3
    have := h2 o h3'
    simpa only [Bool.or_eq_true, decide_eq_true_eq] using this
theorem Kz {st : St} {xs : List SRes} {r : List AV} : (∃ vs, Qcd st xs vs ∧ AV.tup r = AV.tup vs) = Qcd st xs r :=
  propext ⟨fun ⟨vs, h1, h2⟩ => by cases h2; exact h1, fun h => ⟨r, h, rfl⟩⟩
theorem YY : (decide False || true) = true := rfl
theorem Qaq {P : Program} {f : FuncId} {args : List AV} {M : Nat → Option AObj} {K : AV → List (Nat × AObj) → Prop} {x : Option (List AV)} : QiM P (Env.nil P) f args M K x = QoL (P := P) f args M K := by
  unfold QiM Env.nil
  cases x <;> rfl
mutual
theorem Qon (s : Nat → Nat) : ∀ x : AV, noref x = true → ren s x = x
  | .agg ls, h => by simp only [noref] at h; simp only [ren, QbD s ls h]
  | .tup ls, h => by simp only [noref] at h; simp only [ren, QbD s ls h]
  | .fn f a b, h => by simp only [noref, Bool.and_eq_true] at h; simp only [ren, QbD s a h.1, QbD s b h.2]
  | .int .., _ => rfl
  | .bool .., _ => rfl
  | .str .., _ => rfl
  | .sl .., _ => rfl
  | .pp .., _ => rfl
  | .own .., h => by simp [noref] at h
  | .ptr .., h => by simp [noref] at h
  | .elt .., h => by simp [noref] at h
  | .junk, h => by simp [noref] at h
theorem QbD (s : Nat → Nat) : ∀ x : List AV, YT x = true → Ui s x = x
  | [], _ => rfl
  | x :: xs, h => by simp only [YT, Bool.and_eq_true] at h; simp only [Ui, Qon s x h.1, QbD s xs h.2]
end
mutual
theorem QeM (d : List Nat) : ∀ x : AV, noref x = true → Qx d x = true
  | .agg ls, h => by simp only [noref] at h; simp only [Qx, Qm d ls h]
  | .tup ls, h => by simp only [noref] at h; simp only [Qx, Qm d ls h]
  | .fn f a b, h => by simp only [noref, Bool.and_eq_true] at h; simp only [Qx, Qm d a h.1, Qm d b h.2, Bool.and_self]
  | .int .., _ => rfl
  | .bool .., _ => rfl
  | .str .., _ => rfl
  | .sl .., _ => rfl
  | .pp .., _ => rfl
  | .own .., h => by simp [noref] at h
  | .ptr .., h => by simp [noref] at h
  | .elt .., h => by simp [noref] at h
  | .junk, h => by simp [noref] at h
theorem Qm (d : List Nat) : ∀ x : List AV, YT x = true → Qo d x = true
  | [], _ => rfl
  | x :: xs, h => by simp only [YT, Bool.and_eq_true] at h; simp only [Qo, QeM d x h.1, Qm d xs h.2, Bool.and_self]
end
/-- A call that is handed one box, and YL it as it was. -/
theorem Qlt {P : Program} {f : FuncId} {args0 args ls : List AV} {r : AV} {M : Nat → Option AObj} (o : Nat) (hC : Contract P f args0 [(3, .box ls)] r [(3, .box ls)]) (hl : YT ls = true) (hr : noref r = true)
    (hM : M o = some (.box ls)) (he : Ui (swp 3 o) args0 = args) (ha : Qo [o] args = true) : Qb7 P f args M r [(o, .box ls)] := by
  have h := hC.ren (swp 3 o) (GV 3 o)
  have e3 : swp 3 o 3 = o := by simp [swp]
  simp only [ZB, renO, e3, QbD _ _ hl, Qon _ _ hr, he] at h
  refine .inl ⟨[(o, .box ls)], h, by simpa using hM, fun q hq => .inl ?_, ?_, ha, ?_, QeM _ _ hr, ?_⟩
  · simp only [List.mem_singleton] at hq; subst hq; simp [dom]
  · simp [dom]
  · simp [Qb, Qm _ _ hl]
  · simp [Qb, Qm _ _ hl]
/-- All ahead of a Qep, and one more. -/
theorem Gf {p : Nat → Prop} {i : Nat} (h : ∀ j, j < i → p j) (k : p i) : ∀ j, j < i + 1 → p j := fun j hj => by
  by_cases e : j = i
  · subst e; exact k
  · exact h j (by omega)
attribute [bitvec_to_nat] JK Gr KO KP JL QW JM JN KQ Gs KR KS KT KU KV KW KX KY KZ K1 K2 QX QY QZ JO JP JQ Q0 Q1 Q2 Q3 Q4 Q5 JR JS JT JU Jq Jr Kp Yv GU JV Qz Qk KN QT QU JH QV JI JJ QS Qy JE JF KK JG KL KM Q8 Q9 Qc Qd QE QF Ja Jb QQ QR Qe Qf GD GE JZ J0 K3 JW JX JY Kb Kc Kd QA QB QD Gt Gu Gv Gw Q6 Q7 Gy Gx Gz QG J1 K4 J2 K5 K6 K7 K8 J3 Jc K9 Jd Je Jf Jg Jh QH QI Ji J4 Jj J5 J6 J7 GA GB Ya Jk Yb QJ KJ J8 KF GC Jl YF YE YD Gk List.length_take Int.toNat_zero List.drop_zero YC Ks QL Jt GX Yu Kr Kq Js Yc J9 Yd Ye GF Yf Yg GG Yh Ka Yi GH Yj Yk GI GJ GK Yl eff JB QO Ke Ym Kf Kg Kh GL GM JD JC Jm GN GO GP Y7 pur List.map List.drop List.take List.length List.foldl List.append_eq List.nil_append List.cons_append List.getD_cons_zero List.getD_cons_succ true_and and_true Bool.not_true Bool.not_false Bool.and_true Bool.true_and Bool.and_self true_implies false_implies implies_true decide_eq_true_eq Option.map_some Gm fpX SOp.xs oX refs KE dom Gl List.all_nil List.all_cons List.contains_cons List.contains_nil Bool.or_false Bool.false_or List.append_nil fm0 List.set ne_eq not_false_eq_true not_true_eq_false or_true true_or false_or GQ Yn Yo Yp Ki Jn Kj Yq Kk Kl GR GS GT Yr Ys Yt Jo Jp decide_true AV.bool.injEq AV.int.injEq decide_eq_false_iff_not Int.toNat_natCast List.length_map decide_false KH noref flatOk Qb wkM Km Kw Kx Ju QM Kv Jv Kt Ku Qn QN Classical.not_not
end Go.Ve

namespace Go.Ve
set_option linter.unusedSimpArgs false
set_option linter.unusedVariables false
open Go.RowKit Go.ChangeShapes Go.WideShapes

/-! ## data that reads, told as abstract values -/
inductive LSh where
  | int (k : IntKind)
  | bool
  | str
  | sl (rs : List LSh)
  deriving Inhabited

mutual
def Qhc : LSh → AV → Prop
  | .int k, x => ∃ n, x = .int k n ∧ (Lit.int k n).wf = true
  | .bool, x => ∃ b, x = .bool b
  | .str, x => ∃ s : ByteArray, x = .str s ∧ s.size ≤ maxLen
  | .sl rs, x => ∃ rows : List (List AV), x = .sl 1 rs.length rows ∧ rows.length ≤ maxLen ∧ ∀ r ∈ rows, Xo rs r
def Xo : List LSh → List AV → Prop
  | [], xs => xs = []
  | l :: ls, xs => ∃ x xs', xs = x :: xs' ∧ Qhc l x ∧ Xo ls xs'
end
def QhK (P : Program) (sh : TypeId → Option (List LSh)) : Nat → List Field → Option (List LSh)
  | _, [] => some []
  | off, f :: fs => if f.offset = off then (sh f.type).bind fun a => if a.length = P.cellsOf f.type then (QhK P sh (off + a.length) fs).map (a ++ ·) else none else none
def Qfv (P : Program) : Nat → TypeId → Option (List LSh)
  | 0, _ => none
  | n + 1, t => match P.underlying t with
    | some .bool => some [.bool]
    | some (.int k) => some [.int k]
    | some .string => some [.str]
    | some (.slice e) => (Qfv P n e).bind fun rs => if rs.length = P.cellsOf e ∧ 0 < rs.length then some [.sl rs] else none
    | some (.struct fs) => (QhK P (Qfv P n) 0 fs.toList).bind fun ls => if ls.length = P.cellsOf t then some ls else none
    | _ => none

theorem QhL {a b : List LSh} : ∀ {x y : List AV}, Xo a x → Xo b y → Xo (a ++ b) (x ++ y) := by
  induction a with
  | nil => intro x y h h'; simp only [Xo] at h; subst h; exact h'
  | cons l a ih =>
    intro x y h h'
    simp only [Xo] at h
    obtain ⟨z, zs, rfl, h1, h2⟩ := h
    simp only [List.cons_append, Xo]
    exact ⟨z, zs ++ y, rfl, h1, ih h2 h'⟩
theorem Qlu {l : LSh} {x : AV} (h : Qhc l x) : Y8 x = true ∧ noref x = true := by
  cases l <;> simp only [Qhc] at h
  · obtain ⟨n, rfl, _⟩ := h; exact ⟨rfl, rfl⟩
  · obtain ⟨n, rfl⟩ := h; exact ⟨rfl, rfl⟩
  · obtain ⟨n, rfl, _⟩ := h; exact ⟨rfl, rfl⟩
  · obtain ⟨n, rfl, _⟩ := h; exact ⟨rfl, rfl⟩
theorem Qkw {a : List LSh} : ∀ {x : List AV}, Xo a x → flatOk x = true := by
  induction a with
  | nil => intro x h; simp only [Xo] at h; subst h; rfl
  | cons l a ih =>
    intro x h; simp only [Xo] at h; obtain ⟨z, zs, rfl, h1, h2⟩ := h
    simp only [flatOk, Qlu h1, ih h2, Bool.and_self]

/-- The context of what comes from without. -/
abbrev QeN (w : World) : Ctx := ⟨fun t _ => t ≠ 98, w, fun _ => none, getM []⟩

section
variable {H : Type} {enc : TypeId × Value → H} {P : Program} {w : World} {base : Nat} {sp : Nat → Bool} {held : Bool}

theorem QiT {n : Nat} {q : Nat → List AV → List Value → Prop} (h : ∀ i, i < n → ∃ r c, q i r c) : ∃ rs : List (List AV), ∃ css : List (List Value), rs.length = n ∧ css.length = n ∧ ∀ i, i < n → q i (rs.getD i []) (css.getD i []) := by
  induction n with
  | zero => exact ⟨[], [], rfl, rfl, fun i hi => absurd hi (Nat.not_lt_zero _)⟩
  | succ n ih =>
    obtain ⟨rs, css, h1, h2, h3⟩ := ih fun i hi => h i (by omega)
    obtain ⟨r, c, h4⟩ := h n (by omega)
    refine ⟨rs ++ [r], css ++ [c], by simp [h1], by simp [h2], fun i hi => ?_⟩
    by_cases e : i = n
    · subst e
      have e1 : (rs ++ [r]).getD i [] = r := by rw [List.getD_eq_getElem?_getD, List.getElem?_append_right (by omega)]; simp [h1]
      have e2 : (css ++ [c]).getD i [] = c := by rw [List.getD_eq_getElem?_getD, List.getElem?_append_right (by omega)]; simp [h2]
      rw [e1, e2]; exact h4
    · have e1 : (rs ++ [r]).getD i [] = rs.getD i [] := by rw [List.getD_eq_getElem?_getD, List.getElem?_append_left (by omega), ← List.getD_eq_getElem?_getD]
      have e2 : (css ++ [c]).getD i [] = css.getD i [] := by rw [List.getD_eq_getElem?_getD, List.getElem?_append_left (by omega), ← List.getD_eq_getElem?_getD]
      rw [e1, e2]; exact h3 i (by omega)

theorem Qdz {C : Ctx} : ∀ {rs : List (List AV)} {css : List (List Value)}, rs.length = css.length → (∀ i, i < rs.length → RelL C (rs.getD i []) (css.getD i [])) → RelLL C rs css
  | [], [], _, _ => RelLL.nil
  | [], _ :: _, h, _ => by simp at h
  | _ :: _, [], h, _ => by simp at h
  | r :: rs, c :: css, h, k => RelLL.cons (by simpa using k 0 (by simp)) (Qdz (by simpa using h) fun i hi => by simpa using k (i + 1) (by simpa using hi))

theorem QeO {fuel : Nat} {sh : TypeId → Option (List LSh)} {cs : List Value}
    (ih : ∀ t ls cs x, sh t = some ls → DataW.trod enc P w base sp held fuel t cs = some x → ∃ avs, Xo ls avs ∧ RelL (QeN w) avs cs) :
    ∀ (fs : List Field) (off : Nat) (ls : List LSh), QhK P sh off fs = some ls → (∀ f ∈ fs, ∃ x, DataW.trod enc P w base sp held fuel f.type ((cs.drop f.offset).take (P.cellsOf f.type)) = some x) →
      cs.length = off + ls.length → ∃ avs, Xo ls avs ∧ RelL (QeN w) avs (cs.drop off)
  | [], off, ls, h, _, hl => by
    simp only [QhK, Option.some.injEq] at h; subst h
    exact ⟨[], by simp [Xo], by rw [List.drop_eq_nil_of_le (by simp at hl; omega)]; exact RelL.nil⟩
  | f :: fs, off, ls, h, hx, hl => by
    simp only [QhK] at h
    split at h
    · rename_i ho
      simp only [Option.bind_eq_some_iff] at h
      obtain ⟨a, ha, h⟩ := h
      split at h
      · rename_i hal
        simp only [Option.map_eq_some_iff] at h
        obtain ⟨b, hb, rfl⟩ := h
        obtain ⟨x, hx0⟩ := hx f (by simp)
        obtain ⟨av1, h1, h2⟩ := ih f.type a _ x ha hx0
        obtain ⟨av2, h3, h4⟩ := QeO ih fs (off + a.length) b hb (fun g hg => hx g (by simp [hg])) (by simp at hl; omega)
        refine ⟨av1 ++ av2, QhL h1 h3, ?_⟩
        have : cs.drop off = (cs.drop f.offset).take (P.cellsOf f.type) ++ cs.drop (off + a.length) := by
          rw [ho, ← hal, ← List.drop_drop, List.take_append_drop]
        rw [this]; exact h2.append h4
      · cases h
    · cases h

theorem QfS (hsp : ∀ b, sp b = true) : ∀ (n : Nat) (t : TypeId) (ls : List LSh) (fuel : Nat) (cs : List Value) (x : DataW H × List MemPlace),
    Qfv P n t = some ls → DataW.trod enc P w base sp held fuel t cs = some x → ∃ avs, Xo ls avs ∧ RelL (QeN w) avs cs := by
  intro n
  induction n with
  | zero => intro t ls fuel cs x h; simp [Qfv] at h
  | succ n ih =>
    intro t ls fuel cs x h hx
    simp only [Qfv] at h
    split at h
    · rename_i ht
      cases h
      obtain ⟨b, rfl, _⟩ := DataW.trod_bool ht hx
      exact ⟨[.bool b], by simp [Xo, Qhc], RelL.cons (by simp [RelV]) RelL.nil⟩
    · rename_i k ht
      cases h
      obtain ⟨b, rfl, _, hw⟩ := DataW.trod_int ht hx
      exact ⟨[.int k b], by simp only [Xo, Qhc]; exact ⟨_, _, rfl, ⟨b, rfl, hw⟩, rfl⟩, RelL.cons (by simp [RelV]) RelL.nil⟩
    · rename_i ht
      cases h
      obtain ⟨b, rfl, _, hw⟩ := DataW.trod_string ht hx
      exact ⟨[.str b], by simp only [Xo, Qhc]; exact ⟨_, _, rfl, ⟨b, rfl, hw⟩, rfl⟩, RelL.cons (by simp [RelV]) RelL.nil⟩
    · rename_i e ht
      simp only [Option.bind_eq_some_iff] at h
      obtain ⟨rs, hrs, h⟩ := h
      split at h
      · rename_i hc
        cases h
        rcases Go.Deep.open_slice ht hx with ⟨rfl, _⟩ | ⟨a, len, cap, m, fu, D, Pl, rfl, _, hl, hm, hmm, _, hel⟩
        · exact ⟨[.sl 1 rs.length []], by simp only [Xo, Qhc]; exact ⟨_, _, rfl, ⟨[], rfl, by simp, by simp⟩, rfl⟩, RelL.cons (by simp [RelV]) RelL.nil⟩
        · rw [hsp] at hmm
          simp only [if_true] at hmm
          subst hmm
          by_cases hcap : m = 0
          · subst hcap
            have hlen0 : len = 0 := by omega
            subst hlen0
            refine ⟨[.sl 1 rs.length []], by simp only [Xo, Qhc]; exact ⟨_, _, rfl, ⟨[], rfl, by simp, by simp⟩, rfl⟩, RelL.cons ?_ RelL.nil⟩
            simp only [RelV]
            exact ⟨by simp, .inl ⟨True.intro, .inr ⟨by omega, a, rfl⟩⟩⟩
          have hsb : a.spot = none ∧ a.block < w.heap.size := by
            obtain ⟨cs', h1, _⟩ := hel 0 (by omega)
            obtain ⟨_, h3, h4⟩ := World.cells?_some h1
            have h5 := h4 0 (by omega)
            have e0 : (a.add (0 * P.cellsOf e)).add 0 = a := by simp [Addr.add]
            rw [e0] at h5
            have h6 : w.cell? a ≠ none := by
              rw [h5]; intro hn
              have := List.getElem?_eq_none_iff.1 hn
              omega
            unfold World.cell? at h6
            split at h6 <;> try exact absurd rfl h6
            rename_i hh
            obtain ⟨b, off, spot⟩ := a
            simp only at hh h6 ⊢
            exact ⟨by first | assumption | (cases spot <;> simp_all), (Array.getElem?_eq_some_iff.1 (by assumption)).1⟩
          obtain ⟨hspot, hblk⟩ := hsb
          obtain ⟨b, off, spot⟩ := a
          simp only at hspot hblk
          subst hspot
          have hlm : len ≤ m := hl
          have one : ∀ i, i < len → ∃ r c, w.cells? base ((⟨b, off, none⟩ : Addr).add (i * P.cellsOf e)) (P.cellsOf e) = some c ∧ Xo rs r ∧ RelL (QeN w) r c := by
            intro i hi
            obtain ⟨cs', h1, h2⟩ := hel i (by omega)
            obtain ⟨r, h5, h6⟩ := ih e rs fu cs' _ hrs h2
            exact ⟨r, cs', h1, h5, h6⟩
          obtain ⟨rows, css, l1, l2, hall⟩ := QiT one
          refine ⟨[.sl 1 rs.length rows], ?_, RelL.cons ?_ RelL.nil⟩
          · simp only [Xo, Qhc]
            refine ⟨_, _, rfl, ⟨rows, rfl, by omega, fun r hr => ?_⟩, rfl⟩
            obtain ⟨i, hi⟩ := List.mem_iff_getElem?.1 hr
            have hi' := (List.getElem?_eq_some_iff.1 hi).1
            have := (hall i (by omega)).2.1
            rwa [List.getD_eq_getElem?_getD, hi] at this
          · simp only [RelV]
            refine ⟨fun r hr => ?_, .inr ⟨b, off, m, css, by rw [l1], by omega, ⟨by show (1 : Nat) ≠ 98; omega, hblk, ?_⟩, Qdz (by omega) fun i hi => (hall i (by omega)).2.2, fun i r hi => ?_⟩⟩
            · obtain ⟨i, hi⟩ := List.mem_iff_getElem?.1 hr
              have hi' := (List.getElem?_eq_some_iff.1 hi).1
              have := (hall i (by omega)).2.1
              rw [List.getD_eq_getElem?_getD, hi] at this
              exact Qkw this
            · rintro ⟨o, v, h1, _⟩; cases h1
            · have hi' := (List.getElem?_eq_some_iff.1 hi).1
              have h1 := (hall i (by omega)).1
              rw [List.getD_eq_getElem?_getD, hi] at h1
              simp only [Option.getD_some] at h1
              obtain ⟨_, h3, h4⟩ := World.cells?_some h1
              refine ⟨by rw [h3, hc.1], fun j c hj => ?_⟩
              have := h4 j (by have := (List.getElem?_eq_some_iff.1 hj).1; omega)
              rw [hj] at this
              rw [hc.1, ← this]
              congr 1
              unfold Addr.add
              by_cases e1 : i * P.cellsOf e = 0 <;> by_cases e2 : j = 0 <;> simp [e1, e2, Nat.add_assoc]
      · cases h
    · rename_i fs ht
      simp only [Option.bind_eq_some_iff] at h
      obtain ⟨ls', hls, h⟩ := h
      split at h
      · rename_i hc
        cases h
        obtain ⟨xs, fu, rfl, _, hl, hlen, hf⟩ := DataW.trod_struct ht hx
        have := QeO (enc := enc) (base := base) (sp := sp) (held := held) (fuel := fu) (w := w) (cs := cs) (fun t ls cs x h1 h2 => ih t ls fu cs x h1 h2) fs.toList 0 ls hls (fun f hfm => ?_) (by omega)
        · simpa using this
        · obtain ⟨i, hi⟩ := List.mem_iff_getElem?.1 hfm
          have hi' : fs[i]? = some f := by simpa using hi
          have := hf i f hi'
          rw [this]
          have hlt : i < xs.length := by rw [hlen]; exact (Array.getElem?_eq_some_iff.1 hi').1
          exact ⟨xs[i], List.getElem?_eq_getElem hlt⟩
      · cases h
    · cases h
end
end Go.Ve

namespace Go.Ve
set_option linter.unusedSimpArgs false
set_option linter.unusedVariables false
open Go.RowKit Go.ChangeShapes Go.WideShapes

/-! ## a law's arguments -/
inductive PSh where
  | one (l : LSh)
  | st (ls : List LSh)
  deriving Inhabited
def Qm6 : PSh → AV → Prop
  | .one l, x => Qhc l x
  | .st ls, x => ∃ xs, x = .agg xs ∧ Xo ls xs
def QeP : List PSh → List AV → Prop
  | [], xs => xs = []
  | p :: ps, xs => ∃ x xs', xs = x :: xs' ∧ Qm6 p x ∧ QeP ps xs'
def Qlv (P : Program) (n : Nat) (t : TypeId) : Option PSh :=
  match P.underlying t with
  | some (.struct _) => (Qfv P n t).map .st
  | some .bool | some (.int _) | some .string | some (.slice _) => match Qfv P n t with
    | some [l] => some (.one l)
    | _ => none
  | _ => none
def Qar (P : Program) (n : Nat) : List TypeId → Option (List PSh)
  | [] => some []
  | t :: ts => match Qlv P n t, Qar P n ts with
    | some p, some ps => if P.readableRec t = true ∧ t < P.types.size then some (p :: ps) else none
    | _, _ => none

section
variable {H : Type} {enc : TypeId × Value → H} {P : Program} {w : World}

theorem Qm7 {n : Nat} {r : Reach} {b0 : Nat} {sp : Nat → Bool} (hsp : ∀ b, sp b = true) {t : TypeId} {s : PSh} {v : Value} {d : DataW H} {p : List MemPlace} (hs : Qlv P n t = some s) (hv : Value.okWide P w r b0 t v)
    (h : DataW.Trod enc P w 0 sp true t v d p) : ∃ x, Qm6 s x ∧ RelV (QeN w) x v := by
  obtain ⟨fuel, h⟩ := h
  have one : ∀ {l : LSh}, Qfv P n t = some [l] → Cell.okWide P w r b0 t v → (∀ cs, v ≠ .agg cs) → ∃ x, Qm6 (.one l) x ∧ RelV (QeN w) x v := by
    intro l hl hc hna
    have hcs : v.cells.toList = [v] := by cases v <;> first | rfl | exact absurd rfl (hna _)
    rw [hcs] at h
    obtain ⟨avs, h1, h2⟩ := QfS hsp n t [l] fuel [v] _ hl h
    simp only [Xo] at h1
    obtain ⟨x, xs, rfl, h3, rfl⟩ := h1
    simp only [RelL] at h2
    obtain ⟨c, cs, h4, h5, _⟩ := h2
    cases h4
    exact ⟨x, h3, h5⟩
  unfold Qlv at hs
  unfold Value.okWide at hv
  split at hs
  · rename_i fs ht
    rw [ht] at hv
    simp only at hv
    obtain ⟨cs, rfl, hsz, ts, _, _, hcells⟩ := hv
    simp only [Option.map_eq_some_iff] at hs
    obtain ⟨ls, hls, rfl⟩ := hs
    obtain ⟨avs, h1, h2⟩ := QfS hsp n t ls fuel _ _ hls h
    exact ⟨.agg avs, ⟨avs, rfl, h1⟩, by simp only [RelV]; exact ⟨cs.toList, by simp, h2⟩⟩
  all_goals first | (cases hs; done) | skip
  all_goals
    rename_i ht
    rw [ht] at hv
    simp only at hv
    split at hs
    · rename_i l hl
      cases hs
      exact one hl hv (fun cs e => by subst e; simp [Cell.okWide, Cell.ok, ht] at hv)
    · cases hs

theorem QhM {n : Nat} {r : Reach} {b0 : Nat} {sp : Nat → Bool} (hsp : ∀ b, sp b = true) : ∀ {ts : List TypeId} {ss : List PSh} {vs : List Value} {ds : List (DataW H)} {p : List MemPlace}, Qar P n ts = some ss →
    (∀ (j : Nat) t v, ts[j]? = some t → vs[j]? = some v → Value.okWide P w r b0 t v) → DataW.TrodAll enc P w 0 sp true ts vs ds p → ∃ xs, QeP ss xs ∧ RelL (QeN w) xs vs ∧ ds.length = ts.length
  | [], ss, vs, ds, p, hs, hv, h => by
    simp only [Qar, Option.some.injEq] at hs; subst hs
    cases vs <;> cases ds <;> simp only [DataW.TrodAll] at h
    exact ⟨[], by simp [QeP], RelL.nil, rfl⟩
  | t :: ts, ss, vs, ds, p, hs, hv, h => by
    simp only [Qar] at hs
    split at hs
    · rename_i s ss' h1 h2
      split at hs
      · cases hs
        cases vs with
        | nil => cases ds <;> simp only [DataW.TrodAll] at h
        | cons v vs =>
          cases ds with
          | nil => simp only [DataW.TrodAll] at h
          | cons d ds =>
            simp only [DataW.TrodAll] at h
            obtain ⟨p1, q1, h3, h4, _⟩ := h
            obtain ⟨x, h5, h6⟩ := Qm7 hsp h1 (hv 0 t v rfl rfl) h3
            obtain ⟨xs, h7, h8, h9⟩ := QhM hsp h2 (fun j t v e1 e2 => hv (j + 1) t v (by simpa using e1) (by simpa using e2)) h4
            exact ⟨x :: xs, by simp only [QeP]; exact ⟨x, xs, rfl, h5, h7⟩, RelL.cons h6 h8, by simp [h9]⟩
      · cases hs
    · cases hs

theorem QhN {n : Nat} (hl : laidOutB P = true) {W' : World} (hb : Below w.heap.size w W') : ∀ {ts : List TypeId} {ss : List PSh} {vs : List Value} {ds : List (DataW H)} {p : List MemPlace}, Qar P n ts = some ss →
    DataW.TrodAll enc P w 0 (fun _ => true) true ts vs ds p → DataW.TrodAll enc P W' 0 (fun b => decide (b < w.heap.size)) true ts vs ds p
  | [], ss, vs, ds, p, hs, h => by
    cases vs <;> cases ds <;> simp only [DataW.TrodAll] at h ⊢
    exact h
  | t :: ts, ss, vs, ds, p, hs, h => by
    simp only [Qar] at hs
    split at hs
    · rename_i s ss' h1 h2
      split at hs
      · rename_i hr
        cases vs with
        | nil => cases ds <;> simp only [DataW.TrodAll] at h
        | cons v vs =>
          cases ds with
          | nil => simp only [DataW.TrodAll] at h
          | cons d ds =>
            simp only [DataW.TrodAll] at h ⊢
            obtain ⟨p1, q1, h3, h4, h5⟩ := h
            have lt : ∀ x ∈ p1, x.block < w.heap.size := by obtain ⟨m, hm⟩ := h3; exact DataW.trod_lt m _ _ _ hm
            exact ⟨p1, q1, Below.trod hl hr.1 hr.2 h3 hb lt, QhN hl hb h2 h4, h5⟩
      · cases hs
    · cases hs

theorem QdA : ∀ {ns : List String} {gs : List (DataW H)} {ps : List MemPlace}, DataW.TrodVars enc P w (fun _ => true) ns gs ps → gs.length = ns.length
  | [], [], _, _ => rfl
  | [], _ :: _, _, h => h.elim
  | _ :: _, [], _, h => h.elim
  | n :: ns, d :: ds, ps, h => by
    obtain ⟨g, t, cs, fuel, p, q, h1, h2, h3, h4, hs, e⟩ := h
    simp [QdA hs]

/-- A LAW, out of its contract: the call returns true, and its arguments and the package variables read as they did. -/
theorem Qlw {fn : Func} {s : ChangeSpec} {f : FuncId} {n : Nat} {ss : List PSh} (hl : laidOutB P = true) (hs : Qar P n fn.params.toList = some ss) (hvars : varsRowed P s.vars = true)
    (hres : ∀ ds gs : List (DataW H), ds.length = fn.params.size → gs.length = s.vars.length → s.fn H (ds ++ gs) = { results := [.lit (.bool true)], args := ds, vars := gs }) {tb : TypeId} (hr : fn.resultTypes = #[tb]) (hb : P.underlying tb = some .bool)
    (hC : ∀ xs, QeP ss xs → Contract P f xs [] (.bool true) [])
    (W : World) (base : Nat) (args : Array Value) (ds gs : List (DataW H)) (before : List MemPlace) (hglob : globOk (QeN W))
    (hval : ∀ (j : Nat) t v, fn.params[j]? = some t → args[j]? = some v → Value.okWide P W .any base t v)
    (hW : DataW.Whole enc P fn.params.toList s.vars false W args.toList ds gs before) (handsOn fresh : Bool) :
    Calls P f args W fun e W' => ∃ v, e = .returned v ∧ s.post enc P fn false fresh handsOn false W args v W' := by
  have hW0 := hW
  obtain ⟨p, q, hA, hV, rfl, hfz, hnd⟩ := hW
  obtain ⟨xs, h1, h2, h3⟩ := QhM (fun _ => rfl) hs (fun j t v e1 e2 => hval j t v (by simpa using e1) (by simpa using e2)) hA
  have hc := hC xs h1 (QeN W).io W (QeN W).loc args.toList ⟨fun b _ => by show (0 : Nat) ≠ 98; omega, fun b h => h rfl⟩
    ⟨(fun o obj h => by simp [getM] at h), (fun o hv h => by cases h), (fun o o' hv hv' b h => by cases h), hglob⟩ h2
  rw [Array.toArray_toList] at hc
  refine hc.mono ?_
  rintro e W' ⟨v, loc', rfl, _, _, hv, hev, _⟩
  simp only [RelV] at hv
  subst hv
  have bel : Below W.heap.size W W' := ⟨hev.os, hev.tape, hev.output, hev.size, fun k hk => hev.block k hk (by rintro ⟨o, v, h, _⟩; cases h)⟩
  have hsz : ds.length = fn.params.size := by rw [h3]; simp
  have hf := hres ds gs hsz (QdA hV)
  refine ⟨_, rfl, ds, gs, _, [], p, q, hW0, ?_, ?_, ?_, bel.frame _, fun h => by cases h⟩
  · rw [hf, hr]
    exact trodAll_mk1 (shut_bool hb _)
  · rw [hf]
    exact QhN hl bel hs hA
  · rw [hf]
    exact Below.trodVars hl bel hvars hV
end
end Go.Ve

namespace Go.Ve
set_option linter.unusedVariables false
set_option linter.unusedSimpArgs false
/-! ways along edges: plain -/
abbrev Nm := ByteArray
def wk (adj : Nm → Nm → Prop) : List Nm → Nm → Nm → Prop
  | [], _, _ => False
  | [x], a, b => x = a ∧ x = b
  | x :: y :: r, a, b => x = a ∧ adj x y ∧ wk adj (y :: r) y b
def Up (d : Nm → Nm → Int) : List Nm → Int
  | x :: y :: r => d x y + Up d (y :: r)
  | _ => 0
def lx : List Nm → List Nm → Prop
  | x :: xs, y :: ys => slt x y ∨ (x = y ∧ lx xs ys)
  | _, _ => False
def bt (d : Nm → Nm → Int) (u w : List Nm) : Prop := Up d u < Up d w ∨ (Up d u = Up d w ∧ (u.length < w.length ∨ (u.length = w.length ∧ lx u w)))
theorem QeQ : ∀ u, ¬ lx u u
  | [] => by simp [lx]
  | x :: xs => by
    simp only [lx]
    rintro (h | ⟨_, h⟩)
    · exact Xk _ h
    · exact QeQ xs h
theorem QjC : ∀ {u v w}, lx u v → lx v w → lx u w
  | [], _, _, h, _ => by simp [lx] at h
  | _ :: _, [], _, h, _ => by simp [lx] at h
  | _ :: _, _ :: _, [], _, h => by simp [lx] at h
  | x :: xs, y :: ys, z :: zs, h, k => by
    simp only [lx] at h k ⊢
    rcases h with h | ⟨rfl, h⟩
    · rcases k with k | ⟨rfl, k⟩
      · exact .inl (QhG h k)
      · exact .inl h
    · rcases k with k | ⟨rfl, k⟩
      · exact .inl k
      · exact .inr ⟨rfl, QjC h k⟩
theorem QjD : ∀ {u w : List Nm}, u.length = w.length → lx u w ∨ u = w ∨ lx w u
  | [], [], _ => .inr (.inl rfl)
  | [], _ :: _, h => by simp at h
  | _ :: _, [], h => by simp at h
  | x :: xs, y :: ys, h => by
    simp only [lx]
    rcases QeJ x y with q | q | q
    · exact .inl (.inl q)
    · subst q
      rcases QjD (u := xs) (w := ys) (by simpa using h) with q | q | q
      · exact .inl (.inr ⟨rfl, q⟩)
      · exact .inr (.inl (by rw [q]))
      · exact .inr (.inr (.inr ⟨rfl, q⟩))
    · exact .inr (.inr (.inl q))
theorem QiU {v : Nm} : ∀ {u w : List Nm}, u.length = w.length → (lx (u ++ [v]) (w ++ [v]) ↔ lx u w)
  | [], [], _ => by simp [lx, Xk]
  | [], _ :: _, h => by simp at h
  | _ :: _, [], h => by simp at h
  | x :: xs, y :: ys, h => by
    simp only [List.cons_append, lx, QiU (v := v) (u := xs) (w := ys) (by simpa using h)]
section
variable {adj : Nm → Nm → Prop} {d : Nm → Nm → Int}
theorem Qch (u : List Nm) : ¬ bt d u u := by
  unfold bt
  rintro (h | ⟨_, h | ⟨_, h⟩⟩)
  · omega
  · omega
  · exact QeQ u h
theorem Qd4 {u v w : List Nm} (h : bt d u v) (k : bt d v w) : bt d u w := by
  unfold bt at *
  rcases h with h | ⟨h1, h | ⟨h2, h⟩⟩ <;> rcases k with k | ⟨k1, k | ⟨k2, k⟩⟩
  · left; omega
  · left; omega
  · left; omega
  · left; omega
  · right; exact ⟨by omega, .inl (by omega)⟩
  · right; exact ⟨by omega, .inl (by omega)⟩
  · left; omega
  · right; exact ⟨by omega, .inl (by omega)⟩
  · right; exact ⟨by omega, .inr ⟨by omega, QjC h k⟩⟩
theorem Qgg (u w : List Nm) : bt d u w ∨ u = w ∨ bt d w u := by
  unfold bt
  rcases Int.lt_trichotomy (Up d u) (Up d w) with h | h | h
  · exact .inl (.inl h)
  · rcases Nat.lt_trichotomy u.length w.length with k | k | k
    · exact .inl (.inr ⟨h, .inl k⟩)
    · rcases QjD k with q | q | q
      · exact .inl (.inr ⟨h, .inr ⟨k, q⟩⟩)
      · exact .inr (.inl q)
      · exact .inr (.inr (.inr ⟨h.symm, .inr ⟨k.symm, q⟩⟩))
    · exact .inr (.inr (.inr ⟨h.symm, .inl k⟩))
  · exact .inr (.inr (.inl h))
theorem QiV {u : List Nm} {a b : Nm} (h : wk adj u a b) : u ≠ [] := by rintro rfl; exact h
theorem QiW {a b : Nm} : ∀ {u : List Nm}, wk adj u a b → u.head? = some a
  | [], h => h.elim
  | [x], h => by simp [h.1]
  | x :: y :: r, h => by simp [h.1]
theorem Qlx {a b v : Nm} : ∀ {u : List Nm}, wk adj u a b → adj b v → wk adj (u ++ [v]) a v
  | [], h, _ => h.elim
  | [x], h, k => ⟨h.1, h.2 ▸ k, rfl, rfl⟩
  | x :: y :: r, h, k => ⟨h.1, h.2.1, Qlx (u := y :: r) h.2.2 k⟩
theorem Qci {a b v : Nm} : ∀ {u : List Nm}, wk adj u a b → Up d (u ++ [v]) = Up d u + d b v
  | [], h => h.elim
  | [x], h => by
    have := h.2; subst this
    simp [Up]
  | x :: y :: r, h => by
    have ih := Qci (u := y :: r) (v := v) h.2.2
    simp only [List.cons_append, Up] at ih ⊢
    rw [ih]; omega
theorem QhO {a v z : Nm} : ∀ {u : List Nm}, wk adj (u ++ [v]) a z → v = z ∧ (u = [] ∧ v = a ∨ ∃ b, wk adj u a b ∧ adj b v)
  | [], h => ⟨h.2, .inl ⟨rfl, h.1⟩⟩
  | [x], h => ⟨h.2.2.2, .inr ⟨x, ⟨h.1, rfl⟩, h.2.1⟩⟩
  | x :: y :: r, h => by
    obtain ⟨h1, h2⟩ := QhO (u := y :: r) h.2.2
    refine ⟨h1, .inr ?_⟩
    rcases h2 with ⟨h2, _⟩ | ⟨b, h2, h3⟩
    · cases h2
    · exact ⟨b, ⟨h.1, h.2.1, h2⟩, h3⟩
theorem QoX {a b v : Nm} {u w : List Nm} (hu : wk adj u a b) (hw : wk adj w a b) : bt d (u ++ [v]) (w ++ [v]) ↔ bt d u w := by
  unfold bt
  rw [Qci hu, Qci hw, List.length_append, List.length_append]
  constructor
  · rintro (h | ⟨h1, h | ⟨h2, h⟩⟩)
    · left; omega
    · right; exact ⟨by omega, .inl (by simpa using h)⟩
    · have h2 : u.length = w.length := by simpa using h2
      right; exact ⟨by omega, .inr ⟨h2, (QiU h2).1 h⟩⟩
  · rintro (h | ⟨h1, h | ⟨h2, h⟩⟩)
    · left; omega
    · right; exact ⟨by omega, .inl (by simpa using h)⟩
    · right; exact ⟨by omega, .inr ⟨by simpa using h2, (QiU h2).2 h⟩⟩
theorem Qly {a b x : Nm} {u : List Nm} (h : wk adj u a b) (k : adj x a) : wk adj (x :: u) x b := by
  cases u with
  | nil => exact h.elim
  | cons y r =>
    have : y = a := by simpa using QiW h
    subst this
    exact ⟨rfl, k, h⟩
theorem QhP {a b x : Nm} {u : List Nm} (h : wk adj u a b) : Up d (x :: u) = d x a + Up d u := by
  cases u with
  | nil => exact h.elim
  | cons y r =>
    have : y = a := by simpa using QiW h
    subst this
    rfl
theorem QoY {a b x : Nm} {u w : List Nm} (hu : wk adj u a b) (hw : wk adj w a b) : bt d (x :: u) (x :: w) ↔ bt d u w := by
  unfold bt
  rw [QhP hu, QhP hw]
  simp only [List.length_cons, lx]
  constructor
  · rintro (h | ⟨h1, h | ⟨h2, h | ⟨_, h⟩⟩⟩)
    · left; omega
    · right; exact ⟨by omega, .inl (by omega)⟩
    · exact absurd h (Xk _)
    · right; exact ⟨by omega, .inr ⟨by omega, h⟩⟩
  · rintro (h | ⟨h1, h | ⟨h2, h⟩⟩)
    · left; omega
    · right; exact ⟨by omega, .inl (by omega)⟩
    · right; exact ⟨by omega, .inr ⟨by omega, .inr ⟨trivial, h⟩⟩⟩
/-- The least way. -/
def Lst (adj : Nm → Nm → Prop) (d : Nm → Nm → Int) (u : List Nm) (a b : Nm) : Prop := wk adj u a b ∧ ∀ w, wk adj w a b → ¬ bt d w u
theorem Lst.uniq {u w : List Nm} {a b : Nm} (h : Lst adj d u a b) (k : Lst adj d w a b) : u = w := by
  rcases Qgg (d := d) u w with q | q | q
  · exact absurd q (k.2 u h.1)
  · exact q
  · exact absurd q (h.2 w k.1)
theorem Lst.tail {x y b : Nm} {r : List Nm} (h : Lst adj d (x :: y :: r) x b) : Lst adj d (y :: r) y b :=
  ⟨h.1.2.2, fun w hw hb => h.2 (x :: w) (Qly hw h.1.2.1) ((QoY hw h.1.2.2).2 hb)⟩
theorem QbE (hd : ∀ a b, 0 ≤ d a b) : ∀ u : List Nm, 0 ≤ Up d u
  | [] => by simp [Up]
  | [x] => by simp [Up]
  | x :: y :: r => by have := QbE hd (y :: r); have := hd x y; simp only [Up]; omega
theorem QjE (hd : ∀ a b, 0 ≤ d a b) : ∀ (p q : List Nm), Up d p ≤ Up d (p ++ q)
  | [], q => by have := QbE hd q; simpa [Up] using this
  | [x], q => by have := QbE hd (x :: q); simpa [Up] using this
  | x :: y :: r, q => by have := QjE hd (y :: r) q; simp only [List.cons_append, Up] at this ⊢; omega
theorem Qlz (hd : ∀ a b, 0 ≤ d a b) {p q : List Nm} (hq : q ≠ []) : bt d p (p ++ q) := by
  have h := QjE hd p q
  have h2 : p.length < (p ++ q).length := by
    rw [List.length_append]; have := List.length_pos_iff.2 hq; omega
  unfold bt
  rcases Int.lt_or_eq_of_le h with h | h
  · exact .inl h
  · exact .inr ⟨h, .inl h2⟩
theorem QjF (hd : ∀ a b, 0 ≤ d a b) : ∀ (p q : List Nm), Up d q ≤ Up d (p ++ q)
  | [], q => by simp
  | [x], q => by
    cases q with
    | nil => simp [Up]
    | cons y r => have := hd x y; simp only [List.cons_append, List.nil_append, Up]; omega
  | x :: y :: r, q => by have h1 := QjF hd (y :: r) q; have h2 := hd x y; simp only [List.cons_append, Up] at h1 ⊢; omega
theorem QlA (hd : ∀ a b, 0 ≤ d a b) {p q : List Nm} (hp : p ≠ []) : bt d q (p ++ q) := by
  have h := QjF hd p q
  have h2 : q.length < (p ++ q).length := by
    rw [List.length_append]; have := List.length_pos_iff.2 hp; omega
  unfold bt
  rcases Int.lt_or_eq_of_le h with h | h
  · exact .inl h
  · exact .inr ⟨h, .inl h2⟩
theorem QhQ {a b z : Nm} : ∀ {p q : List Nm}, wk adj (p ++ z :: q) a b → wk adj (z :: q) z b
  | [], q, h => by
    cases q with
    | nil => exact ⟨rfl, h.2⟩
    | cons y r => exact ⟨rfl, h.2⟩
  | [x], q, h => h.2.2
  | x :: y :: r, q, h => QhQ (p := y :: r) h.2.2
theorem Lst.head_not (hd : ∀ a b, 0 ≤ d a b) {x b : Nm} {r : List Nm} (h : Lst adj d (x :: r) x b) : x ∉ r := fun hm => by
  obtain ⟨p, q, rfl⟩ := List.append_of_mem hm
  have hw : wk adj (x :: q) x b := QhQ (p := x :: p) (a := x) h.1
  exact h.2 _ hw (QlA (p := x :: p) hd (by simp))
theorem Lst.nodup (hd : ∀ a b, 0 ≤ d a b) : ∀ {u : List Nm} {a b : Nm}, Lst adj d u a b → u.Nodup
  | [], _, _, _ => List.nodup_nil
  | [x], _, _, _ => by simp
  | x :: y :: r, a, b, h => by
    have e : x = a := h.1.1
    subst e
    exact List.nodup_cons.2 ⟨h.head_not hd, Lst.nodup hd h.tail⟩
/-- At a fixpoint every way is matched. -/
theorem Qoo {best : Nm → Option (List Nm)} {from' : Nm} (hw : ∀ v u, best v = some u → wk adj u from' v) (h0 : ∃ u, best from' = some u ∧ ¬ bt d [from'] u)
    (hs : ∀ a b w, adj a b → best a = some w → ∃ o, best b = some o ∧ ¬ bt d (w ++ [b]) o) : ∀ (n : Nat) (u : List Nm), u.length = n → ∀ v, wk adj u from' v → ∃ o, best v = some o ∧ ¬ bt d u o := by
  intro n
  induction n with
  | zero => intro u hu v h; exact absurd (List.length_eq_zero_iff.1 hu) (QiV h)
  | succ n ih =>
    intro u hu v h
    obtain ⟨p, z, rfl⟩ : ∃ p z, u = p ++ [z] := ⟨u.dropLast, u.getLast (QiV h), (List.dropLast_concat_getLast (QiV h)).symm⟩
    obtain ⟨rfl, hp⟩ := QhO h
    rcases hp with ⟨rfl, rfl⟩ | ⟨b, hp, ha⟩
    · exact h0
    · obtain ⟨o, ho, hb⟩ := ih p (by simpa using hu) b hp
      obtain ⟨o2, ho2, hb2⟩ := hs b z o ha ho
      refine ⟨o2, ho2, fun hc => ?_⟩
      rcases Qgg (d := d) p o with q | q | q
      · exact hb q
      · subst q; exact hb2 hc
      · exact hb2 (Qd4 ((QoX (hw _ _ ho) hp).2 q) hc)
theorem QoZ {best : Nm → Option (List Nm)} {from' : Nm} (hw : ∀ v u, best v = some u → wk adj u from' v) (h0 : ∃ u, best from' = some u ∧ ¬ bt d [from'] u)
    (hs : ∀ a b w, adj a b → best a = some w → ∃ o, best b = some o ∧ ¬ bt d (w ++ [b]) o) (v : Nm) :
    (∀ u, best v = some u → Lst adj d u from' v) ∧ (best v = none → ∀ u, ¬ wk adj u from' v) := by
  constructor
  · intro u hu
    refine ⟨hw _ _ hu, fun w hw2 hb => ?_⟩
    obtain ⟨o, ho, hn⟩ := Qoo hw h0 hs _ w rfl v hw2
    rw [hu] at ho; cases ho
    exact hn hb
  · intro hn u h
    obtain ⟨o, ho, _⟩ := Qoo hw h0 hs _ u rfl v h
    rw [hn] at ho; cases ho
end
end Go.Ve

namespace Go.Ve
set_option linter.unusedVariables false
set_option linter.unusedSimpArgs false
section
variable {adj : Nm → Nm → Prop} {d : Nm → Nm → Int} {names : List Nm}
theorem V9 {α : Type} [DecidableEq α] : ∀ {u l : List α}, u.Nodup → (∀ z ∈ u, z ∈ l) → u.length ≤ l.length
  | [], _, _, _ => Nat.zero_le _
  | x :: u, l, h, k => by
    have hx : x ∈ l := k x (by simp)
    have h2 := List.nodup_cons.1 h
    have := V9 (u := u) (l := l.erase x) h2.2 fun z hz => by
      refine (List.mem_erase_of_ne ?_).2 (k z (by simp [hz]))
      rintro rfl; exact h2.1 hz
    rw [List.length_erase_of_mem hx] at this
    have := List.length_pos_iff.2 (List.ne_nil_of_mem hx)
    simp only [List.length_cons]; omega
def QeR (names : List Nm) : Nat → List (List Nm)
  | 0 => [[]]
  | n + 1 => [] :: names.flatMap fun x => (QeR names n).map (x :: ·)
theorem QhR : ∀ {n : Nat} {u : List Nm}, u.length ≤ n → (∀ z ∈ u, z ∈ names) → u ∈ QeR names n
  | 0, u, h, _ => by have : u = [] := List.length_eq_zero_iff.1 (by omega); subst this; simp [QeR]
  | n + 1, [], _, _ => by simp [QeR]
  | n + 1, x :: u, h, k => by
    simp only [QeR, List.mem_cons, List.mem_flatMap, List.mem_map]
    exact .inr ⟨x, k x (by simp), u, QhR (by simpa using h) fun z hz => k z (by simp [hz]), rfl⟩
theorem Qqz {α : Type} {p q : α → Bool} : ∀ {l : List α}, (∀ y ∈ l, p y = true → q y = true) → l.countP p ≤ l.countP q
  | [], _ => Nat.le_refl _
  | x :: l, h => by
    have ih := Qqz (l := l) fun y hy => h y (by simp [hy])
    have := h x (by simp)
    simp only [List.countP_cons]
    by_cases hp : p x = true
    · simp only [hp, this hp, if_true]; omega
    · have e : (if p x = true then 1 else 0) = 0 := if_neg hp
      rw [e]; split <;> omega
theorem QqA {α : Type} {p q : α → Bool} {x : α} : ∀ {l : List α}, (∀ y ∈ l, p y = true → q y = true) → x ∈ l → q x = true → p x = false → l.countP p < l.countP q
  | [], _, hx, _, _ => by cases hx
  | y :: l, h, hx, hq, hp => by
    simp only [List.countP_cons]
    rcases List.mem_cons.1 hx with rfl | hx
    · have := Qqz (l := l) fun y hy => h y (by simp [hy])
      simp only [hq, hp, if_true]; simp; omega
    · have ih := QqA (l := l) (fun y hy => h y (by simp [hy])) hx hq hp
      have := h y (by simp)
      by_cases hp : p y = true
      · simp only [hp, this hp, if_true]; omega
      · have e : (if p y = true then 1 else 0) = 0 := if_neg hp
        rw [e]; split <;> omega
open Classical in
noncomputable def rk (d : Nm → Nm → Int) (names : List Nm) : Option (List Nm) → Nat
  | none => (QeR names names.length).length + 1
  | some u => (QeR names names.length).countP fun y => decide (bt d y u)
theorem Qrm (u : List Nm) : rk d names (some u) < rk d names none := by
  simp only [rk]
  have := List.countP_le_length (p := fun y => @decide (bt d y u) (Classical.propDecidable _)) (l := QeR names names.length)
  omega
theorem Qrn {x o : List Nm} (hx : x ∈ QeR names names.length) (h : bt d x o) : rk d names (some x) < rk d names (some o) := by
  unfold rk
  refine QqA (x := x) (fun y _ hy => ?_) hx (by simpa using h) (by simpa using Qch x)
  simp only [decide_eq_true_eq] at hy ⊢
  exact Qd4 hy h
def bup (best : Nm → Option (List Nm)) (b : Nm) (x : List Nm) : Nm → Option (List Nm) := fun v => if v = b then some x else best v
noncomputable def tot (d : Nm → Nm → Int) (names : List Nm) (best : Nm → Option (List Nm)) : Nat := (names.map fun v => rk d names (best v)).sum
theorem Qop {f g : Nm → Nat} {b : Nm} : ∀ {l : List Nm}, (∀ v ∈ l, f v ≤ g v) → b ∈ l → f b < g b → (l.map f).sum < (l.map g).sum
  | [], _, h, _ => by cases h
  | x :: l, h, hb, k => by
    have h0 := h x (by simp)
    have hl : (l.map f).sum ≤ (l.map g).sum := by
      clear hb
      induction l with
      | nil => simp
      | cons y l ih =>
        have := h y (by simp)
        have := ih fun v hv => h v (by rcases List.mem_cons.1 hv with rfl | hv <;> simp [*])
        simp only [List.map_cons, List.sum_cons]; omega
    simp only [List.map_cons, List.sum_cons]
    rcases List.mem_cons.1 hb with rfl | hb
    · omega
    · have := Qop (l := l) (fun v hv => h v (by simp [hv])) hb k
      omega
/-- What the best ways keep to. -/
structure BInv (adj : Nm → Nm → Prop) (d : Nm → Nm → Int) (names : List Nm) (fr : Nm) (best : Nm → Option (List Nm)) : Prop where
  w : ∀ v u, best v = some u → wk adj u fr v
  z : ∃ u, best fr = some u ∧ ¬ bt d [fr] u
  p : ∀ v u, best v = some u → ∀ p q, u = p ++ q → ∀ z, p.getLast? = some z → ∃ o, best z = some o ∧ ¬ bt d p o
  n : ∀ v u, best v = some u → u.Nodup ∧ ∀ z ∈ u, z ∈ names
theorem BInv.fresh (hd : ∀ a b, 0 ≤ d a b) {fr a b : Nm} {best : Nm → Option (List Nm)} {w : List Nm} (h : BInv adj d names fr best) (ha : best a = some w) (hn : best b = none ∨ ∃ o, best b = some o ∧ bt d (w ++ [b]) o) : b ∉ w := fun hm => by
  obtain ⟨p, q, e⟩ := List.append_of_mem hm
  have e2 : w = (p ++ [b]) ++ q := by rw [e]; simp
  obtain ⟨o, ho, hb⟩ := h.p a w ha (p ++ [b]) q e2 b (by simp)
  rcases hn with hn | ⟨o2, ho2, hb2⟩
  · rw [hn] at ho; cases ho
  · rw [ho] at ho2; cases ho2
    refine hb (Qd4 ?_ hb2)
    rw [e2, List.append_assoc]
    exact Qlz hd (by simp)
theorem BInv.upd (hd : ∀ a b, 0 ≤ d a b) {fr a b : Nm} {best : Nm → Option (List Nm)} {w : List Nm} (h : BInv adj d names fr best) (ha : best a = some w) (hb : b ∈ names) (hab : adj a b) (hn : best b = none ∨ ∃ o, best b = some o ∧ bt d (w ++ [b]) o) : BInv adj d names fr (bup best b (w ++ [b])) := by
  have hf := h.fresh hd ha hn
  have keep : ∀ z p o, best z = some o → ¬ bt d p o → ∃ o', bup best b (w ++ [b]) z = some o' ∧ ¬ bt d p o' := fun z p o ho hp => by
    unfold bup
    by_cases e : z = b
    · subst e
      rw [if_pos rfl]
      refine ⟨_, rfl, fun hc => ?_⟩
      rcases hn with hn | ⟨o2, ho2, hb2⟩
      · rw [hn] at ho; cases ho
      · rw [ho] at ho2; cases ho2
        exact hp (Qd4 hc hb2)
    · rw [if_neg e]; exact ⟨o, ho, hp⟩
  refine ⟨fun v u hu => ?_, ?_, fun v u hu p q e z hz => ?_, fun v u hu => ?_⟩
  · unfold bup at hu
    split at hu
    · rename_i e; cases hu; subst e; exact Qlx (h.w _ _ ha) hab
    · exact h.w _ _ hu
  · obtain ⟨u, hu, hb0⟩ := h.z
    exact keep fr [fr] u hu hb0
  · unfold bup at hu
    split at hu
    · rename_i e0
      cases hu
      rcases List.eq_nil_or_concat q with rfl | ⟨q', y, rfl⟩
      · rw [List.append_nil] at e
        subst e
        have : z = b := by simpa using hz.symm
        subst this
        unfold bup
        rw [if_pos rfl]
        exact ⟨_, rfl, Qch _⟩
      · rw [List.concat_eq_append, ← List.append_assoc] at e
        obtain ⟨e1, _⟩ := List.append_inj' e rfl
        obtain ⟨o, ho, hp⟩ := h.p a w ha p q' e1 z hz
        exact keep z p o ho hp
    · obtain ⟨o, ho, hp⟩ := h.p v u hu p q e z hz
      exact keep z p o ho hp
  · unfold bup at hu
    split at hu
    · cases hu
      have := h.n a w ha
      refine ⟨?_, fun z hz => ?_⟩
      · rw [List.nodup_append]
        refine ⟨this.1, by simp, fun x hx y hy => ?_⟩
        rw [List.mem_singleton.1 hy]
        rintro rfl; exact hf hx
      · rcases List.mem_append.1 hz with hz | hz
        · exact this.2 z hz
        · rw [List.mem_singleton.1 hz]; exact hb
    · exact h.n _ _ hu
theorem BInv.tot_lt (hd : ∀ a b, 0 ≤ d a b) {fr a b : Nm} {best : Nm → Option (List Nm)} {w : List Nm} (h : BInv adj d names fr best) (ha : best a = some w) (hb : b ∈ names) (hab : adj a b) (hn : best b = none ∨ ∃ o, best b = some o ∧ bt d (w ++ [b]) o) : tot d names (bup best b (w ++ [b])) < tot d names best := by
  have hi := (h.upd hd ha hb hab hn).n b (w ++ [b]) (by unfold bup; rw [if_pos rfl])
  have hx : w ++ [b] ∈ QeR names names.length := QhR (V9 hi.1 hi.2) hi.2
  have hlt : rk d names (some (w ++ [b])) < rk d names (best b) := by
    rcases hn with hn | ⟨o, ho, hb2⟩
    · rw [hn]; exact Qrm _
    · rw [ho]; exact Qrn hx hb2
  unfold tot
  refine Qop (b := b) (fun v _ => ?_) hb ?_
  · unfold bup
    split
    · rename_i e; subst e; omega
    · exact Nat.le_refl _
  · unfold bup; rw [if_pos rfl]; exact hlt
theorem BInv.start (fr : Nm) (hf : fr ∈ names) : BInv adj d names fr (fun v => if v = fr then some [fr] else none) := by
  refine ⟨fun v u hu => ?_, ⟨[fr], by rw [if_pos rfl], Qch _⟩, fun v u hu p q e z hz => ?_, fun v u hu => ?_⟩
  · split at hu
    · rename_i e; cases hu; exact ⟨rfl, e.symm⟩
    · cases hu
  · split at hu
    · cases hu
      cases p with
      | nil => simp at hz
      | cons x p =>
        simp only [List.cons_append, List.cons.injEq] at e
        obtain ⟨rfl, e⟩ := e
        obtain ⟨rfl, rfl⟩ := List.append_eq_nil_iff.1 e.symm
        have : z = fr := by simpa using hz.symm
        subst this
        exact ⟨[z], by rw [if_pos rfl], Qch _⟩
    · cases hu
  · split at hu
    · cases hu; exact ⟨by simp, fun z hz => by rw [List.mem_singleton.1 hz]; exact hf⟩
    · cases hu
/-! ## rounds of best ways to a point -/
def Qrj (adj : Nm → Nm → Prop) (names : List Nm) (to : Nm) (B : List (List Nm)) : Prop := B.length = names.length ∧ ∀ i, i < names.length → B.getD i [] ≠ [] → wk adj (B.getD i []) (names.getD i default) to
def Dn (adj : Nm → Nm → Prop) (d : Nm → Nm → Int) (names : List Nm) (to : Nm) (B : List (List Nm)) (n r : Nat) : Prop := ∀ i, i < n → ∀ m, Lst adj d m (names.getD i default) to → m.length ≤ r → B.getD i [] = m
def Kn (adj : Nm → Nm → Prop) (d : Nm → Nm → Int) (names : List Nm) (to : Nm) (B : List (List Nm)) (i k r : Nat) : Prop := ∀ k', k' < k → ∀ m, Lst adj d m (names.getD k' default) to → Lst adj d (names.getD i default :: m) (names.getD i default) to → m.length ≤ r → B.getD i [] = names.getD i default :: m
theorem QlB (hd : ∀ a b, 0 ≤ d a b) {to : Nm} {B : List (List Nm)} {i k r : Nat} (hi : i < names.length) (hk : k < names.length) (D : Dn adj d names to B names.length r) (K : Kn adj d names to B i k r) (h : B.getD k [] = [] ∨ ¬ adj (names.getD i default) (names.getD k default) ∨ names.getD i default ∈ B.getD k []) : Kn adj d names to B i (k + 1) r := fun k' hk' m hm hm2 hr => by
  rcases Nat.lt_or_ge k' k with q | q
  · exact K k' q m hm hm2 hr
  · have e : k' = k := by omega
    subst e
    have e := D k' hk m hm hr
    rw [e] at h
    rcases h with h | h | h
    · exact absurd h (QiV hm.1)
    · cases m with
      | nil => exact hm.1.elim
      | cons y t =>
        have : y = names.getD k' default := by simpa using QiW hm.1
        exact absurd (this ▸ hm2.1.2.1) h
    · exact absurd h (hm2.head_not hd)
theorem Qm8 {to : Nm} {B : List (List Nm)} {i k r r2 : Nat} (hi : i < names.length) (hk : k < names.length) (S : Qrj adj names to B) (hne : B.getD k [] ≠ []) (ha : adj (names.getD i default) (names.getD k default))
    (D : Dn adj d names to B names.length r) (I : Dn adj d names to B i r2) (K : Kn adj d names to B i k r) {B' : List (List Nm)}
    (hB : (B.getD i [] = [] ∨ bt d (names.getD i default :: B.getD k []) (B.getD i [])) ∧ B' = B.set i (names.getD i default :: B.getD k []) ∨ ¬ (B.getD i [] = [] ∨ bt d (names.getD i default :: B.getD k []) (B.getD i [])) ∧ B' = B) :
    Qrj adj names to B' ∧ Dn adj d names to B' names.length r ∧ Dn adj d names to B' i r2 ∧ Kn adj d names to B' i (k + 1) r := by
  have hw : wk adj (names.getD i default :: B.getD k []) (names.getD i default) to := Qly (S.2 k hk hne) ha
  have hiB : i < B.length := by rw [S.1]; exact hi
  have get1 : ∀ x : List Nm, (B.set i x).getD i [] = x := fun x => by simp [List.getD_eq_getElem?_getD, hiB]
  have get2 : ∀ (x : List Nm) (j : Nat), j ≠ i → (B.set i x).getD j [] = B.getD j [] := fun x j hj => by simp [List.getD_eq_getElem?_getD, List.getElem?_set_ne (Ne.symm hj)]
  have least : ∀ m, Lst adj d m (names.getD i default) to → B.getD i [] = m → B'.getD i [] = m := fun m hm e => by
    rcases hB with ⟨h, rfl⟩ | ⟨_, rfl⟩
    · rcases h with h | h
      · rw [e] at h; exact absurd h (QiV hm.1)
      · rw [e] at h; exact absurd h (hm.2 _ hw)
    · exact e
  have other : ∀ j, j ≠ i → B'.getD j [] = B.getD j [] := fun j hj => by
    rcases hB with ⟨_, rfl⟩ | ⟨_, rfl⟩
    · exact get2 _ j hj
    · rfl
  have dn : ∀ n q, n ≤ names.length → Dn adj d names to B n q → Dn adj d names to B' n q := fun n q hn h j hj m hm hr => by
    by_cases e : j = i
    · subst e; exact least m hm (h j hj m hm hr)
    · rw [other j e]; exact h j hj m hm hr
  refine ⟨⟨?_, fun j hj hnj => ?_⟩, dn _ _ (Nat.le_refl _) D, dn _ _ (by omega) I, fun k' hk' m hm hm2 hr => ?_⟩
  · rcases hB with ⟨_, rfl⟩ | ⟨_, rfl⟩
    · rw [List.length_set]; exact S.1
    · exact S.1
  · by_cases e : j = i
    · subst e
      rcases hB with ⟨_, rfl⟩ | ⟨_, rfl⟩
      · rw [get1]; exact hw
      · exact S.2 j hj hnj
    · rw [other j e] at hnj ⊢; exact S.2 j hj hnj
  · rcases Nat.lt_or_ge k' k with q | q
    · exact least _ hm2 (K k' q m hm hm2 hr)
    · have e : k' = k := by omega
      subst e
      have e := D k' hk m hm hr
      rw [e] at hB hw
      rcases hB with ⟨_, rfl⟩ | ⟨h, rfl⟩
      · rw [get1]
      · have h1 : B'.getD i [] ≠ [] := fun q => h (.inl q)
        rcases Qgg (d := d) (names.getD i default :: m) (B'.getD i []) with q | q | q
        · exact absurd (.inr q) h
        · exact q.symm
        · exact absurd q (hm2.2 _ (S.2 i hi h1))
theorem Qo0 (hN : ∀ a b, adj a b → b ∈ names) {to : Nm} {B : List (List Nm)} {i r : Nat} (hi : i < names.length) (hr : 1 ≤ r) (D : Dn adj d names to B names.length r) (I : Dn adj d names to B i (r + 1)) (K : Kn adj d names to B i names.length r) : Dn adj d names to B (i + 1) (r + 1) := fun j hj m hm hl => by
  rcases Nat.lt_or_ge j i with q | q
  · exact I j q m hm hl
  · have e : j = i := by omega
    subst e
    match m, hm, hl with
    | [], hm, _ => exact hm.1.elim
    | [x], hm, _ => exact D j hi [x] hm (by simpa using hr)
    | x :: y :: t, hm, hl =>
      have ex : x = names.getD j default := hm.1.1
      obtain ⟨k, hk, ek⟩ := List.getElem_of_mem (hN x y hm.1.2.1)
      have ek : names.getD k default = y := by rw [List.getD_eq_getElem?_getD, List.getElem?_eq_getElem hk]; exact ek
      rw [ex] at hm ⊢
      have ht : Lst adj d (y :: t) y to := Lst.tail (ex ▸ hm)
      exact K k hk (y :: t) (ek ▸ ht) hm (by simpa using hl)
theorem Qgh (hN : ∀ a b, adj a b → b ∈ names) {a b : Nm} : ∀ {u : List Nm}, wk adj u a b → a ∈ names → ∀ z ∈ u, z ∈ names
  | [], h, _, _, _ => h.elim
  | [x], h, ha, z, hz => by rw [List.mem_singleton.1 hz, h.1]; exact ha
  | x :: y :: t, h, ha, z, hz => by
    rcases List.mem_cons.1 hz with rfl | hz
    · rw [h.1]; exact ha
    · exact Qgh hN (u := y :: t) h.2.2 (hN _ _ h.2.1) z hz
end
end Go.Ve

namespace Go.Ve
set_option linter.unusedSimpArgs false
set_option linter.unusedVariables false
open Go.RowKit

/-! Rows that hold own slices: families of objects. -/
def fam (k i : Nat) : Nat := k + 1000 * (i + 1)
theorem WO {k i j : Nat} (h : fam k i = fam k j) : i = j := by unfold fam at h; omega
theorem YI {k i o : Nat} (h : o < 1000) : (fam k i = o) = False := by unfold fam; simp; omega
theorem Y5 {k i o : Nat} (h : o < 1000) : (o = fam k i) = False := by unfold fam; simp; omega
theorem QbF {k i : Nat} (h : k < 1000) : fam k i % 1000 = k := by unfold fam; omega
/-- A row of a name and an own slice. -/
structure NRow where
  nm : ByteArray
  n : Nat
  o : Nat
  ob : AObj
  deriving Inhabited
def NRow.row (r : NRow) : List AV := [.str r.nm, .own r.o 0 0 r.n]
def KD (l : List NRow) : List (Nat × AObj) := l.map fun r => (r.o, r.ob)
def Qas (k : Nat) (l : List NRow) : Prop := ∀ i, i < l.length → (l.getD i default).o = fam k i

theorem Gj {A B : List (Nat × AObj)} {o : Nat} (h : getM A o = none) : getM (A ++ B) o = getM B o := by
  rw [Ga, h]; rfl
theorem XS {A B : List (Nat × AObj)} {o : Nat} {x : AObj} (h : getM A o = some x) : getM (A ++ B) o = some x := by
  rw [Ga, h]; rfl
theorem QhS {l : List NRow} {o : Nat} (h : ∀ i, i < l.length → (l.getD i default).o ≠ o) : getM (KD l) o = none := by
  induction l with
  | nil => rfl
  | cons r l ih =>
    simp only [KD, List.map_cons, getM]
    rw [if_neg (fun e => h 0 (by simp) (by simpa using e.symm))]
    exact ih fun i hi => by simpa using h (i + 1) (by simpa using hi)
theorem Qm9 {k : Nat} {l : List NRow} (hf : Qas k l) {j q : Nat} (hk : k < 1000) (hq : q < 1000) (h : k ≠ q) : getM (KD l) (fam q j) = none :=
  QhS fun i hi e => by rw [hf i hi] at e; unfold fam at e; omega
theorem QjG {k : Nat} {l : List NRow} (hf : Qas k l) {j : Nat} (h : l.length ≤ j) : getM (KD l) (fam k j) = none :=
  QhS fun i hi e => by rw [hf i hi] at e; have := WO e; omega
theorem QlC {l : List NRow} : ∀ {i : Nat}, (∀ a b, a < l.length → b < l.length → (l.getD a default).o = (l.getD b default).o → a = b) → i < l.length → getM (KD l) (l.getD i default).o = some (l.getD i default).ob := by
  induction l with
  | nil => intro i _ h; simp at h
  | cons r l ih =>
    intro i hd h
    simp only [KD, List.map_cons, getM]
    cases i with
    | zero => simp
    | succ i =>
      have h' : i < l.length := by simpa using h
      rw [if_neg (fun e => by
        have := hd (i + 1) 0 h (by simp) (by simpa using e); omega)]
      have := ih (i := i) (fun a b ha hb e => by
        have := hd (a + 1) (b + 1) (by simpa using ha) (by simpa using hb) (by simpa using e); omega) h'
      simpa [KD] using this
theorem Wa {k : Nat} {l : List NRow} (hf : Qas k l) {i : Nat} (h : i < l.length) : getM (KD l) (fam k i) = some (l.getD i default).ob := by
  rw [← hf i h]
  exact QlC (fun a b ha hb e => by rw [hf a ha, hf b hb] at e; exact WO e) h
theorem Qa4 {A B : List (Nat × AObj)} {o : Nat} {x : AObj} (h : getM A o = none) : Xx (A ++ B) o x = A ++ Xx B o x := by
  induction A with
  | nil => rfl
  | cons p A ih =>
    obtain ⟨k, y⟩ := p
    simp only [getM] at h
    split at h
    · cases h
    · rename_i hne
      simp only [List.cons_append, Xx, if_neg hne, ih h]
theorem Qd5 {A : List (Nat × AObj)} {o : Nat} {x : AObj} (h : getM A o = none) : Xx A o x = A ++ [(o, x)] := by
  have := Qa4 (B := []) (x := x) h
  rw [List.append_nil] at this; exact this
theorem Qkx {l : List NRow} : ∀ {i : Nat} {x : AObj}, (∀ a b, a < l.length → b < l.length → (l.getD a default).o = (l.getD b default).o → a = b) → i < l.length → Xx (KD l) (l.getD i default).o x = KD (l.set i { l.getD i default with ob := x }) := by
  induction l with
  | nil => intro i x _ h; simp at h
  | cons r l ih =>
    intro i x hd h
    simp only [KD, List.map_cons, Xx]
    cases i with
    | zero => simp
    | succ i =>
      have h' : i < l.length := by simpa using h
      rw [if_neg (fun e => by
        have := hd (i + 1) 0 h (by simp) (by simpa using e); omega)]
      have := ih (i := i) (x := x) (fun a b ha hb e => by
        have := hd (a + 1) (b + 1) (by simpa using ha) (by simpa using hb) (by simpa using e); omega) h'
      simpa [KD] using this
theorem QjH {k : Nat} {l : List NRow} (hf : Qas k l) {i : Nat} {x : AObj} (h : i < l.length) : Xx (KD l) (fam k i) x = KD (l.set i { l.getD i default with ob := x }) := by
  rw [← hf i h]
  exact Qkx (fun a b ha hb e => by rw [hf a ha, hf b hb] at e; exact WO e) h
theorem QhT {a b : List NRow} : KD (a ++ b) = KD a ++ KD b := by simp [KD]
theorem Qo1 {M A B : List (Nat × AObj)} : wkM M (A ++ B) ↔ wkM M A ∧ wkM M B := by
  induction A with
  | nil => simp [wkM]
  | cons p A ih => obtain ⟨k, v⟩ := p; simp only [List.cons_append, wkM, ih, and_assoc]
theorem Qd6 {A B : List (Nat × AObj)} (h : ∀ p ∈ B, getM A p.1 = some p.2) : wkM A B := by
  induction B with
  | nil => exact trivial
  | cons p B ih => obtain ⟨k, v⟩ := p; exact ⟨h (k, v) (by simp), ih fun p hp => h p (by simp [hp])⟩

/-- The rows of a family, from names and contents. -/
def G5 (k e sz : Nat) (l : List (ByteArray × List (List AV))) : List NRow := l.mapIdx fun i x => ⟨x.1, x.2.length, fam k i, .arr e 0 sz x.2⟩
theorem XH {k e sz : Nat} {l : List (ByteArray × List (List AV))} : (G5 k e sz l).length = l.length := by simp [G5]
theorem Vo {k e sz : Nat} {l : List (ByteArray × List (List AV))} {i : Nat} (h : i < l.length) : (G5 k e sz l).getD i default = ⟨(l.getD i default).1, (l.getD i default).2.length, fam k i, .arr e 0 sz (l.getD i default).2⟩ := by
  simp [G5, h]
theorem Xp {k e sz : Nat} {l : List (ByteArray × List (List AV))} : Qas k (G5 k e sz l) := fun i hi => by
  rw [Vo (by rwa [XH] at hi)]
theorem QhU {k e sz : Nat} {l : List (ByteArray × List (List AV))} {x : ByteArray × List (List AV)} : G5 k e sz (l ++ [x]) = G5 k e sz l ++ [⟨x.1, x.2.length, fam k l.length, .arr e 0 sz x.2⟩] := by
  simp [G5, List.mapIdx_append]

theorem Qat {k : Nat} {l : List NRow} {M : List (Nat × AObj)} (hf : Qas k l) (h : ∀ i, i < l.length → getM M (fam k i) = some (l.getD i default).ob) : wkM M (KD l) := by
  have : ∀ (l' : List NRow) (j : Nat), (∀ i, i < l'.length → (l'.getD i default).o = fam k (j + i) ∧ getM M (fam k (j + i)) = some (l'.getD i default).ob) → wkM M (KD l') := by
    intro l'
    induction l' with
    | nil => intro _ _; exact trivial
    | cons r l' ih =>
      intro j hj
      have h0 := hj 0 (by simp)
      simp only [List.getD_cons_zero, Nat.add_zero] at h0
      refine ⟨by rw [h0.1]; exact h0.2, ih (j + 1) fun i hi => ?_⟩
      have := hj (i + 1) (by simpa using hi)
      simp only [List.getD_cons_succ] at this
      rwa [show j + (i + 1) = j + 1 + i from by omega] at this
  exact this l 0 fun i hi => by rw [Nat.zero_add]; exact ⟨hf i hi, h i hi⟩
theorem Qo2 {A B : List (Nat × AObj)} : dom (A ++ B) = dom A ++ dom B := by simp [dom]
theorem QlD {l : List NRow} : dom (KD l) = l.map (·.o) := by simp [dom, KD]
theorem X7 {l : List NRow} {d : List Nat} (h : ∀ r ∈ l, d.contains r.o = true) : (l.map NRow.row).all (Qo d) = true := by
  rw [List.all_eq_true]
  intro x hx
  obtain ⟨r, hr, rfl⟩ := List.mem_map.1 hx
  simp only [NRow.row, Qo, Qx, h r hr, Bool.and_self]
theorem XU {k e sz : Nat} {x : List (ByteArray × List (List AV))} {d : List Nat} (he : e < 1000000) : ((KD (G5 k e sz x)).all fun p => Qb d p.2) = true := by
  rw [List.all_eq_true]
  intro p hp
  simp only [KD, G5, List.mem_map, List.mem_mapIdx] at hp
  obtain ⟨r, ⟨i, hi, rfl⟩, rfl⟩ := hp
  simp [Qb, he]
theorem Qgi {k e sz : Nat} {x : List (ByteArray × List (List AV))} (hk : k < 1000) {r : NRow} (h : r ∈ G5 k e sz x) : r.o % 1000 = k := by
  simp only [G5, List.mem_mapIdx] at h
  obtain ⟨i, hi, rfl⟩ := h
  exact QbF hk
theorem QhV {k e sz : Nat} {x : List (ByteArray × List (List AV))} {c : Nat → Bool} (hk : k < 1000) (h : 100 ≤ k) : ((dom (KD (G5 k e sz x))).all fun o => decide (100 ≤ o % 1000) || c o) = true := by
  rw [List.all_eq_true, QlD]
  intro o ho
  obtain ⟨r, hr, rfl⟩ := List.mem_map.1 ho
  rw [Qgi hk hr]; simp [h]

/-- Two families change places. -/
def QiX (a b o : Nat) : Nat := if 1000 ≤ o then (if o % 1000 = a then o - a + b else if o % 1000 = b then o - b + a else o) else o
theorem Qcj {a b : Nat} (ha : a < 1000) (hb : b < 1000) (o : Nat) : QiX a b (QiX a b o) = o := by
  unfold QiX
  split
  · split
    · split
      · split
        · omega
        · split <;> omega
      · omega
    · split
      · split
        · split
          · omega
          · omega
        · omega
      · rfl
  · rfl
theorem Qgj {a b i : Nat} (ha : a < 1000) : QiX a b (fam a i) = fam b i := by
  unfold QiX fam
  rw [if_pos (by omega), if_pos (by omega)]; omega
theorem QlE {a b k i : Nat} (hk : k < 1000) (h1 : k ≠ a) (h2 : k ≠ b) : QiX a b (fam k i) = fam k i := by
  unfold QiX fam
  rw [if_pos (by omega), if_neg (by omega), if_neg (by omega)]
theorem WP {a b k i : Nat} (ha : a < 1000) (hb : b < 1000) : swp a b (fam k i) = fam k i := by
  unfold swp
  rw [if_neg (by simp [YI ha]), if_neg (by simp [YI hb])]
def NRow.ren (s : Nat → Nat) (r : NRow) : NRow := ⟨r.nm, r.n, s r.o, renO s r.ob⟩
theorem ZI {s : Nat → Nat} {l : List NRow} : ZB s (KD l) = KD (l.map (NRow.ren s)) := by
  induction l with
  | nil => rfl
  | cons r l ih => simp only [KD, List.map_cons] at ih ⊢; simp only [ZB, ih]; rfl
theorem Qgk {s : Nat → Nat} {A B : List (Nat × AObj)} : ZB s (A ++ B) = ZB s A ++ ZB s B := by
  induction A with
  | nil => rfl
  | cons p A ih => obtain ⟨k, x⟩ := p; simp only [List.cons_append, ZB, ih]
theorem QbG {s : Nat → Nat} {l : List NRow} : (l.map NRow.row).map (Ui s) = (l.map (NRow.ren s)).map NRow.row := by
  rw [List.map_map, List.map_map]; rfl
theorem QhW {a b e sz : Nat} {l : List (ByteArray × List (List AV))} (ha : a < 1000) (he : e < 1000000) : (G5 a e sz l).map (NRow.ren (QiX a b)) = G5 b e sz l := by
  refine List.ext_getElem (by simp [G5]) fun i h1 h2 => ?_
  simp [G5, NRow.ren, Qgj ha, renO, he]
theorem Qd7 {a b k e sz : Nat} {l : List (ByteArray × List (List AV))} (ha : a < 1000) (hb : b < 1000) (he : e < 1000000) : (G5 k e sz l).map (NRow.ren (swp a b)) = G5 k e sz l := by
  refine List.ext_getElem (by simp [G5]) fun i h1 h2 => ?_
  simp [G5, NRow.ren, WP ha hb, renO, he]

/-! A memory whose tail is of families. -/
def Qhd (T : List (Nat × AObj)) : Prop := ∀ p ∈ T, 1000 ≤ p.1
theorem Qd8 {A : List (Nat × AObj)} (ha : Qhd A) : Qhd A.reverse := fun p hp => ha p (List.mem_reverse.1 hp)
theorem Zl {k e sz : Nat} {x : List (ByteArray × List (List AV))} : Qhd (KD (G5 k e sz x)) := by
  intro p hp
  simp only [KD, G5, List.mem_map, List.mem_mapIdx] at hp
  obtain ⟨r, ⟨i, hi, rfl⟩, rfl⟩ := hp
  show 1000 ≤ fam k i
  unfold fam; omega
theorem gB0 {T : List (Nat × AObj)} {o : Nat} (h : Qhd T) (ho : o < 1000) : getM T o = none := by
  cases hg : getM T o with
  | none => rfl
  | some x => have := h _ (Xa hg); simp only at this; omega
theorem gB {T B : List (Nat × AObj)} {o : Nat} (h : Qhd T) (ho : o < 1000) : getM (T ++ B) o = getM B o := Gj (gB0 h ho)
theorem sB {T B : List (Nat × AObj)} {o : Nat} {x : AObj} (h : Qhd T) (ho : o < 1000) : Xx (T ++ B) o x = T ++ Xx B o x := Qa4 (gB0 h ho)
theorem sB0 {T : List (Nat × AObj)} {o : Nat} {x : AObj} (h : Qhd T) (ho : o < 1000) : Xx T o x = T ++ [(o, x)] := Qd5 (gB0 h ho)
/-- New objects of distinct numbers. -/
theorem aU {M U : List (Nat × AObj)} (h1 : ∀ p ∈ U, getM M p.1 = none) (h2 : U.Pairwise fun a b => a.1 ≠ b.1) : YU M U = M ++ U.reverse := by
  induction U with
  | nil => simp [YU]
  | cons p U ih =>
    rw [List.pairwise_cons] at h2
    have := ih (fun q hq => h1 q (by simp [hq])) h2.2
    show Xx (YU M U) p.1 p.2 = _
    rw [this, Qd5, List.reverse_cons, List.append_assoc]
    rw [Gj (h1 p (by simp))]
    cases hg : getM U.reverse p.1 with
    | none => rfl
    | some x =>
      have := Xa hg
      rw [List.mem_reverse] at this
      exact absurd rfl (h2.1 (p.1, x) this)
theorem QbH {k e sz : Nat} {x : List (ByteArray × List (List AV))} : (KD (G5 k e sz x)).Pairwise fun a b => a.1 ≠ b.1 := by
  rw [List.pairwise_iff_getElem]
  intro i j hi hj hij
  simp only [KD, G5, List.getElem_map, List.getElem_mapIdx]
  intro e
  have := WO e; omega
theorem Qgl {U : List (Nat × AObj)} (h2 : U.Pairwise fun a b => a.1 ≠ b.1) (o : Nat) : getM U.reverse o = getM U o := by
  induction U with
  | nil => rfl
  | cons p U ih =>
    rw [List.pairwise_cons] at h2
    rw [List.reverse_cons, Ga, ih h2.2]
    obtain ⟨k, x⟩ := p
    simp only [getM]
    by_cases e : o = k
    · subst e
      rw [if_pos rfl, if_pos rfl]
      cases hg : getM U o with
      | none => rfl
      | some y => exact absurd rfl (h2.1 (o, y) (Xa hg))
    · rw [if_neg e, if_neg e]; cases getM U o <;> rfl
theorem Qck {k e sz : Nat} {x : List (ByteArray × List (List AV))} {o : Nat} : getM (KD (G5 k e sz x)).reverse o = getM (KD (G5 k e sz x)) o := Qgl QbH o
theorem XO {k e sz : Nat} {x : List (ByteArray × List (List AV))} {p : Nat × AObj} (h : p ∈ KD (G5 k e sz x)) : ∃ i, i < x.length ∧ p = (fam k i, .arr e 0 sz (x.getD i default).2) := by
  simp only [KD, G5, List.mem_map, List.mem_mapIdx] at h
  obtain ⟨r, ⟨i, hi, rfl⟩, rfl⟩ := h
  exact ⟨i, hi, by simp [hi]⟩
theorem Vp {k e sz : Nat} {x : List (ByteArray × List (List AV))} {i : Nat} (h : i < x.length) : getM (KD (G5 k e sz x)) (fam k i) = some (.arr e 0 sz (x.getD i default).2) := by
  rw [Wa Xp (by rw [XH]; exact h), Vo h]
theorem U0 {k e sz q j : Nat} {x : List (ByteArray × List (List AV))} (hk : k < 1000) (hq : q < 1000) (h : k ≠ q) : getM (KD (G5 k e sz x)) (fam q j) = none := Qm9 Xp hk hq h

/-- All its numbers are of the function's own. -/
def Zm (T : List (Nat × AObj)) : Prop := ∀ p ∈ T, 100 ≤ p.1 % 1000
theorem Xs : Zm [] := fun p hp => by cases hp
theorem YV {o : Nat} {x : AObj} {T : List (Nat × AObj)} (h : 100 ≤ o % 1000) (ht : Zm T) : Zm ((o, x) :: T) := fun p hp => by
  rcases List.mem_cons.1 hp with rfl | hp
  · exact h
  · exact ht p hp
theorem Qa5 {A B : List (Nat × AObj)} (ha : Zm A) (hb : Zm B) : Zm (A ++ B) := fun p hp => (List.mem_append.1 hp).elim (ha p) (hb p)
theorem QfT {A : List (Nat × AObj)} (ha : Zm A) : Zm A.reverse := fun p hp => ha p (List.mem_reverse.1 hp)
theorem WQ {k e sz : Nat} {x : List (ByteArray × List (List AV))} (hk : k < 1000) (h : 100 ≤ k) : Zm (KD (G5 k e sz x)) := fun p hp => by
  obtain ⟨i, _, rfl⟩ := XO hp
  show 100 ≤ fam k i % 1000
  rw [QbF hk]; exact h
theorem Qgm {M M' : List (Nat × AObj)} (h : Zm M) : keepB M M' = true := by
  unfold keepB
  rw [List.all_eq_true]
  intro o ho
  obtain ⟨p, hp, rfl⟩ := List.mem_map.1 ho
  simp [h p hp]

/-! ## contracts that forget -/
/-- What a call YL of the objects is forgotten. -/
theorem Contract.gone {P : Program} {f : FuncId} {args : List AV} {pre post : List (Nat × AObj)} {r : AV} (hC : Contract P f args pre r post) (hr : noref r = true) :
    Contract P f args pre r (post.map fun p => (p.1, .gone)) := by
  intro io w loc vs hio hwf hargs
  refine (hC io w loc vs hio hwf hargs).mono ?_
  rintro e w' ⟨v, loc', rfl, hwf', hX, hv, hev, hnew⟩
  have hg : ∀ o, getM (post.map fun p => (p.1, AObj.gone)) o = (getM post o).map fun _ => .gone := fun o => by
    induction post with
    | nil => rfl
    | cons p l ih =>
      obtain ⟨k, x⟩ := p
      simp only [List.map_cons, getM]
      split
      · rfl
      · clear hC hwf' hX hv; exact ih_aux l o
  have hno : ∀ b, ¬ Ctx.ownB ⟨io, w', fun o => (loc' o).map fun _ => Value.tuple #[], getM (post.map fun p => (p.1, AObj.gone))⟩ b := by
    rintro b ⟨o, x, h1, h2⟩
    have h1 : (loc' o).map (fun _ => Value.tuple #[]) = some x := h1
    cases hl : loc' o with
    | none => rw [hl] at h1; cases h1
    | some y => rw [hl] at h1; cases h1; cases h2
  have hok : ∀ t b, Ctx.ok ⟨io, w', loc', getM post⟩ t b → Ctx.ok ⟨io, w', fun o => (loc' o).map fun _ => Value.tuple #[], getM (post.map fun p => (p.1, AObj.gone))⟩ t b := fun t b h => ⟨h.1, h.2.1, hno b⟩
  refine ⟨v, fun o => (loc' o).map fun _ => Value.tuple #[], rfl, ⟨fun o obj h => ?_, fun o x h => ?_, fun o o' x y b h1 h2 h3 h4 => ?_, globOk.okx ⟨fun t b h => ⟨hok t b h, rfl⟩⟩ hwf'.glob⟩, ⟨fun t b h => ?_, fun o obj hv0 h1 h2 => ?_⟩, RelV.norefs ⟨fun t b h => ⟨hok t b h, rfl⟩⟩ _ _ hr hv, hev, fun o x b h1 h2 => ?_⟩
  · have h : getM (post.map fun p => (p.1, AObj.gone)) o = some obj := h
    rw [hg] at h
    cases hm : getM post o with
    | none => rw [hm] at h; cases h
    | some y =>
      rw [hm] at h; cases h
      obtain ⟨x, h1, _⟩ := hwf'.obj o y hm
      have h1 : loc' o = some x := h1
      exact ⟨.tuple #[], by show (loc' o).map _ = _; rw [h1]; rfl, rfl⟩
  · have h : (loc' o).map (fun _ => Value.tuple #[]) = some x := h
    cases hl : loc' o with
    | none => rw [hl] at h; cases h
    | some y =>
      obtain ⟨obj, ho⟩ := hwf'.dom o y hl
      have ho : getM post o = some obj := ho
      exact ⟨.gone, by show getM (post.map fun p => (p.1, AObj.gone)) o = _; rw [hg, ho]; rfl⟩
  · exact absurd ⟨o, x, h1, h3⟩ (hno b)
  · obtain ⟨h1, h2⟩ := hX.ok t b h
    exact ⟨hok t b h1, h2⟩
  · obtain ⟨obj', x, h3, h4, _⟩ := hX.refs o obj hv0 h1 h2
    have h3 : getM post o = some obj' := h3
    have h4 : loc' o = some x := h4
    exact ⟨.gone, .tuple #[], by show getM (post.map fun p => (p.1, AObj.gone)) o = _; rw [hg, h3]; rfl, by show (loc' o).map _ = _; rw [h4]; rfl, by cases obj <;> trivial⟩
  · exact absurd ⟨o, x, h1, h2⟩ (hno b)
where ih_aux : ∀ (l : List (Nat × AObj)) (o : Nat), getM (l.map fun p => (p.1, AObj.gone)) o = (getM l o).map fun _ => .gone
  | [], _ => rfl
  | (k, x) :: l, o => by
    simp only [List.map_cons, getM]
    split
    · rfl
    · exact ih_aux l o

mutual
/-- Every slice from without told as one of kind 0. -/
def tag0 : AV → AV
  | .sl _ sz xs => .sl 0 sz (Qbn xs)
  | .pp _ ls => .pp 0 (ZJ ls)
  | .agg ls => .agg (ZJ ls)
  | .tup ls => .tup (ZJ ls)
  | .fn f a b => .fn f (ZJ a) (ZJ b)
  | x => x
def ZJ : List AV → List AV
  | [] => []
  | x :: xs => tag0 x :: ZJ xs
def Qbn : List (List AV) → List (List AV)
  | [] => []
  | x :: xs => ZJ x :: Qbn xs
end
mutual
def QlF : AV → Bool
  | .sl t _ xs => t != 98 && QfU xs
  | .pp t ls => t != 98 && Qaf ls
  | .agg ls => Qaf ls
  | .tup ls => Qaf ls
  | .fn _ a b => Qaf a && Qaf b
  | _ => true
def Qaf : List AV → Bool
  | [] => true
  | x :: xs => QlF x && Qaf xs
def QfU : List (List AV) → Bool
  | [] => true
  | x :: xs => Qaf x && QfU xs
end
mutual
theorem QlG : ∀ x : AV, noref x = true → noref (tag0 x) = true
  | .agg ls, h => by simp only [noref] at h; simp only [tag0, noref]; exact Qcl ls h
  | .tup ls, h => by simp only [noref] at h; simp only [tag0, noref]; exact Qcl ls h
  | .fn f a b, h => by simp only [noref, Bool.and_eq_true] at h; simp only [tag0, noref, Bool.and_eq_true]; exact ⟨Qcl a h.1, Qcl b h.2⟩
  | .int .., _ => rfl
  | .bool .., _ => rfl
  | .str .., _ => rfl
  | .sl .., _ => by simp only [tag0, noref]
  | .pp .., _ => by simp only [tag0, noref]
  | .own .., h => by simp [noref] at h
  | .ptr .., h => by simp [noref] at h
  | .elt .., h => by simp [noref] at h
  | .junk, h => by simp [noref] at h
theorem Qcl : ∀ x : List AV, YT x = true → YT (ZJ x) = true
  | [], _ => rfl
  | x :: xs, h => by simp only [YT, Bool.and_eq_true] at h; simp only [ZJ, YT, QlG x h.1, Qcl xs h.2, Bool.and_self]
end
theorem QlH {x : AV} (h : Y8 x = true) : Y8 (tag0 x) = true := by
  cases x <;> first | (simp [Y8] at h; done) | (simp only [tag0]; rfl)
theorem Qde : ∀ {l : List AV}, flatOk l = true → flatOk (ZJ l) = true
  | [], _ => rfl
  | x :: xs, h => by
    simp only [flatOk, Bool.and_eq_true] at h
    simp only [ZJ, flatOk, QlH h.1.1, QlG x h.1.2, Qde h.2, Bool.and_self]
theorem Wb : ∀ xs : List (List AV), Qbn xs = xs.map ZJ
  | [] => rfl
  | x :: xs => by simp only [Qbn, List.map_cons, Wb xs]
/-- A context that takes all Y9 from without as of kind 0 too. -/
def io0 (io : Nat → Nat → Prop) (t b : Nat) : Prop := io t b ∨ (t = 0 ∧ ∃ s, s ≠ 98 ∧ io s b)
section
variable {io : Nat → Nat → Prop} {w : World} {loc : Nat → Option Value} {M : Nat → Option AObj}
theorem Qoq {t b : Nat} (h : Ctx.ok ⟨io, w, loc, M⟩ t b) : Ctx.ok ⟨io0 io, w, loc, M⟩ t b := ⟨.inl h.1, h.2⟩
theorem QrB {t b : Nat} (ht : t ≠ 98) (h : Ctx.ok ⟨io, w, loc, M⟩ t b) : Ctx.ok ⟨io0 io, w, loc, M⟩ 0 b := ⟨.inr ⟨rfl, t, ht, h.1⟩, h.2⟩
mutual
theorem RelV.tag0 : ∀ (x : AV) (v : Value), QlF x = true → RelV ⟨io, w, loc, M⟩ x v → RelV ⟨io0 io, w, loc, M⟩ (Go.Ve.tag0 x) v
  | .int .., v, _, hv => by simpa only [RelV, Go.Ve.tag0] using hv
  | .bool .., v, _, hv => by simpa only [RelV, Go.Ve.tag0] using hv
  | .str .., v, _, hv => by simpa only [RelV, Go.Ve.tag0] using hv
  | .agg ls, v, h, hv => by
    simp only [QlF] at h
    simp only [RelV, Go.Ve.tag0] at hv ⊢; obtain ⟨cs, rfl, h1⟩ := hv; exact ⟨cs, rfl, RelL.tag0 ls cs h h1⟩
  | .tup ls, v, h, hv => by
    simp only [QlF] at h
    simp only [RelV, Go.Ve.tag0] at hv ⊢; obtain ⟨cs, rfl, h1⟩ := hv; exact ⟨cs, rfl, RelL.tag0 ls cs h h1⟩
  | .sl t sz xs, v, h, hv => by
    simp only [QlF, Bool.and_eq_true, bne_iff_ne, ne_eq] at h
    simp only [RelV, Go.Ve.tag0] at hv ⊢
    obtain ⟨hn, hv⟩ := hv
    refine ⟨fun r hr => ?_, ?_⟩
    · rw [Wb] at hr
      obtain ⟨r0, h0, rfl⟩ := List.mem_map.1 hr
      exact Qde (hn r0 h0)
    · have hlen : (Qbn xs).length = xs.length := by rw [Wb, List.length_map]
      rcases hv with ⟨rfl, hv⟩ | ⟨b, off, cap, css, h1, h2, h3, h4, h5⟩
      · refine .inl ⟨rfl, ?_⟩
        rcases hv with hv | ⟨_, a, hv⟩
        · exact .inl hv
        · exact .inr ⟨by omega, a, hv⟩
      · exact .inr ⟨b, off, cap, css, by rw [hlen]; exact h1, by rw [hlen]; exact h2, QrB h.1 h3, RelLL.tag0 xs css h.2 h4, h5⟩
  | .own o ver lo hi, v, _, hv => by simpa only [RelV, Go.Ve.tag0] using hv
  | .ptr o off, v, _, hv => by simpa only [RelV, Go.Ve.tag0] using hv
  | .elt o ver i off, v, _, hv => by simpa only [RelV, Go.Ve.tag0] using hv
  | .pp t ls, v, h, hv => by
    simp only [QlF, Bool.and_eq_true, bne_iff_ne, ne_eq] at h
    simp only [RelV, Go.Ve.tag0] at hv ⊢
    obtain ⟨hn, b, off, cs, h1, h2, h3, h4⟩ := hv
    exact ⟨Qde hn, b, off, cs, h1, QrB h.1 h2, RelL.tag0 ls cs h.2 h3, h4⟩
  | .fn f a b, v, h, hv => by
    simp only [QlF, Bool.and_eq_true] at h
    simp only [RelV, Go.Ve.tag0] at hv ⊢
    obtain ⟨us, bs, h1, h2, h3⟩ := hv
    exact ⟨us, bs, h1, RelL.tag0 a us h.1 h2, RelL.tag0 b bs h.2 h3⟩
  | .junk, _, _, _ => by simp only [RelV, Go.Ve.tag0]
theorem RelL.tag0 : ∀ (x : List AV) (v : List Value), Qaf x = true → RelL ⟨io, w, loc, M⟩ x v → RelL ⟨io0 io, w, loc, M⟩ (ZJ x) v
  | [], v, _, hv => by simpa only [RelL, ZJ] using hv
  | x :: xs, v, h, hv => by
    simp only [Qaf, Bool.and_eq_true] at h
    simp only [RelL, ZJ] at hv ⊢
    obtain ⟨c, cs, rfl, h1, h2⟩ := hv
    exact ⟨c, cs, rfl, RelV.tag0 x c h.1 h1, RelL.tag0 xs cs h.2 h2⟩
theorem RelLL.tag0 : ∀ (x : List (List AV)) (v : List (List Value)), QfU x = true → RelLL ⟨io, w, loc, M⟩ x v → RelLL ⟨io0 io, w, loc, M⟩ (Qbn x) v
  | [], v, _, hv => by simpa only [RelLL, Qbn] using hv
  | x :: xs, v, h, hv => by
    simp only [QfU, Bool.and_eq_true] at h
    simp only [RelLL, Qbn] at hv ⊢
    obtain ⟨c, cs, rfl, h1, h2⟩ := hv
    exact ⟨c, cs, rfl, RelL.tag0 x c h.1 h1, RelLL.tag0 xs cs h.2 h2⟩
end
end
mutual
/-- Nothing from without in it. -/
def Qbo : AV → Bool
  | .sl t _ xs => t != 0 && xs.isEmpty
  | .pp .. | .fn .. => false
  | .agg ls => Qcm ls
  | .tup ls => Qcm ls
  | _ => true
def Qcm : List AV → Bool
  | [] => true
  | x :: xs => Qbo x && Qcm xs
end
def QjI : AObj → Bool
  | .box ls => Qcm ls
  | .arr _ _ _ xs => xs.all Qcm
  | .gone => true
  | .mp .. => false
section
variable {io io' : Nat → Nat → Prop} {w : World} {loc : Nat → Option Value} {M : Nat → Option AObj} (hio : ∀ t b, t ≠ 0 → io t b → io' t b)
include hio
mutual
theorem RelV.plain : ∀ (x : AV) (v : Value), Qbo x = true → RelV ⟨io, w, loc, M⟩ x v → RelV ⟨io', w, loc, M⟩ x v
  | .int .., v, _, hv => by simpa only [RelV] using hv
  | .bool .., v, _, hv => by simpa only [RelV] using hv
  | .str .., v, _, hv => by simpa only [RelV] using hv
  | .agg ls, v, h, hv => by
    simp only [Qbo] at h
    simp only [RelV] at hv ⊢; obtain ⟨cs, rfl, h1⟩ := hv; exact ⟨cs, rfl, RelL.plain ls cs h h1⟩
  | .tup ls, v, h, hv => by
    simp only [Qbo] at h
    simp only [RelV] at hv ⊢; obtain ⟨cs, rfl, h1⟩ := hv; exact ⟨cs, rfl, RelL.plain ls cs h h1⟩
  | .sl t sz xs, v, h, hv => by
    simp only [Qbo, Bool.and_eq_true, bne_iff_ne, ne_eq, List.isEmpty_iff] at h
    obtain ⟨ht, rfl⟩ := h
    simp only [RelV] at hv ⊢
    refine ⟨hv.1, hv.2.imp id ?_⟩
    rintro ⟨b, off, cap, css, h1, h2, h3, h4, h5⟩
    exact ⟨b, off, cap, css, h1, h2, ⟨hio t b ht h3.1, h3.2⟩, by simpa only [RelLL] using h4, h5⟩
  | .own o ver lo hi, v, _, hv => by simpa only [RelV] using hv
  | .ptr o off, v, _, hv => by simpa only [RelV] using hv
  | .elt o ver i off, v, _, hv => by simpa only [RelV] using hv
  | .pp t ls, v, h, hv => by simp [Qbo] at h
  | .fn f a b, v, h, hv => by simp [Qbo] at h
  | .junk, _, _, _ => by simp only [RelV]
theorem RelL.plain : ∀ (x : List AV) (v : List Value), Qcm x = true → RelL ⟨io, w, loc, M⟩ x v → RelL ⟨io', w, loc, M⟩ x v
  | [], v, _, hv => by simpa only [RelL] using hv
  | x :: xs, v, h, hv => by
    simp only [Qcm, Bool.and_eq_true] at h
    simp only [RelL] at hv ⊢
    obtain ⟨c, cs, rfl, h1, h2⟩ := hv
    exact ⟨c, cs, rfl, RelV.plain x c h.1 h1, RelL.plain xs cs h.2 h2⟩
end
theorem RelLL.plain : ∀ {x : List (List AV)} {v : List (List Value)}, x.all Qcm = true → RelLL ⟨io, w, loc, M⟩ x v → RelLL ⟨io', w, loc, M⟩ x v
  | [], v, _, hv => by simpa only [RelLL] using hv
  | x :: xs, v, h, hv => by
    simp only [List.all_cons, Bool.and_eq_true] at h
    simp only [RelLL] at hv ⊢
    obtain ⟨c, cs, rfl, h1, h2⟩ := hv
    exact ⟨c, cs, rfl, RelL.plain hio x c h.1 h1, RelLL.plain h.2 h2⟩
theorem objAt.plain {hv : Value} {obj : AObj} (hp : QjI obj = true) (h : objAt ⟨io, w, loc, M⟩ hv obj) : objAt ⟨io', w, loc, M⟩ hv obj := by
  cases obj with
  | box ls =>
    obtain ⟨b, cs, ty, rfl, h1, h2, h3⟩ := h
    exact ⟨b, cs, ty, rfl, h1, RelL.plain hio _ _ hp h2, h3⟩
  | arr e ver sz xs =>
    obtain ⟨css, h1, h2, h3, h4⟩ := h
    exact ⟨css, RelLL.plain hio hp h1, h2, h3, h4⟩
  | gone => exact h
  | mp kk es => cases hp
end
/-- A CONTRACT FOR ARGUMENTS OF KIND 0 holds for arguments of any kind, where nothing from without comes back. -/
theorem Contract.tag {P : Program} {f : FuncId} {args : List AV} {post : List (Nat × AObj)} {r : AV} (hC : Contract P f (ZJ args) [] r post) (h98 : Qaf args = true) (hr : Qbo r = true) (hp : (post.all fun p => QjI p.2) = true) :
    Contract P f args [] r post := by
  intro io w loc vs hio hwf hargs
  have hback : ∀ {t b w loc M}, t ≠ 0 → Ctx.ok ⟨io0 io, w, loc, M⟩ t b → Ctx.ok ⟨io, w, loc, M⟩ t b := fun ht h => ⟨h.1.elim id fun k => absurd k.1 ht, h.2⟩
  have hwf0 : WfM ⟨io0 io, w, loc, getM []⟩ := ⟨fun o obj h => by simp [getM] at h, hwf.dom, hwf.inj, globOk.okx ⟨fun t b h => ⟨Qoq h, rfl⟩⟩ hwf.glob⟩
  refine (hC (io0 io) w loc vs ⟨fun b hb => .inl (hio.1 b hb), fun b h => h.elim (hio.2 b) fun k => by omega⟩ hwf0 (RelL.tag0 args vs h98 hargs)).mono ?_
  rintro e w' ⟨v, loc', rfl, hwf', hX, hv, hev, hnew⟩
  have hno : ∀ {b}, ¬ Ctx.ownB ⟨io, w, loc, getM []⟩ b := by
    rintro b ⟨o, x, h1, h2⟩
    obtain ⟨obj, ho⟩ := hwf.dom o x h1
    simp [getM] at ho
  have hokb : ∀ t b, Ctx.ok ⟨io, w, loc, getM []⟩ t b → Ctx.ok ⟨io, w', loc', getM post⟩ t b ∧ w'.heap[b]? = w.heap[b]? := fun t b h => by
    obtain ⟨h1, h2⟩ := hX.ok t b (Qoq h)
    exact ⟨⟨h.1, h1.2⟩, h2⟩
  refine ⟨v, loc', rfl, ⟨fun o obj h => ?_, hwf'.dom, hwf'.inj, globOk.okx ⟨hokb⟩ hwf.glob⟩, ⟨hokb, fun o obj hv0 h1 h2 => by simp [getM] at h1⟩, RelV.plain (fun t b ht h => h.elim id fun k => absurd k.1 ht) _ _ hr hv, hev, hnew⟩
  obtain ⟨x, h1, h2⟩ := hwf'.obj o obj h
  refine ⟨x, h1, objAt.plain (fun t b ht h => h.elim id fun k => absurd k.1 ht) ?_ h2⟩
  rw [List.all_eq_true] at hp
  exact hp (o, obj) (Xa h)
end Go.Ve

namespace Go.Ve
set_option linter.unusedSimpArgs false
set_option linter.unusedVariables false
open Go.RowKit
end Go.Ve

namespace Go.Ve
set_option linter.unusedSimpArgs false
set_option linter.unusedVariables false
open Go.RowKit
/-! ## sets of objects that a walk carries along as one -/
def gone (l : List (Nat × AObj)) : List (Nat × AObj) := l.map fun p => (p.1, AObj.gone)
theorem Qna {l : List (Nat × AObj)} : dom (gone l) = dom l := by simp [dom, gone]
theorem Qnb {a b : List (Nat × AObj)} : gone (a ++ b) = gone a ++ gone b := by simp [gone]
theorem QhX {l : List (Nat × AObj)} {d : List Nat} : ((gone l).all fun p => Qb d p.2) = true := by
  rw [List.all_eq_true]
  intro p hp
  obtain ⟨q, _, rfl⟩ := List.mem_map.1 hp
  rfl
theorem Qau {l : List (Nat × AObj)} {o : Nat} : getM (gone l) o = (getM l o).map fun _ => .gone := by
  induction l with
  | nil => rfl
  | cons p l ih =>
    obtain ⟨k, x⟩ := p
    simp only [gone, List.map_cons, getM] at ih ⊢
    split
    · rfl
    · exact ih
theorem Qcn {s : Nat → Nat} {l : List (Nat × AObj)} : ZB s (gone l) = gone (ZB s l) := by
  induction l with
  | nil => rfl
  | cons p l ih => obtain ⟨k, x⟩ := p; simp only [gone, List.map_cons, ZB, renO] at ih ⊢; rw [ih]
theorem Qnc {l : List (Nat × AObj)} {p : Nat × AObj} (h : p ∈ gone l) : ∃ x, (p.1, x) ∈ l := by
  obtain ⟨q, hq, rfl⟩ := List.mem_map.1 h
  exact ⟨q.2, hq⟩
theorem UT {P : Program} {f : FuncId} {args : List AV} {pre : List (Nat × AObj)} {r : AV} {M : Nat → Option AObj} (hC : Contract P f args pre r (gone pre)) (hM : ∀ p ∈ pre, M p.1 = some p.2) (ha : Qo (dom pre) args = true) (hp : (pre.all fun p => Qb (dom pre) p.2) = true) (hr : noref r = true) :
    Qb7 P f args M r (gone pre) := by
  refine .inl ⟨pre, hC, hM, fun p hp => .inl ?_, ?_, ha, hp, QeM _ _ hr, QhX⟩
  · obtain ⟨x, hx⟩ := Qnc hp
    simpa using Qdc hx
  · rw [Qna, List.all_eq_true]
    intro o ho; simpa using ho
/-- Each number once. -/
def uniq (U : List (Nat × AObj)) : Prop := U.Pairwise fun a b => a.1 ≠ b.1
theorem Contract.post_eq {P : Program} {f : FuncId} {args : List AV} {pre post post' : List (Nat × AObj)} {r : AV} (h : Contract P f args pre r post) (e : getM post' = getM post) : Contract P f args pre r post' := by
  unfold Contract at h ⊢
  rw [e]; exact h
/-! ## values that are told -/
theorem QhY (K : Nat → Option AObj) : ∀ {r : List AV}, flatOk r = true → QmX K r = some r
  | [], _ => rfl
  | x :: xs, h => by
    simp only [flatOk, Bool.and_eq_true] at h
    have ih := QhY K h.2
    cases x <;> first | (simp [noref] at h; done) | (simp only [QmX, ih]; rw [if_pos]; simp only [h.1.1, h.1.2, Bool.and_self])
theorem Qdf (K : Nat → Option AObj) : ∀ {rs : List (List AV)}, (∀ r ∈ rs, flatOk r = true) → QdN K rs = some rs
  | [], _ => rfl
  | r :: rs, h => by
    have ih := Qdf K (rs := rs) fun x hx => h x (by simp [hx])
    simp only [QdN, QhY K (h r (by simp)), ih]
def NRow.ys (r : NRow) : List (List AV) := match r.ob with | .arr _ _ _ ys => ys | _ => []
theorem QfV (K : Nat → Option AObj) (sz : Nat) : ∀ {l : List NRow}, (∀ r ∈ l, ∃ e ys, e < 1000000 ∧ r.ob = .arr e 0 sz ys ∧ K r.o = some r.ob ∧ r.n = ys.length) → QdN K (l.map NRow.row) = some (l.map fun r => [.str r.nm, .sl 99 sz r.ys])
  | [], _ => rfl
  | r :: l, h => by
    obtain ⟨e, ys, he, h1, h2, h3⟩ := h r (by simp)
    have ih := QfV K sz (l := l) fun x hx => h x (by simp [hx])
    rw [h1] at h2
    simp only [List.map_cons, QdN, ih, NRow.row, QmX, h2, he, if_true, Y8, noref, Bool.and_self, NRow.ys, h1, h3, List.take_length, List.drop_zero]
theorem QfW (K : Nat → Option AObj) {k e sz : Nat} (he : e < 1000000) {x : List (ByteArray × List (List AV))} (h : ∀ p ∈ KD (G5 k e sz x), K p.1 = some p.2) : QdN K ((G5 k e sz x).map NRow.row) = some (x.map fun y => [.str y.1, .sl 99 sz y.2]) := by
  rw [QfV K sz fun r hr => ?_]
  · congr 1
    refine List.ext_getElem (by simp [G5]) fun i h1 h2 => ?_
    simp [G5, NRow.ys]
  · have hk := h (r.o, r.ob) (List.mem_map.2 ⟨r, hr, rfl⟩)
    simp only [G5, List.mem_mapIdx] at hr
    obtain ⟨i, hi, rfl⟩ := hr
    exact ⟨e, _, he, rfl, hk, rfl⟩
theorem QjJ {α : Type} {f : Nat → α → List AV} {t : Nat} (h : ∀ x, ZJ (f t x) = f 0 x) (l : List α) : Qbn (l.map (f t)) = l.map (f 0) := by
  rw [Wb, List.map_map]; exact List.map_congr_left fun x _ => h x
theorem Qd9 {α : Type} {f : α → List AV} (h : ∀ x, ZJ (f x) = f x) (l : List α) : Qbn (l.map f) = l.map f := by
  rw [Wb, List.map_map]; exact List.map_congr_left fun x _ => h x
theorem Wc {α : Type} {f : α → List AV} (h : ∀ x, Qaf (f x) = true) (l : List α) : QfU (l.map f) = true := by
  induction l with
  | nil => rfl
  | cons x l ih => simp only [List.map_cons, QfU, h x, ih, Bool.and_self]
end Go.Ve

namespace Go.Ve
set_option linter.unusedSimpArgs false
set_option linter.unusedVariables false
open Go.RowKit

/-! ## rows with own slices inside, of any Qfv: a leaf '.sl v sz xs' of a told row stands for an own slice of version v -/
def QqB : AV → Bool
  | .int .. | .bool .. | .str .. => true
  | _ => false
def simpleV : AV → Bool
  | .int .. | .bool .. | .str .. => true
  | .sl _ _ xs => xs.all fun r => r.all QqB
  | _ => false
structure RowOk {α : Type} (n : Nat) (f : α → List AV) : Prop where
  len : ∀ x, (f x).length = n
  sim : ∀ x, (f x).all simpleV = true
section
variable {α : Type}
variable {f : α → List AV} {es : Nat → Nat} {k n i0 : Nat} {a : List α}

/-! references -/
/-! other numbers -/
/-! told -/
/-! reads in a walk -/
/-! stores in a walk: a row set to another one of the same numbers -/
/-! rows that are put into rows of zeros -/
/-! rows of one Qfv; marks -/
end
end Go.Ve

namespace Go.Ve
set_option linter.unusedSimpArgs false
set_option linter.unusedVariables false
open Go.RowKit
/-! ## nil slices of a contract's rows, told as own empty slices -/
/-! calls that change the objects of a set in Qep -/
theorem QlI {l : List (Nat × AObj)} : dom l.reverse = (dom l).reverse := by simp [dom]
end Go.Ve

namespace Go.Ve
set_option linter.unusedSimpArgs false
set_option linter.unusedVariables false
open Go.RowKit
section
variable {α : Type} {f : α → List AV} {es : Nat → Nat} {k n i0 : Nat} {a : List α}
/-! other numbers, of the rows that are there -/
end
end Go.Ve

