/- Part 1 of the proof: laws and contracts of functions, each proved; they are joined in the last part. No conditions beyond those that the theorems state. -/
import Derived.Test.YtagikldfacbonaaDoorSw0
set_option linter.all false
namespace Go.Ve
set_option linter.unusedSimpArgs false
set_option linter.unusedVariables false
open Go.RowKit

structure SOper where
  dst : Option Nat
  op : SOp
  g : Option (Nat × Bool) := none
  k : List Nat := []
  deriving Inhabited

structure St where
  E : List (Nat × AV)
  M : List (Nat × AObj)

def St.put (st : St) (dst : Option Nat) (v : AV) (ups : List (Nat × AObj)) : St :=
  ⟨match dst with | some d => Qhb st.E d v | none => st.E, YU st.M ups⟩

def ZV (e : Eff) (K : AV → List (Nat × AObj) → Prop) : Prop := e.pre ∧ K e.v e.ups
/-- What a call of many outcomes may give. -/
structure Outs where
  {α : Type}
  p : Prop
  good : α → Prop
  res : α → AV
  ups : α → List (Nat × AObj)
abbrev RTab := List AV → (Nat → Option AObj) → Option Outs
abbrev okTab (P : Program) (f : FuncId) (t : RTab) : Prop := ∀ args M o, t args M = some o → o.p → ∃ a, o.good a ∧ Qb7 P f args M (o.res a) (o.ups a)
/-- What is known of callees: of those that only look, from the arguments to what is asked and what comes back; of others, from the arguments and the objects. -/
structure Env (P : Program) where
  T : FuncId → List AV → Option (Prop × AV)
  ok : ∀ f args p v, T f args = some (p, v) → p → Contract P f args [] v [] ∧ noref v = true ∧ No99 v
  R : FuncId → RTab
  okR : ∀ f, okTab P f (R f)
def Env.nil (P : Program) : Env P := ⟨fun _ _ => none, (fun _ _ _ _ h => by cases h), fun _ _ _ => none, (fun _ _ _ _ h => by cases h)⟩
def Env.add {P : Program} (X : Env P) (f : FuncId) (t : List AV → Option (Prop × AV)) (h : ∀ args p v, t args = some (p, v) → p → Contract P f args [] v [] ∧ noref v = true ∧ No99 v) : Env P :=
  ⟨fun g args => if g = f then t args else X.T g args, (fun g args p v h1 h2 => by
    by_cases e : g = f
    · subst e; simp only [if_true] at h1; exact h args p v h1 h2
    · simp only [if_neg e] at h1; exact X.ok g args p v h1 h2), X.R, X.okR⟩
def Env.addR {P : Program} (X : Env P) (f : FuncId) (t : RTab) (h : okTab P f t) : Env P :=
  ⟨X.T, X.ok, fun g args M => if g = f then t args M else X.R g args M, fun g args M o h1 h2 => by
    by_cases e : g = f
    · subst e; simp only [if_true] at h1; exact h args M o h1 h2
    · simp only [if_neg e] at h1; exact X.okR g args M o h1 h2⟩
def QoL {P : Program} (f : FuncId) (args : List AV) (M : Nat → Option AObj) (K : AV → List (Nat × AObj) → Prop) : Prop := ∃ v ups, Qb7 P f args M v ups ∧ K v ups
def QoM (P : Program) (f : FuncId) (args : List AV) (M : Nat → Option AObj) (K : AV → List (Nat × AObj) → Prop) : Option (Prop × AV) → Prop
  | some (p, v) => p ∧ K v []
  | none => QoL (P := P) f args M K
def QiM (P : Program) (X : Env P) (f : FuncId) (args : List AV) (M : Nat → Option AObj) (K : AV → List (Nat × AObj) → Prop) : Option (List AV) → Prop
  | some l => QoM P f args M K (X.T f l)
  | none => QoL (P := P) f args M K
def Qlb (P : Program) (X : Env P) (f : FuncId) (args : List AV) (M : Nat → Option AObj) (K : AV → List (Nat × AObj) → Prop) : Option Outs → Prop
  | some o => o.p ∧ ∀ a, o.good a → K (o.res a) (o.ups a)
  | none => QiM P X f args M K (Y7 M args)
def Qdx {P : Program} (X : Env P) (f : FuncId) (args : List AV) (M : Nat → Option AObj) (K : AV → List (Nat × AObj) → Prop) : Prop := Qlb P X f args M K (X.R f args M)
theorem Qa3 {P : Program} {X : Env P} {f : FuncId} {args : List AV} {M : Nat → Option AObj} {K : AV → List (Nat × AObj) → Prop} (h : Qdx X f args M K) : ∃ v ups, Qb7 P f args M v ups ∧ K v ups := by
  unfold Qdx at h
  cases hR : X.R f args M with
  | some o =>
    rw [hR] at h
    obtain ⟨h1, h2⟩ := h
    obtain ⟨a, h3, h4⟩ := X.okR f args M o hR h1
    exact ⟨_, _, h4, h2 a h3⟩
  | none =>
  rw [hR] at h
  simp only [Qlb] at h
  cases hp : Y7 M args with
  | none => rw [hp] at h; exact h
  | some l =>
    rw [hp] at h
    simp only [QiM] at h
    cases hT : X.T f l with
    | none => rw [hT] at h; exact h
    | some pv =>
      obtain ⟨p, v⟩ := pv
      rw [hT] at h
      obtain ⟨h1, h2⟩ := h
      obtain ⟨h3, h4, h5⟩ := X.ok f l p v hT h1
      exact ⟨v, [], .inr (.inl ⟨rfl, l, hp, h3, h4, h5⟩), h2⟩
def Qdb (P : Program) (f : FuncId) : Bool := match P.funcs[f]? with | some fn => fn.body.isSome && fn.name != "runtime.NumGoroutine" | none => false
def QbA {P : Program} (X : Env P) (g : AV) (args : List AV) (M : Nat → Option AObj) (K : AV → List (Nat × AObj) → Prop) : Prop :=
  match g with
  | .fn f a b => Qdb P f = true ∧ Qdx X f (a ++ (args ++ b)) M K
  | _ => False
def XR {P : Program} (X : Env P) (s : SOp) (st : St) (K : AV → List (Nat × AObj) → Prop) : Prop :=
  match s with
  | .call f args => Qdx X f (args.map (ev (getE st.E))) (getM st.M) K
  | .callV x args => QbA X (ev (getE st.E) x) (args.map (ev (getE st.E))) (getM st.M) K
  | s => ZV (eff s (getE st.E) (getM st.M)) K

/-- A slot that nothing reads any more. -/
def Qb8 (d : Nat) : List (Nat × AV) → List (Nat × AV)
  | [] => []
  | (k, v) :: r => if d = k then Qb8 d r else (k, v) :: Qb8 d r
theorem Qkk (d : Nat) (E : List (Nat × AV)) (k : Nat) : getE (Qb8 d E) k = if k = d then .junk else getE E k := by
  induction E with
  | nil => simp [Qb8, getE]
  | cons h t ih =>
    obtain ⟨j, x⟩ := h
    by_cases e : d = j
    · subst e; by_cases e2 : k = d <;> simp [Qb8, getE, e2, ih] <;> (subst e2; rw [ih]; simp)
    · by_cases e2 : k = j
      · subst e2; simp [Qb8, getE, e, Ne.symm e]
      · simp [Qb8, getE, e, e2, ih]
def Qan (l : List Nat) (st : St) : St := l.foldl (fun st d => ⟨Qb8 d st.E, st.M⟩) st
theorem Qkl (l : List Nat) (st : St) (k : Nat) : getE (Qan l st).E k = .junk ∨ getE (Qan l st).E k = getE st.E k := by
  unfold Qan
  induction l generalizing st with
  | nil => exact .inr rfl
  | cons d l ih =>
    simp only [List.foldl_cons]
    rcases ih ⟨Qb8 d st.E, st.M⟩ with h | h
    · exact .inl h
    · rw [h, Qkk]
      split
      · exact .inl rfl
      · exact .inr rfl
theorem QiN (l : List Nat) (st : St) : (Qan l st).M = st.M := by
  unfold Qan
  induction l generalizing st with
  | nil => rfl
  | cons d l ih => simp only [List.foldl_cons]; exact ih _
/-- What follows, behind one operation. -/
def QmZ (dst : Option Nat) (ks : List Nat) (st : St) (K : St → Prop) (v : AV) (ups : List (Nat × AObj)) : Prop := K (Qan ks (st.put dst v ups))
/-- A Boolean's slot, told by a letter. -/
def St.lit (st : St) (t : Nat) (b : Bool) : St := ⟨Qhb st.E t (.bool b), st.M⟩

def Qb9 {P : Program} (X : Env P) : List SOper → (St → Prop) → St → Prop
  | [], K, st => K st
  | s :: rest, K, st =>
    match s.g with
    | none => XR X s.op st (QmZ s.dst s.k st (Qb9 X rest K))
    | some (t, want) =>
      match getE st.E t with
      | .bool b => (b = want → XR X s.op (st.lit t want) (QmZ s.dst s.k (st.lit t want) (Qb9 X rest K))) ∧ (b = !want → Qb9 X rest K (Qan s.k ((st.lit t (!want)).put s.dst (.tup []) [])))
      | .tup [] => Qb9 X rest K (Qan s.k (st.put s.dst (.tup []) []))
      | _ => False

def Qao (P : Program) (o : Oper) (f : FuncId) (args : List SX) : Bool :=
  match o.op with
  | .call c => (match c.callee with | .value (.func g) => f == g | _ => false) && okXl c.args.toList args && (match P.funcs[f]? with | some fn => fn.body.isSome && fn.name != "runtime.NumGoroutine" | none => false)
  | _ => false
where okXl : List Operand → List SX → Bool
  | [], [] => true
  | x :: xs, y :: ys => okX x y && okXl xs ys
  | _, _ => false

def Qlc (o : Oper) (x : SX) (args : List SX) : Bool :=
  match o.op with
  | .call c => (match c.callee with | .value g => okX g x | _ => false) && Qao.okXl c.args.toList args
  | _ => false

def okOper (P : Program) (n : Nat) (ops : Array Oper) (o : Oper) (s : SOper) : Bool :=
  (match o.dst, s.dst with | none, none => true | some d, some d' => d == d' && decide (d < n) | _, _ => false) &&
  (match s.op with | .call f args => Qao P o f args | .callV x args => Qlc o x args | op => Qri P o op) &&
  (match o.guard, s.g with
    | none, none => true
    | some (j, want), some (t, want') => want == want' && (match (ops[j]?).bind (·.dst) with | some t' => t == t' && decide (t < n) | none => false)
    | _, _ => false)

structure Rel (A : A0) (C0 : Ctx) (st : St) (a : Act) (w : World) : Prop where
  ex : ∃ loc, Inv A ⟨C0.io, w, loc, getM st.M⟩ ∧ Ext C0 ⟨C0.io, w, loc, getM st.M⟩ ∧ ∀ k, RelV ⟨C0.io, w, loc, getM st.M⟩ (getE st.E k) (a.tmps.getD k undef)
  size : a.tmps.size = A.n
  defers : a.defers = []

section
variable {P : Program} {X : Env P} {A : A0} {C0 : Ctx}

theorem QoN {C : Ctx} {E : List (Nat × AV)} {a : Act} {n : Nat} (hn : a.tmps.size = n) (hE : ∀ k, RelV C (getE E k) (a.tmps.getD k undef)) {d : Nat} (hd : d < n) {x : AV} {v : Value} (hx : RelV C x v) :
    ∀ k, RelV C (getE (Qhb E d x) k) ((a.put (some d) v).tmps.getD k undef) := by
  intro k
  rw [UW]
  simp only [Act.put]
  by_cases e : k = d
  · subst e
    simp only [if_true]
    have : (a.tmps.setIfInBounds k v).getD k undef = v := by simp [hn, hd]
    rw [this]; exact hx
  · simp only [if_neg e]
    have : (a.tmps.setIfInBounds d v).getD k undef = a.tmps.getD k undef := by
      simp [Array.getElem?_setIfInBounds_ne (Ne.symm e)]
    rw [this]; exact hE k

theorem QbB {st : St} {a : Act} {w w' : World} {loc loc' : Nat → Option Value} {n : Nat} (hsz : a.tmps.size = A.n) (hdf : a.defers = []) {dst dst' : Option Nat}
    (hd : (match dst, dst' with | none, none => true | some d, some d' => d == d' && decide (d < A.n) | _, _ => false) = true) {v : Value} {x : AV} {ups : List (Nat × AObj)}
    (hE : ∀ k, RelV ⟨C0.io, w, loc, getM st.M⟩ (getE st.E k) (a.tmps.getD k undef)) (hI : Inv A ⟨C0.io, w', loc', getM (YU st.M ups)⟩) (h0 : Ext C0 ⟨C0.io, w, loc, getM st.M⟩)
    (hX : Ext ⟨C0.io, w, loc, getM st.M⟩ ⟨C0.io, w', loc', getM (YU st.M ups)⟩) (hv : RelV ⟨C0.io, w', loc', getM (YU st.M ups)⟩ x v) : Rel A C0 (st.put dst' x ups) (a.put dst v) w' := by
  cases dst with
  | none =>
    cases dst' with
    | none => exact ⟨⟨loc', hI, h0.trans hX, fun k => (hE k).mono hX⟩, hsz, hdf⟩
    | some d => cases hd
  | some d =>
    cases dst' with
    | none => cases hd
    | some d' =>
      simp only [Bool.and_eq_true, beq_iff_eq, decide_eq_true_eq] at hd
      obtain ⟨rfl, hd⟩ := hd
      exact ⟨⟨loc', hI, h0.trans hX, QoN hsz (fun k => (hE k).mono hX) hd hv⟩, by simpa [Act.put] using hsz, hdf⟩

theorem QfP {st : St} {a : Act} {w : World} {ops : Array Oper} {o : Oper} {s : SOper} (hok : okOper P A.n ops o s = true) (hR : Rel A C0 st a w) {K : AV → List (Nat × AObj) → Prop} (hK : XR X s.op st K) (Q : Exit → Act → World → Prop) :
    o.wp P a w (fun a' w' => ∃ v ups, K v ups ∧ Rel A C0 (st.put s.dst v ups) a' w') Q := by
  simp only [okOper, Bool.and_eq_true] at hok
  obtain ⟨⟨hd, hop⟩, _⟩ := hok
  obtain ⟨⟨loc, hI, h0, hE⟩, hsz, hdf⟩ := hR
  unfold Oper.wp
  have plain : ∀ {sp : SOp}, Qri P o sp = true → (eff sp (getE st.E) (getM st.M)).pre → K (eff sp (getE st.E) (getM st.M)).v (eff sp (getE st.E) (getM st.M)).ups →
      Oper.upon P o a (fun a' w' => ∃ v ups, K v ups ∧ Rel A C0 (st.put s.dst v ups) a' w') Q ((execOp a.eval o).run P w) := by
    intro sp h1 h2 h3
    obtain ⟨v, w', loc', hr, hI', hX, hv⟩ := QmW hI hE h1 h2
    rcases hr with hr | ⟨hr, rfl⟩
    · rw [hr]; exact ⟨_, _, h3, QbB (n := A.n) hsz hdf hd hE hI' h0 hX hv⟩
    · rw [hr]; exact ⟨_, _, h3, QbB (n := A.n) hsz hdf hd hE hI' h0 hX hv⟩
  unfold XR at hK
  split at hK
  · rename_i f args hs
    rw [hs] at hop
    simp only [Qao] at hop
    split at hop
    · rename_i c ho
      simp only [Bool.and_eq_true] at hop
      obtain ⟨⟨h1, h2⟩, h3⟩ := hop
      split at h1
      · rename_i g hc
        simp only [beq_iff_eq] at h1
        subst h1
        obtain ⟨v, ups, hcall, hk⟩ := Qa3 hK
        have hargs : ∀ (xs : List Operand) (ys : List SX), Qao.okXl xs ys = true → RelL ⟨C0.io, w, loc, getM st.M⟩ (ys.map (ev (getE st.E))) (xs.map a.eval) := by
          intro xs
          induction xs with
          | nil => intro ys h; cases ys with
            | nil => simp [RelL]
            | cons _ _ => simp [Qao.okXl] at h
          | cons x xs ih => intro ys h; cases ys with
            | nil => simp [Qao.okXl] at h
            | cons y ys =>
              simp only [Qao.okXl, Bool.and_eq_true] at h
              exact RelL.cons (KG hI.wf.glob hE h.1) (ih ys h.2)
        have hcs := QfO hI (hargs c.args.toList args h2) hcall
        have hex : (execOp a.eval o).run P w = .ok (.enter f (c.args.map a.eval)) w := by
          split at h3
          · rename_i fn hfn
            simp only [Bool.and_eq_true, bne_iff_ne, ne_eq] at h3
            obtain ⟨bd, hb⟩ := Option.isSome_iff_exists.1 h3.1
            unfold execOp
            simp only [ho, resolve, hc, Sem.run_bind, Sem.run_pure, Result.andThen_ok, invoke, Act.eval, Deferred.ofValue]
            simp [callFunc, hfn, h3.2, hb]
          · cases h3
        rw [hex]
        have ht : (c.args.toList.map a.eval).toArray = c.args.map a.eval := Array.toList_inj.1 (by rw [Array.toList_map])
        rw [ht] at hcs
        show Calls P f (c.args.map a.eval) w _
        refine hcs.mono ?_
        rintro e w' ⟨rv, loc', rfl, hI', hX, hv⟩
        exact ⟨v, ups, hk, QbB (n := A.n) hsz hdf hd hE hI' h0 hX hv⟩
      · cases h1
    · cases hop
  · rename_i x args hs
    rw [hs] at hop
    simp only [Qlc] at hop
    split at hop
    · rename_i c ho
      simp only [Bool.and_eq_true] at hop
      obtain ⟨h1, h2⟩ := hop
      split at h1
      · rename_i g hc
        have hg := KG hI.wf.glob hE h1
        unfold QbA at hK
        split at hK
        · rename_i f fa fb hfv
          obtain ⟨h3, hK⟩ := hK
          rw [hfv] at hg
          simp only [RelV] at hg
          obtain ⟨va, vb, hgv, hra, hrb⟩ := hg
          obtain ⟨v, ups, hcall, hk⟩ := Qa3 hK
          have hargs : ∀ (xs : List Operand) (ys : List SX), Qao.okXl xs ys = true → RelL ⟨C0.io, w, loc, getM st.M⟩ (ys.map (ev (getE st.E))) (xs.map a.eval) := by
            intro xs
            induction xs with
            | nil => intro ys h; cases ys with
              | nil => simp [RelL]
              | cons _ _ => simp [Qao.okXl] at h
            | cons x xs ih => intro ys h; cases ys with
              | nil => simp [Qao.okXl] at h
              | cons y ys =>
                simp only [Qao.okXl, Bool.and_eq_true] at h
                exact RelL.cons (KG hI.wf.glob hE h.1) (ih ys h.2)
          have hcs := QfO hI (hra.append ((hargs c.args.toList args h2).append hrb)) hcall
          have ht : (va ++ (c.args.toList.map a.eval ++ vb)).toArray = va.toArray ++ c.args.map a.eval ++ vb.toArray := Array.toList_inj.1 (by simp)
          have hex : (execOp a.eval o).run P w = .ok (.enter f (va.toArray ++ c.args.map a.eval ++ vb.toArray)) w := by
            unfold Qdb at h3
            split at h3
            · rename_i fn hfn
              simp only [Bool.and_eq_true, bne_iff_ne, ne_eq] at h3
              obtain ⟨bd, hb⟩ := Option.isSome_iff_exists.1 h3.1
              unfold execOp
              simp only [ho, resolve, hc, Sem.run_bind, Sem.run_pure, Result.andThen_ok, invoke, hgv, Deferred.ofValue]
              simp [callFunc, hfn, h3.2, hb]
            · cases h3
          rw [hex]
          rw [ht] at hcs
          show Calls P f (va.toArray ++ c.args.map a.eval ++ vb.toArray) w _
          refine hcs.mono ?_
          rintro e w' ⟨rv, loc', rfl, hI', hX, hv⟩
          exact ⟨v, ups, hk, QbB (n := A.n) hsz hdf hd hE hI' h0 hX hv⟩
        · exact hK.elim
      · cases h1
    · cases hop
  · rename_i hs hs2
    obtain ⟨hK1, hK2⟩ := hK
    refine plain (sp := s.op) ?_ hK1 hK2
    revert hop
    cases hso : s.op <;> intro hop <;> first | exact hop | exact (hs _ _ hso).elim | exact (hs2 _ _ hso).elim

theorem Rel.lit {st : St} {a : Act} {w : World} (h : Rel A C0 st a w) {t : Nat} {b : Bool} (hb : getE st.E t = .bool b) : Rel A C0 (st.lit t b) a w := by
  obtain ⟨⟨loc, h1, h2, h3⟩, h4, h5⟩ := h
  refine ⟨⟨loc, h1, h2, fun k => ?_⟩, h4, h5⟩
  simp only [St.lit, UW]
  split
  · rename_i e; subst e; rw [← hb]; exact h3 k
  · exact h3 k

theorem Rel.drop {st : St} {a : Act} {w : World} (h : Rel A C0 st a w) (ks : List Nat) : Rel A C0 (Qan ks st) a w := by
  obtain ⟨⟨loc, h1, h2, h3⟩, h4, h5⟩ := h
  refine ⟨⟨loc, by rw [QiN]; exact h1, by rw [QiN]; exact h2, fun k => ?_⟩, h4, h5⟩
  rw [QiN]
  rcases Qkl ks st k with h | h
  · rw [h]; simp [RelV]
  · rw [h]; exact h3 k
theorem Qey {C : Ctx} : RelV C (.tup []) undef := by simp only [RelV, RelL]; exact ⟨[], rfl, rfl⟩
theorem Qez {C : Ctx} {st : St} {a : Act} {ops : Array Oper} (hsz : a.tmps.size = A.n) (hE : ∀ k, RelV C (getE st.E k) (a.tmps.getD k undef)) {j t : Nat} (hj : (ops[j]?).bind (·.dst) = some t) (ht : t < A.n) {b : Bool} (hb : getE st.E t = .bool b) : yielded ops a.tmps j = some b := by
  have := hE t
  rw [hb] at this
  simp only [RelV] at this
  have h2 : a.tmps[t]? = some (.bool b) := by
    have hlt : t < a.tmps.size := by omega
    simp [hlt] at this ⊢
    exact this
  unfold yielded
  rw [hj]
  simp [h2]

theorem Qca {C : Ctx} {st : St} {a : Act} {ops : Array Oper} (hsz : a.tmps.size = A.n) (hE : ∀ k, RelV C (getE st.E k) (a.tmps.getD k undef)) {j t : Nat} (hj : (ops[j]?).bind (·.dst) = some t) (ht : t < A.n) (hb : getE st.E t = .tup []) : yielded ops a.tmps j = none := by
  have := hE t
  rw [hb] at this
  simp only [RelV, RelL] at this
  obtain ⟨cs, h1, rfl⟩ := this
  have h2 : a.tmps[t]? = some (.tuple #[]) := by
    have hlt : t < a.tmps.size := by omega
    simp [hlt] at h1 ⊢
    exact h1
  unfold yielded
  rw [hj]
  simp [h2]

/-- One operation of a region, in its Qep. -/
theorem Qld {st : St} {a : Act} {w : World} {ops : Array Oper} {i : Nat} {o : Oper} {s : SOper} (ho : ops[i]? = some o) (hok : okOper P A.n ops o s = true) (hR : Rel A C0 st a w) {rest : List SOper} {K : St → Prop} (hK : Qb9 X (s :: rest) K st) {Q : Exit → Act → World → Prop} {l : List Nat}
    (hl : ∀ st' a' w', Rel A C0 st' a' w' → Qb9 X rest K st' → wpOps P ops Q l a' w') : wpOps P ops Q (i :: l) a w := by
  have hok' := hok
  simp only [okOper, Bool.and_eq_true] at hok'
  obtain ⟨⟨hd, _⟩, hg⟩ := hok'
  have run : ∀ {st : St}, Rel A C0 st a w → XR X s.op st (QmZ s.dst s.k st (Qb9 X rest K)) → o.wp P a w (wpOps P ops Q l) Q := by
    intro st hR h
    refine Oper.wp_mono ?_ (QfP hok hR h Q)
    rintro a' w' ⟨v, ups, h1, h2⟩
    exact hl _ a' w' (h2.drop s.k) h1
  simp only [wpOps, ho]
  simp only [Qb9] at hK
  split at hK
  · rename_i hsg
    rw [hsg] at hg
    split at hg
    · rename_i hog _
      have : Region.wanted o (yielded ops a.tmps) = true := by simp [Region.wanted, hog]
      rw [if_pos this]
      exact .inl (run hR hK)
    · rename_i h; cases h
    · cases hg
  · rename_i t want hsg
    rw [hsg] at hg
    split at hg
    · rename_i h; cases h
    · rename_i j want' t' want'' hog h
      cases h
      simp only [Bool.and_eq_true, beq_iff_eq] at hg
      obtain ⟨rfl, hg⟩ := hg
      split at hg
      · rename_i t2 hj
        simp only [Bool.and_eq_true, beq_iff_eq, decide_eq_true_eq] at hg
        obtain ⟨rfl, ht⟩ := hg
        split at hK
        · rename_i b hb
          obtain ⟨loc, hI, h0, hE⟩ := hR.ex
          have hy := Qez hR.size hE hj ht hb
          by_cases hbw : b = want'
          · have : Region.wanted o (yielded ops a.tmps) = true := by simp [Region.wanted, hog, hy, hbw]
            rw [if_pos this]
            exact .inl (run (hR.lit (hbw ▸ hb)) (hK.1 hbw))
          · have : Region.wanted o (yielded ops a.tmps) = false := by simp [Region.wanted, hog, hy, hbw]
            simp only [this]
            have hbn : b = !want' := by cases b <;> cases want' <;> simp_all
            have hR' := hR.lit (t := t) (b := !want') (hbn ▸ hb)
            obtain ⟨loc, hI, h0, hE⟩ := hR'.ex
            refine hl _ _ w (Rel.drop ?_ s.k) (hK.2 hbn)
            exact QbB (n := A.n) hR'.size hR'.defers hd hE hI h0 (Ext.refl _) Qey
        · rename_i hb
          obtain ⟨loc, hI, h0, hE⟩ := hR.ex
          have hy := Qca hR.size hE hj ht hb
          have : Region.wanted o (yielded ops a.tmps) = false := by simp [Region.wanted, hog, hy]
          simp only [this]
          refine hl _ _ w (Rel.drop ?_ s.k) hK
          exact QbB (n := A.n) hR.size hR.defers hd hE hI h0 (Ext.refl _) Qey
        · exact hK.elim
      · cases hg
    · cases hg

def QeA (P : Program) (n : Nat) (ops : Array Oper) : List Oper → List SOper → Bool
  | [], [] => true
  | o :: os, s :: ss => okOper P n ops o s && QeA P n ops os ss
  | _, _ => false

theorem Qhv {ops : Array Oper} {Q : Exit → Act → World → Prop} {K : St → Prop} (hQ : ∀ st a w, Rel A C0 st a w → K st → Q .normal a w) :
    ∀ (os : List Oper) (ss : List SOper) (k : Nat) (st : St) (a : Act) (w : World), QeA P A.n ops os ss = true → ops.toList.drop k = os → Rel A C0 st a w → Qb9 X ss K st → wpOps P ops Q (List.range' k os.length) a w
  | [], [], k, st, a, w, _, _, hR, hK => by simpa [wpOps] using hQ st a w hR hK
  | [], _ :: _, k, st, a, w, h, _, _, _ => by simp [QeA] at h
  | _ :: _, [], k, st, a, w, h, _, _, _ => by simp [QeA] at h
  | o :: os, s :: ss, k, st, a, w, h, hd, hR, hK => by
    simp only [QeA, Bool.and_eq_true] at h
    have ho : ops[k]? = some o := by
      have : (ops.toList.drop k)[0]? = some o := by rw [hd]; rfl
      simpa using this
    have hd' : ops.toList.drop (k + 1) = os := by
      have : (ops.toList.drop k).drop 1 = os := by rw [hd]; rfl
      simpa [List.drop_drop] using this
    rw [List.length_cons, List.range'_succ]
    exact Qld ho h.1 hR hK fun st' a' w' hR' hK' => Qhv hQ os ss (k + 1) st' a' w' h.2 hd' hR' hK'

theorem Qm0 {id : Nat} {ops : Array Oper} {ss : List SOper} (hok : QeA P A.n ops ops.toList ss = true) {Q : Exit → Act → World → Prop} {K : St → Prop} (hQ : ∀ st a w, Rel A C0 st a w → K st → Q .normal a w)
    {st : St} {a : Act} {w : World} (hR : Rel A C0 st a w) (hK : Qb9 X ss K st) : (Code.region id ops false).wp P Q a w := by
  refine wp_region ?_
  have := Qhv hQ ops.toList ss 0 st a w hok (by simp) hR hK
  rw [List.range_eq_range']
  simpa using this
end
end Go.Ve

