/- Part 1 of the proof: laws and contracts of functions, each proved; they are joined in the last part. No conditions beyond those that the theorems state. -/
import Derived.Below
import Derived.Carry
import Derived.ChangeOld
import Derived.Deep.Slices
import Derived.Handed
import Derived.JoinedOf
import Derived.RowKit
import Derived.Scope
import Derived.Test.YtnggoadnhnbmkaaMo0
set_option linter.all false
namespace Go.Ve
set_option linter.unusedSimpArgs false
set_option linter.unusedVariables false
open Go.RowKit

inductive Gh where
  | frzE (k : Nat)
  | frzB (o off : Nat)
  | nilE (k o e : Nat)
  | nilB (b off o e : Nat)
  deriving Inhabited

inductive SCode where
  | skip
  | rg (ops : List SOper) (outs : List Nat)
  | rgd (ops : List SOper) (outs : List Nat) (ck : List (Option (List Nat)))
  | seq (a b : SCode)
  | cond (c : SX) (a b : SCode)
  | block (id : Nat) (c : SCode)
  | loop (c : SCode)
  | exit (id : Nat)
  | ret
  | gh (g : Gh) (c : SCode)
  | scope (c : SCode)
  | label (id : Nat)
  deriving Inhabited

inductive XT where
  | normal
  | exit (id : Nat)
  | ret

def trim (outs : List Nat) (st : St) : St := ⟨outs.map fun k => (k, getE st.E k), st.M⟩

def ghost (g : Gh) (st : St) (K : St → Prop) : Prop :=
  match g with
  | .frzE k => match getE st.E k with
    | .own o ver lo hi => match getM st.M o with
      | some (.arr _ cv sz xs) => 100 ≤ o ∧ ver = cv ∧ lo = 0 ∧ K ⟨setE st.E k (.sl 0 sz (xs.take hi)), setM st.M o .gone⟩
      | _ => K st
    | _ => K st
  | .frzB b off => match getM st.M b with
    | some (.box ls) => match ls.getD off .junk with
      | .own o ver lo hi => match getM st.M o with
        | some (.arr _ cv sz xs) => 100 ≤ o ∧ ver = cv ∧ lo = 0 ∧ off < ls.length ∧ o ≠ b ∧ K ⟨st.E, setM (setM st.M o .gone) b (.box (ls.set off (.sl 0 sz (xs.take hi))))⟩
        | _ => K st
      | _ => K st
    | _ => K st

  | .nilE k o e => match getE st.E k with
    | .sl 98 sz [] => getM st.M o = none ∧ K ⟨setE st.E k (.own o 0 0 0), setM st.M o (.arr e 0 sz [])⟩
    | _ => K st
  | .nilB b off o e => match getM st.M b with
    | some (.box ls) => match ls.getD off .junk with
      | .sl 98 sz [] => getM st.M o = none ∧ off < ls.length ∧ o ≠ b ∧ K ⟨st.E, setM (setM st.M o (.arr e 0 sz [])) b (.box (ls.set off (.own o 0 0 0)))⟩
      | _ => K st
    | _ => K st

/-- Weaker: fewer values, fewer objects. -/
def wkE (E : List (Nat × AV)) : List (Nat × AV) → Prop
  | [] => True
  | (k, v) :: r => (v = .junk ∨ getE E k = v) ∧ wkE E r
def wkM (M : List (Nat × AObj)) : List (Nat × AObj) → Prop
  | [] => True
  | (k, v) :: r => getM M k = some v ∧ wkM M r
def closedB (st : St) : Bool := (st.E.all fun p => refsIn (dom st.M) p.2) && st.M.all fun p => refsInO (dom st.M) p.2
def keepB (M M' : List (Nat × AObj)) : Bool := (dom M).all fun o => decide (100 ≤ o) || (dom M').contains o
structure Wk (st st' : St) : Prop where
  e : wkE st.E st'.E
  m : wkM st.M st'.M
  cl : closedB st' = true
  kp : keepB st.M st'.M = true

def thenQ (next : St → Prop) (Q : XT → St → Prop) : XT → St → Prop
  | .normal, st => next st
  | e, st => Q e st
def blockQ (id : Nat) (Q : XT → St → Prop) : XT → St → Prop
  | .exit id', st => if id' = id then Q .normal st else Q (.exit id') st
  | e, st => Q e st

def trimK (outs : List Nat) (Q : XT → St → Prop) (st : St) : Prop := Q .normal (trim outs st)
def loopK (I : Nat → St → Prop) (m : Nat) (st : St) : Prop := ∃ m' st', Wk st st' ∧ I m' st' ∧ m' < m
def loopWp (body : (XT → St → Prop) → St → Prop) (Q : XT → St → Prop) (st : St) : Prop :=
  ∃ I : Nat → St → Prop, (∃ m0 st0, Wk st st0 ∧ I m0 st0) ∧ ∀ m st, I m st → body (thenQ (loopK I m) Q) st

/-- What must hold ahead of a code, so that Q holds behind it. -/
def SCode.wp {P : Program} (X : Env P) : SCode → (XT → St → Prop) → St → Prop
  | .skip, Q, st => Q .normal st
  | .rg ops outs, Q, st => rgWp X ops (trimK outs Q) st
  | .rgd ops outs ck, Q, st => drTr X ops ck (trimK outs Q) [] st
  | .seq a b, Q, st => a.wp X (thenQ (b.wp X Q) Q) st
  | .cond c a b, Q, st => match ev (getE st.E) c with
    | .bool t => (t = true → a.wp X Q st) ∧ (t = false → b.wp X Q st)
    | _ => False
  | .block id c, Q, st => c.wp X (blockQ id Q) st
  | .loop c, Q, st => loopWp (c.wp X) Q st
  | .exit id, Q, st => Q (.exit id) st
  | .ret, Q, st => Q .ret st
  | .gh g c, Q, st => ghost g st (c.wp X Q)
  | .scope c, Q, st => c.wp X Q st
  | .label _, Q, st => Q .normal st

def okCode (P : Program) (n : Nat) : Code → SCode → Bool
  | c, .gh _ s => okCode P n c s
  | .skip, .skip => true
  | .region _ ops false, .rg ss _ => okOps P n ops ops.toList ss
  | .region _ ops true, .rgd ss _ ck => okOps P n ops ops.toList ss && okDraw ops ss ck
  | .seq a b, .seq a' b' => okCode P n a a' && okCode P n b b'
  | .cond c a b, .cond c' a' b' => okX c c' && okCode P n a a' && okCode P n b b'
  | .block id c, .block id' c' => id == id' && okCode P n c c'
  | .loop c, .loop c' => okCode P n c c'
  | .exit id, .exit id' => id == id'
  | .ret, .ret => true
  | .scope c, .scope c' => okCode P n c c'
  | .label l, .label l' => l == l'
  | _, _ => false

section
variable {P : Program} {X : Env P} {A : A0} {C0 : Ctx}

theorem Rel.trim {st : St} {a : Act} {w : World} (h : Rel A C0 st a w) (outs : List Nat) : Rel A C0 (trim outs st) a w := by
  obtain ⟨⟨loc, h1, h2, h3⟩, h4, h5⟩ := h
  refine ⟨⟨loc, h1, h2, fun k => ?_⟩, h4, h5⟩
  have : getE (outs.map fun k => (k, getE st.E k)) k = getE st.E k ∨ getE (outs.map fun k => (k, getE st.E k)) k = .junk := by
    induction outs with
    | nil => exact .inr rfl
    | cons x xs ih =>
      simp only [List.map_cons, getE]
      split
      · rename_i e; subst e; exact .inl rfl
      · exact ih
  show RelV _ (getE (outs.map fun k => (k, getE st.E k)) k) _
  rcases this with h | h
  · rw [h]; exact h3 k
  · rw [h]; simp [RelV]

theorem wkE_get {E : List (Nat × AV)} : ∀ {E' : List (Nat × AV)} (_ : wkE E E') (k : Nat), getE E' k = .junk ∨ getE E k = getE E' k
  | [], _, k => .inl rfl
  | (j, v) :: r, h, k => by
    simp only [wkE] at h
    simp only [getE]
    split
    · rename_i e; subst e; exact h.1
    · exact wkE_get h.2 k
theorem wkM_get {M : List (Nat × AObj)} : ∀ {M' : List (Nat × AObj)} (_ : wkM M M') (k : Nat) (x : AObj), getM M' k = some x → getM M k = some x
  | [], _, k, x, hx => by simp [getM] at hx
  | (j, v) :: r, h, k, x, hx => by
    simp only [wkM] at h
    simp only [getM] at hx
    split at hx
    · rename_i e; subst e; cases hx; exact h.1
    · exact wkM_get h.2 k x hx

theorem getE_refs {d : List Nat} : ∀ {E : List (Nat × AV)} (_ : (E.all fun p => refsIn d p.2) = true) (k : Nat), refsIn d (getE E k) = true
  | [], _, k => rfl
  | (j, v) :: r, h, k => by
    simp only [List.all_cons, Bool.and_eq_true] at h
    simp only [getE]
    split
    · exact h.1
    · exact getE_refs h.2 k

/-- Fewer objects are known. -/
theorem Inv.restrict {io : Nat → Nat → Prop} {w : World} {loc : Nat → Option Value} {M M' : List (Nat × AObj)} (hI : Inv A ⟨io, w, loc, getM M⟩) (hM : wkM M M') (hc : (M'.all fun p => refsInO (dom M') p.2) = true) :
    Res (dom M') ⟨io, w, loc, getM M⟩ ⟨io, w, fun o => if (dom M').contains o then loc o else none, getM M'⟩ ∧ Inv A ⟨io, w, fun o => if (dom M').contains o then loc o else none, getM M'⟩ := by
  have hown : ∀ b, Ctx.ownB ⟨io, w, fun o => if (dom M').contains o then loc o else none, getM M'⟩ b → Ctx.ownB ⟨io, w, loc, getM M⟩ b := by
    rintro b ⟨o, hv, h1, h2⟩
    simp only at h1
    split at h1
    · exact ⟨o, hv, h1, h2⟩
    · cases h1
  have hres : Res (dom M') ⟨io, w, loc, getM M⟩ ⟨io, w, fun o => if (dom M').contains o then loc o else none, getM M'⟩ := by
    refine ⟨fun t b hb => ⟨⟨hb.1, hb.2.1, fun h => hb.2.2 (hown b h)⟩, rfl⟩, fun o ho => ?_⟩
    obtain ⟨x, hx⟩ := getM_dom ho
    exact ⟨by show getM M' o = getM M o; rw [hx, wkM_get hM o x hx], by simp only [ho, if_true]⟩
  refine ⟨hres, ⟨hI.io, hI.np, hI.fresh, ⟨fun o obj h => ?_, fun o hv h => ?_, fun o o' hv hv' b h1 h2 h3 h4 => ?_⟩, hI.oldnp, hI.ev, fun o hv b h1 h2 => ?_⟩⟩
  · have h : getM M' o = some obj := h
    obtain ⟨hv, h1, h2⟩ := hI.wf.obj o obj (wkM_get hM o obj h)
    have hd := getM_some_dom h
    refine ⟨hv, by simp only [hd, if_true]; exact h1, objAt.res hres ?_ (fun b _ => rfl) h2⟩
    rw [List.all_eq_true] at hc
    exact hc (o, obj) (getM_mem h)
  · simp only at h
    split at h
    · rename_i hd; obtain ⟨x, hx⟩ := getM_dom hd; exact ⟨x, hx⟩
    · cases h
  · simp only at h1 h2
    split at h1
    · split at h2
      · exact hI.wf.inj o o' hv hv' b h1 h2 h3 h4
      · cases h2
    · cases h1
  · simp only at h1
    split at h1
    · exact hI.new o hv b h1 h2
    · cases h1

theorem Rel.wk (h100 : ∀ o obj, C0.M o = some obj → o < 100) {st st' : St} {a : Act} {w : World} (h : Rel A C0 st a w) (hw : Wk st st') : Rel A C0 st' a w := by
  obtain ⟨⟨loc, h1, h2, h3⟩, h4, h5⟩ := h
  have hcl := hw.cl
  simp only [closedB, Bool.and_eq_true] at hcl
  obtain ⟨hres, hI⟩ := Inv.restrict h1 hw.m hcl.2
  refine ⟨⟨_, hI, ⟨fun t b hb => ?_, fun o obj hv ho hl => ?_⟩, fun k => ?_⟩, h4, h5⟩
  · obtain ⟨h6, h7⟩ := h2.ok t b hb
    exact ⟨(hres.ok t b h6).1, h7⟩
  · obtain ⟨obj', hv', h6, h7, h8⟩ := h2.refs o obj hv ho hl
    have h6 : getM st.M o = some obj' := h6
    have hd : (dom st'.M).contains o = true := by
      have hk := hw.kp
      unfold keepB at hk
      rw [List.all_eq_true] at hk
      have := hk o (by have := getM_some_dom h6; simpa using this)
      simp only [Bool.or_eq_true, decide_eq_true_eq] at this
      have hlt := h100 o obj ho
      rcases this with h | h
      · omega
      · exact h
    have := hres.obj o hd
    exact ⟨obj', hv', by rw [this.1]; exact h6, by rw [this.2]; exact h7, h8⟩
  · rcases wkE_get hw.e k with h6 | h6
    · rw [h6]; simp [RelV]
    · refine RelV.res hres _ _ (getE_refs hcl.1 k) ?_
      rw [← h6]; exact h3 k

theorem nil98 (hI : Inv A C0) {sz : Nat} {c : Value} (h : RelV C0 (.sl 98 sz []) c) : c = .slice none 0 0 := by
  simp only [RelV] at h
  rcases h.2 with h | ⟨b, off, cap, css, h1, h2, h3, _⟩
  · exact h.2
  · exact absurd (hI.io ▸ h3.1) (hI.fresh.2 b)

theorem newNil {io : Nat → Nat → Prop} {w : World} {loc : Nat → Option Value} {M : List (Nat × AObj)} (hI : Inv A ⟨io, w, loc, getM M⟩) {o e sz : Nat} (ho : getM M o = none) :
    Inv A ⟨io, w, updF loc o (.slice none 0 0), getM (setM M o (.arr e 0 sz []))⟩ ∧ Ext ⟨io, w, loc, getM M⟩ ⟨io, w, updF loc o (.slice none 0 0), getM (setM M o (.arr e 0 sz []))⟩ ∧
    RelV ⟨io, w, updF loc o (.slice none 0 0), getM (setM M o (.arr e 0 sz []))⟩ (.own o 0 0 0) (.slice none 0 0) :=
  newArr (A := A) hI (o := o) (obj0 := none) ho (e := e) (ver := 0) (sz := sz) (by simp) (by simp) (by simp) (w' := w) (hv' := .slice none 0 0) (xs := []) (css := []) (Grow.refl _ _) (fun b hb => by simp [blkOf] at hb) (by simp [RelLL]) (by simp) (World.ownsRow_nil w 0 e sz) (by simp)

theorem relL_set {C : Ctx} : ∀ {xs : List AV} {vs : List Value} {i : Nat} {y : AV} {u : Value}, RelL C xs vs → vs[i]? = some u → RelV C y u → RelL C (xs.set i y) vs
  | [], vs, i, y, u, h, _, _ => by simpa using h
  | z :: zs, vs, i, y, u, h, hu, hy => by
    simp only [RelL] at h
    obtain ⟨c', cs', rfl, h10, h11⟩ := h
    cases i with
    | zero => simp at hu; subst hu; exact RelL.cons hy h11
    | succ i => simp only [List.set_cons_succ]; exact RelL.cons h10 (relL_set h11 (by simpa using hu) hy)

theorem boxLeaf {io : Nat → Nat → Prop} {w : World} {loc : Nat → Option Value} {M : List (Nat × AObj)} (hI : Inv A ⟨io, w, loc, getM M⟩) {bx off : Nat} {ls : List AV} {y : AV} (hB : getM M bx = some (.box ls)) (hoff : off < ls.length) (hleaf : isLeaf y = true)
    (hy : ∀ c, RelV ⟨io, w, loc, getM M⟩ (ls.getD off .junk) c → RelV ⟨io, w, loc, getM M⟩ y c) :
    ∃ loc', Inv A ⟨io, w, loc', getM (setM M bx (.box (ls.set off y)))⟩ ∧ Ext ⟨io, w, loc, getM M⟩ ⟨io, w, loc', getM (setM M bx (.box (ls.set off y)))⟩ := by
  obtain ⟨hv, h6, b, cs, ty, rfl, h7, h8, h9⟩ := hI.wf.obj bx _ hB
  have h6 : loc bx = some (.pointer (some ⟨b, 0, none⟩)) := h6
  have h7 : w.heap[b]? = _ := h7
  obtain ⟨c, hc, hcr⟩ := h8.get off .junk hoff
  have k4 := Inv.upd (A := A) hI (w' := w) (o := bx) (obj' := .box (ls.set off y)) (hv' := .pointer (some ⟨b, 0, none⟩)) (Grow.refl _ _)
    (fun b' hb => .inr ⟨_, h6, hb⟩) (fun obj hv h h' => by
      have h : getM M bx = some obj := h
      have h' : loc bx = some hv := h'
      rw [hB] at h; cases h; rw [h6] at h'; cases h'; rfl)
    (fun hext => by
      refine ⟨b, cs, ty, rfl, h7, relL_set (h8.mono hext) hc ((hy c hcr).mono hext), ?_⟩
      rw [List.all_eq_true] at h9 ⊢
      intro x hx
      rcases List.mem_or_eq_of_mem_set hx with h | rfl
      · exact h9 x h
      · exact hleaf)
  rw [← getM_setM_fun] at k4
  exact ⟨_, k4.1, k4.2⟩

theorem ghost_sound {g : Gh} {st : St} {a : Act} {w : World} (h : Rel A C0 st a w) {K : St → Prop} (hK : ghost g st K) : ∃ st', Rel A C0 st' a w ∧ K st' := by
  obtain ⟨⟨loc, h1, h2, h3⟩, h4, h5⟩ := id h
  unfold ghost at hK
  split at hK
  · rename_i k
    split at hK
    · rename_i o ver lo hi hE
      split at hK
      · rename_i e cv sz xs hM
        obtain ⟨ho, hver, rfl, hK⟩ := hK
        have hk := h3 k
        rw [hE] at hk
        obtain ⟨h6, h7, h8⟩ := frz_sound h1 hk hM hver ho
        refine ⟨_, ⟨⟨_, h6, h2.trans h7, fun j => ?_⟩, h4, h5⟩, hK⟩
        rw [getE_setE]
        split
        · rename_i e; subst e; exact h8
        · exact (h3 j).mono h7
      · exact ⟨_, h, hK⟩
    · exact ⟨_, h, hK⟩
  · rename_i bx off
    split at hK
    · rename_i ls hB
      split at hK
      · rename_i o ver lo hi hL
        split at hK
        · rename_i e cv sz xs hM
          obtain ⟨ho, hver, rfl, hoff, hne, hK⟩ := hK
          obtain ⟨hv, h6, b, cs, ty, rfl, h7, h8, h9⟩ := h1.wf.obj bx _ hB
          have h7 : w.heap[b]? = _ := h7
          obtain ⟨c, hc, hcr⟩ := h8.get off .junk hoff
          rw [hL] at hcr
          obtain ⟨k1, k2, k3⟩ := frz_sound h1 hcr hM hver ho
          -- the box, its leaf told anew
          have hM2 : getM (setM st.M o .gone) bx = some (.box ls) := by rw [getM_setM, if_neg (Ne.symm hne)]; exact hB
          have hl2 : updF loc o (.tuple #[]) bx = some (.pointer (some ⟨b, 0, none⟩)) := by simp only [updF, if_neg (Ne.symm hne)]; exact h6
          have k4 := Inv.upd (A := A) k1 (w' := w) (o := bx) (obj' := .box (ls.set off (.sl 0 sz (xs.take hi)))) (hv' := .pointer (some ⟨b, 0, none⟩)) (Grow.refl _ _)
            (fun b' hb => .inr ⟨_, hl2, hb⟩) (fun obj hv h h' => by
              have h : getM (setM st.M o .gone) bx = some obj := h
              have h' : updF loc o (.tuple #[]) bx = some hv := h'
              rw [hM2] at h; cases h; rw [hl2] at h'; cases h'; rfl)
            (fun hext => by
              refine ⟨b, cs, ty, rfl, h7, ?_, ?_⟩
              · have hset : ∀ (xs : List AV) (vs : List Value) (C : Ctx) (i : Nat) (y : AV) (u : Value), RelL C xs vs → vs[i]? = some u → RelV C y u → RelL C (xs.set i y) vs := by
                  intro xs
                  induction xs with
                  | nil => intro vs C i y u h _ _; simpa using h
                  | cons z zs ih =>
                    intro vs C i y u h hu hy
                    simp only [RelL] at h
                    obtain ⟨c', cs', rfl, h10, h11⟩ := h
                    cases i with
                    | zero => simp at hu; subst hu; exact RelL.cons hy h11
                    | succ i => simp only [List.set_cons_succ]; exact RelL.cons h10 (ih cs' C i y u h11 (by simpa using hu) hy)
                exact hset ls cs _ off _ c ((h8.mono k2).mono hext) hc (k3.mono hext)
              · rw [List.all_eq_true] at h9 ⊢
                intro x hx
                rcases List.mem_or_eq_of_mem_set hx with h | rfl
                · exact h9 x h
                · rfl)
          rw [← getM_setM_fun] at k4
          exact ⟨_, ⟨⟨_, k4.1, (h2.trans k2).trans k4.2, fun j => ((h3 j).mono k2).mono k4.2⟩, h4, h5⟩, hK⟩
        · exact ⟨_, h, hK⟩
      · exact ⟨_, h, hK⟩
    · exact ⟨_, h, hK⟩
  · rename_i k o e
    split at hK
    · rename_i sz hE
      obtain ⟨ho, hK⟩ := hK
      have hk := h3 k
      rw [hE] at hk
      have hc := nil98 (C0 := ⟨C0.io, w, loc, getM st.M⟩) h1 hk
      obtain ⟨k1, k2, k3⟩ := newNil (e := e) (sz := sz) h1 ho
      refine ⟨_, ⟨⟨_, k1, h2.trans k2, fun j => ?_⟩, h4, h5⟩, hK⟩
      rw [getE_setE]
      split
      · rename_i e; subst e; rw [hc]; exact k3
      · exact (h3 j).mono k2
    · exact ⟨_, h, hK⟩
  · rename_i bx off o e
    split at hK
    · rename_i ls hB
      split at hK
      · rename_i sz hL
        obtain ⟨ho, hoff, hne, hK⟩ := hK
        obtain ⟨k1, k2, k3⟩ := newNil (e := e) (sz := sz) h1 ho
        have hM2 : getM (setM st.M o (.arr e 0 sz [])) bx = some (.box ls) := by rw [getM_setM, if_neg (Ne.symm hne)]; exact hB
        obtain ⟨loc', k4, k5⟩ := boxLeaf k1 (y := .own o 0 0 0) hM2 hoff rfl (fun c hc => by
          rw [hL] at hc
          rw [nil98 k1 hc]; exact k3)
        exact ⟨_, ⟨⟨_, k4, (h2.trans k2).trans k5, fun j => ((h3 j).mono k2).mono k5⟩, h4, h5⟩, hK⟩
      · exact ⟨_, h, hK⟩
    · exact ⟨_, h, hK⟩

def xt : XT → Exit
  | .normal => .normal
  | .exit id => .exit id
  | .ret => .ret

theorem wp_loop_st {σ : Type} {c : Code} {Q : Exit → Act → World → Prop} (R : σ → Act → World → Prop) (μ : σ → Nat)
    (round : ∀ s a w, R s a w → c.wp P (Exit.then (fun a' w' => ∃ s', R s' a' w' ∧ μ s' < μ s) Q) a w) (s : σ) (a : Act) (w : World) (h : R s a w) : (Code.loop c).wp P Q a w := by
  intro b k cs
  have key : ∀ n s a w, μ s = n → R s a w → ∃ e a' w', Q e a' w' ∧ Arrives P (lone (b.at a (.code c :: .inLoop c :: k)) cs w) b k cs e a' w' := by
    intro n
    induction n using Nat.strongRecOn with
    | _ n ih =>
      intro s a w hn hR
      obtain ⟨e, a1, w1, hq, harr⟩ := round s a w hR b (.inLoop c :: k) cs
      cases e with
      | normal =>
        obtain ⟨s', hR', hlt⟩ := hq
        obtain ⟨e2, a2, w2, hq2, harr2⟩ := ih (μ s') (hn ▸ hlt) s' a1 w1 rfl hR'
        exact ⟨e2, a2, w2, hq2, .of_steps (Steps.trans harr (.one step_inLoop)) harr2⟩
      | exit id => exact ⟨_, a1, w1, hq, .pass (x := .inLoop c) rfl (fun _ _ => .inl (by simp)) harr⟩
      | goto l => exact ⟨_, a1, w1, hq, .pass (x := .inLoop c) rfl (fun _ _ => .inl (by simp)) harr⟩
      | ret => exact ⟨_, a1, w1, hq, .pass (x := .inLoop c) rfl (fun _ _ => .inl (by simp)) harr⟩
      | panic ch => exact ⟨_, a1, w1, hq, .pass (x := .inLoop c) rfl (fun _ _ => .inl (by simp)) harr⟩
      | outgrown => exact ⟨_, a1, w1, hq, .pass (x := .inLoop c) rfl (fun _ _ => .inl (by simp)) harr⟩
  obtain ⟨e, a', w', hq, harr⟩ := key _ s a w rfl h
  exact ⟨e, a', w', hq, .of_steps (.one step_loop) harr⟩

theorem code_sound (hm : P.follows .mixedOrders = true)
    (h100 : ∀ o obj, C0.M o = some obj → o < 100) : ∀ (s : SCode) (c : Code) (Q : XT → St → Prop) (QC : Exit → Act → World → Prop), okCode P A.n c s = true →
    (∀ e st a w, Rel A C0 st a w → Q e st → QC (xt e) a w) → ∀ (st : St) (a : Act) (w : World), Rel A C0 st a w → s.wp X Q st → c.wp P QC a w := by
  intro s
  induction s with
  | gh g s ih =>
    intro c Q QC hok hQ st a w hR hw
    rw [okCode] at hok
    simp only [SCode.wp] at hw
    obtain ⟨st', hR', hw'⟩ := ghost_sound hR hw
    exact ih c Q QC hok hQ st' a w hR' hw'
  | skip =>
    intro c Q QC hok hQ st a w hR hw
    cases c <;> simp [okCode] at hok
    exact wp_skip (hQ .normal st a w hR hw)
  | rg ops outs =>
    intro c Q QC hok hQ st a w hR hw
    cases c with
    | region id ops' d =>
      cases d with
      | true => simp [okCode] at hok
      | false =>
        simp only [okCode] at hok
        exact rg_sound hok (K := trimK outs Q) (fun st a w h hk => hQ .normal _ a w (h.trim outs) hk) hR hw
    | _ => simp [okCode] at hok
  | rgd ops outs ck =>
    intro c Q QC hok hQ st a w hR hw
    cases c with
    | region id ops' d =>
      cases d with
      | false => simp [okCode] at hok
      | true =>
        simp only [okCode, Bool.and_eq_true] at hok
        exact draw_sound hm hok.1 hok.2 (K := trimK outs Q) (fun st a w h hk => hQ .normal _ a w (h.trim outs) hk) hR hw
    | _ => simp [okCode] at hok
  | seq x y ihx ihy =>
    intro c Q QC hok hQ st a w hR hw
    cases c with
    | seq a' b' =>
      simp only [okCode, Bool.and_eq_true] at hok
      simp only [SCode.wp] at hw
      refine wp_seq (ihx a' (thenQ (y.wp X Q) Q) _ hok.1 (fun e st a w h hk => ?_) st a w hR hw)
      cases e with
      | normal => exact ihy b' Q QC hok.2 hQ st a w h hk
      | exit id => exact hQ (.exit id) st a w h hk
      | ret => exact hQ .ret st a w h hk
    | _ => simp [okCode] at hok
  | cond x y z ihy ihz =>
    intro c Q QC hok hQ st a w hR hw
    cases c with
    | cond x' a' b' =>
      simp only [okCode, Bool.and_eq_true] at hok
      simp only [SCode.wp] at hw
      split at hw
      · rename_i t ht
        obtain ⟨loc, h1, h2, h3⟩ := hR.ex
        have hx := okX_rel h3 hok.1.1
        rw [ht] at hx
        simp only [RelV] at hx
        exact wp_cond_split hx (fun h => ihy a' Q QC hok.1.2 hQ st a w hR (hw.1 h)) (fun h => ihz b' Q QC hok.2 hQ st a w hR (hw.2 h))
      · exact hw.elim
    | _ => simp [okCode] at hok
  | block id x ih =>
    intro c Q QC hok hQ st a w hR hw
    cases c with
    | block id' c' =>
      simp only [okCode, Bool.and_eq_true, beq_iff_eq] at hok
      obtain ⟨rfl, hok⟩ := hok
      simp only [SCode.wp] at hw
      refine wp_block (ih c' (blockQ id' Q) _ hok (fun e st a w h hk => ?_) st a w hR hw)
      cases e with
      | normal => exact hQ .normal st a w h hk
      | exit id2 =>
        simp only [blockQ] at hk
        show Exit.inBlock id' QC (.exit id2) a w
        simp only [Exit.inBlock]
        split at hk
        · rename_i e; rw [if_pos e]; exact hQ .normal st a w h hk
        · rename_i e; rw [if_neg e]; exact hQ (.exit id2) st a w h hk
      | ret => exact hQ .ret st a w h hk
    | _ => simp [okCode] at hok
  | loop x ih =>
    intro c Q QC hok hQ st a w hR hw
    cases c with
    | loop c' =>
      simp only [okCode] at hok
      simp only [SCode.wp] at hw
      obtain ⟨I, ⟨m0, st0, hwk, hI0⟩, hstep⟩ := hw
      refine wp_loop_st (σ := Nat × St) (fun s a w => Rel A C0 s.2 a w ∧ I s.1 s.2) Prod.fst (fun s a w ⟨hR, hI⟩ => ?_) (m0, st0) a w ⟨hR.wk h100 hwk, hI0⟩
      refine ih c' _ _ hok (fun e st' a' w' h hk => ?_) s.2 a w hR (hstep s.1 s.2 hI)
      cases e with
      | normal =>
        obtain ⟨m', st'', hwk, hI', hlt⟩ := hk
        exact ⟨(m', st''), ⟨h.wk h100 hwk, hI'⟩, hlt⟩
      | exit id => exact hQ (.exit id) st' a' w' h hk
      | ret => exact hQ .ret st' a' w' h hk
    | _ => simp [okCode] at hok
  | exit id =>
    intro c Q QC hok hQ st a w hR hw
    cases c <;> simp [okCode] at hok
    subst hok
    exact wp_exit (hQ (.exit _) st a w hR hw)
  | ret =>
    intro c Q QC hok hQ st a w hR hw
    cases c <;> simp [okCode] at hok
    exact wp_ret (hQ .ret st a w hR hw)
  | scope x ih =>
    intro c Q QC hok hQ st a w hR hw
    cases c with
    | scope c' =>
      simp only [okCode] at hok
      simp only [SCode.wp] at hw
      refine wp_scope_straight (ih c' Q _ hok (fun e st a w h hk => ?_) st a w hR hw)
      cases e <;> exact hQ _ st a w h hk
    | _ => simp [okCode] at hok
  | label l =>
    intro c Q QC hok hQ st a w hR hw
    cases c <;> simp [okCode] at hok
    exact wp_label (hQ .normal st a w hR hw)
end
end Go.Ve

namespace Go.Ve
set_option linter.unusedSimpArgs false
set_option linter.unusedVariables false
open Go.RowKit

inductive SRes where
  | t (k : Nat)
  | c1 (k : Nat)
  | cN (k n : Nat)
  deriving Inhabited

structure SFun where
  n : Nat
  res : List SRes
  body : SCode

def okRes (P : Program) (n : Nat) : List ResultVar → List SRes → Bool
  | [], [] => true
  | .tmp k :: rs, .t k' :: ss => k == k' && okRes P n rs ss
  | .cell k t :: rs, .c1 k' :: ss => k == k' && plainB P t && okRes P n rs ss
  | .cell k t :: rs, .cN k' m :: ss => k == k' && aggB P t && sizeB P t m && okRes P n rs ss
  | _, _ => false

def okFun (P : Program) (f : FuncId) (sf : SFun) : Bool :=
  match P.funcs[f]? with
  | some fn => fn.ntmps == sf.n && okRes P sf.n fn.results.toList sf.res && (match fn.body with | some c => okCode P sf.n c sf.body | none => false)
  | none => false

def resP (st : St) : SRes → AV → Prop
  | .t k, v => getE st.E k = v
  | .c1 k, v => match getE st.E k with
    | .ptr o off => match getM st.M o with | some (.box ls) => off < ls.length ∧ ls.getD off .junk = v | _ => False
    | _ => False
  | .cN k n, v => match getE st.E k with
    | .ptr o off => match getM st.M o with | some (.box ls) => off + n ≤ ls.length ∧ v = .agg ((ls.drop off).take n) | _ => False
    | _ => False
def resLP (st : St) : List SRes → List AV → Prop
  | [], vs => vs = []
  | x :: xs, vs => ∃ v vs', vs = v :: vs' ∧ resP st x v ∧ resLP st xs vs'
def retOk (res : List SRes) (r : AV) (post : List (Nat × AObj)) (st : St) : Prop :=
  (match res with
   | [x] => resP st x r
   | xs => ∃ vs, resLP st xs vs ∧ r = .tup vs) ∧
  wkM st.M post ∧ (post.all fun p => refsInO (dom post) p.2) = true ∧ refsIn (dom post) r = true ∧ keepB st.M post = true

def enumE : Nat → List AV → List (Nat × AV)
  | _, [] => []
  | k, x :: xs => (k, x) :: enumE (k + 1) xs

def retQ (res : List SRes) (r : AV) (post : List (Nat × AObj)) : XT → St → Prop
  | .ret, st => retOk res r post st
  | .normal, st => retOk res r post st
  | _, _ => False

section
variable {P : Program}

def resOne (tmps : Array Value) : ResultVar → Sem Value
  | .tmp t => pure (tmps.getD t undef)
  | .cell x t => do loadVar t (← asAddr (tmps.getD x undef))
theorem results_eq (fn : Func) (tmps : Array Value) : results fn tmps = (do let vs ← fn.results.mapM (resOne tmps); pure (if h : vs.size = 1 then vs[0] else .tuple vs)) := by
  have : (fun rv : ResultVar => (match rv with | .tmp t => pure (tmps.getD t undef) | .cell x t => do loadVar t (← asAddr (tmps.getD x undef)) : Sem Value)) = resOne tmps := by
    funext rv; cases rv <;> rfl
  unfold results
  rw [← this]
  rfl

theorem res_run {A : A0} {C0 : Ctx} {st : St} {a : Act} {w : World} {loc : Nat → Option Value} (hI : Inv A ⟨C0.io, w, loc, getM st.M⟩) (hE : ∀ k, RelV ⟨C0.io, w, loc, getM st.M⟩ (getE st.E k) (a.tmps.getD k undef)) {n : Nat} :
    ∀ {rv : ResultVar} {s : SRes} {v : AV}, okRes P n [rv] [s] = true → resP st s v → ∃ c, (resOne a.tmps rv).run P w = .ok c w ∧ RelV ⟨C0.io, w, loc, getM st.M⟩ v c := by
  intro rv s v hok hr
  cases rv with
  | tmp k =>
    cases s with
    | t k' =>
      simp only [okRes, Bool.and_eq_true, beq_iff_eq] at hok
      obtain ⟨rfl, _⟩ := hok
      simp only [resP] at hr
      exact ⟨_, rfl, hr ▸ hE k⟩
    | c1 => simp [okRes] at hok
    | cN => simp [okRes] at hok
  | cell k t =>
    cases s with
    | t k' => simp [okRes] at hok
    | c1 k' =>
      simp only [okRes, Bool.and_eq_true, beq_iff_eq] at hok
      obtain ⟨⟨rfl, hpl⟩, _⟩ := hok
      simp only [resP] at hr
      split at hr
      · rename_i o off hk
        split at hr
        · rename_i ls hM
          have hx := hE k
          rw [hk] at hx
          have hp : (loadE (getM st.M) (.ptr o off) load1K).pre ∧ (loadE (getM st.M) (.ptr o off) load1K).v = v := by
            simp only [loadE, hM]
            have : ls.drop off = ls.getD off .junk :: ls.drop (off + 1) := by
              rw [List.drop_eq_getElem_cons hr.1]; simp [hr.1]
            rw [this]; exact ⟨trivial, hr.2⟩
          obtain ⟨c, h1, h2, _⟩ := load1_sound (P := P) hI hx hpl hp.1
          rw [hp.2] at h2
          obtain ⟨_, b, off', cs, _, _, _, hv, _⟩ := place hI hx hp.1
          refine ⟨c, ?_, h2⟩
          simp only [Instr.loadAt, Sem.run_bind, hv, Instr.sureAddr, Sem.run_pure, Result.andThen_ok] at h1
          simp only [resOne, Sem.run_bind, hv, asAddr, Sem.run_pure, Result.andThen_ok, h1]
        · exact hr.elim
      · exact hr.elim
    | cN k' m =>
      simp only [okRes, Bool.and_eq_true, beq_iff_eq] at hok
      obtain ⟨⟨⟨rfl, hag⟩, hsz⟩, _⟩ := hok
      simp only [resP] at hr
      split at hr
      · rename_i o off hk
        split at hr
        · rename_i ls hM
          have hx := hE k
          rw [hk] at hx
          have hp : (loadE (getM st.M) (.ptr o off) fun ls => ⟨m ≤ ls.length, .agg (ls.take m), []⟩).pre ∧ (loadE (getM st.M) (.ptr o off) fun ls => ⟨m ≤ ls.length, .agg (ls.take m), []⟩).v = v := by
            simp only [loadE, hM]
            refine ⟨by rw [List.length_drop]; omega, hr.2.symm⟩
          obtain ⟨c, h1, h2, _⟩ := loadN_sound (P := P) hI hx hag hsz hp.1
          rw [hp.2] at h2
          obtain ⟨_, b, off', cs, _, _, _, hv, _⟩ := place hI hx hp.1
          refine ⟨c, ?_, h2⟩
          simp only [Instr.loadAt, Sem.run_bind, hv, Instr.sureAddr, Sem.run_pure, Result.andThen_ok] at h1
          simp only [resOne, Sem.run_bind, hv, asAddr, Sem.run_pure, Result.andThen_ok, h1]
        · exact hr.elim
      · exact hr.elim

theorem results_run {A : A0} {C0 : Ctx} {st : St} {a : Act} {w : World} {loc : Nat → Option Value} (hI : Inv A ⟨C0.io, w, loc, getM st.M⟩) (hE : ∀ k, RelV ⟨C0.io, w, loc, getM st.M⟩ (getE st.E k) (a.tmps.getD k undef)) {n : Nat} :
    ∀ {rs : List ResultVar} {ss : List SRes} {vs : List AV}, okRes P n rs ss = true → resLP st ss vs →
      ∃ cs, (rs.mapM (resOne a.tmps)).run P w = .ok cs w ∧ RelL ⟨C0.io, w, loc, getM st.M⟩ vs cs ∧ cs.length = ss.length
  | [], [], vs, _, h => by simp only [resLP] at h; subst h; exact ⟨[], by simp, by simp [RelL], rfl⟩
  | [], _ :: _, vs, h, _ => by simp [okRes] at h
  | .tmp _ :: _, [], vs, h, _ => by simp [okRes] at h
  | .cell _ _ :: _, [], vs, h, _ => by simp [okRes] at h
  | rv :: rs, s :: ss, vs, hok, h => by
    simp only [resLP] at h
    obtain ⟨v, vs', rfl, h1, h2⟩ := h
    have hok' : okRes P n [rv] [s] = true ∧ okRes P n rs ss = true := by
      cases rv <;> cases s <;> simp only [okRes, Bool.and_eq_true, Bool.and_true] at hok ⊢ <;> first | exact hok | (simp at hok)
    obtain ⟨c, h3, h4⟩ := res_run hI hE hok'.1 h1
    obtain ⟨cs, h5, h6, h7⟩ := results_run hI hE hok'.2 h2
    refine ⟨c :: cs, ?_, RelL.cons h4 h6, by simp [h7]⟩
    rw [List.mapM_cons]
    simp only [Sem.run_bind, h3, Result.andThen_ok, h5, Sem.run_pure]

/-- A FUNCTION's CONTRACT, out of what its code comes to. -/
theorem fn_sound (X : Env P) (hm : P.follows .mixedOrders = true)
    {f : FuncId} {sf : SFun} (hok : okFun P f sf = true) {args : List AV} (hl : args.length ≤ sf.n) {pre : List (Nat × AObj)} (h100 : (dom pre).all (decide <| · < 100) = true) {r : AV} {post : List (Nat × AObj)}
    (h : sf.body.wp X (retQ sf.res r post) ⟨enumE 0 args, pre⟩) : Contract P f args pre r post := by
  intro io w loc vs hio hwf hargs
  unfold okFun at hok
  split at hok
  · rename_i fn hfn
    simp only [Bool.and_eq_true, beq_iff_eq] at hok
    obtain ⟨⟨hn, hres⟩, hb⟩ := hok
    split at hb
    · rename_i c hc
      let C0 : Ctx := ⟨io, w, loc, getM pre⟩
      let A : A0 := ⟨io, w, 100, fun o b => ∃ hv, loc o = some hv ∧ blkOf hv = some b, sf.n⟩
      have h100' : ∀ o obj, C0.M o = some obj → o < 100 := fun o obj ho => by
        rw [List.all_eq_true] at h100
        have := h100 o (by have := getM_some_dom (show getM pre o = some obj from ho); simpa using this)
        simpa using this
      have hI : Inv A C0 := ⟨rfl, Nat.le_refl _, hio, hwf, fun o b ⟨hv, h1, _⟩ => by
        obtain ⟨obj, ho⟩ := hwf.dom o hv h1
        exact h100' o obj ho, Ev.refl _ _, fun o hv b h1 h2 => .inr ⟨hv, h1, h2⟩⟩
      have hvl := hargs.length
      have hR : Rel A C0 ⟨enumE 0 args, pre⟩ { tmps := vs.toArray ++ Array.replicate (fn.ntmps - vs.toArray.size) undef, defers := [] } w := by
        refine ⟨⟨loc, hI, Ext.refl _, fun k => ?_⟩, ?_, rfl⟩
        · have key : ∀ (xs : List AV) (cs : List Value) (j : Nat), RelL C0 xs cs → (k < j ∨ k ≥ j + xs.length → getE (enumE j xs) k = .junk) ∧ (∀ i, k = j + i → i < xs.length → ∃ c, cs[i]? = some c ∧ RelV C0 (getE (enumE j xs) k) c) := by
            intro xs
            induction xs with
            | nil => intro cs j _; exact ⟨fun _ => rfl, fun i _ h => by simp at h⟩
            | cons x xs ih =>
              intro cs j h
              simp only [RelL] at h
              obtain ⟨c, cs', rfl, h1, h2⟩ := h
              obtain ⟨ih1, ih2⟩ := ih cs' (j + 1) h2
              refine ⟨fun hk => ?_, fun i hk hi => ?_⟩
              · simp only [enumE, getE]
                rw [if_neg (by simp at hk; omega)]
                exact ih1 (by simp at hk; omega)
              · simp only [enumE, getE]
                cases i with
                | zero => rw [if_pos (by omega)]; exact ⟨c, rfl, h1⟩
                | succ i =>
                  rw [if_neg (by omega)]
                  obtain ⟨c', h3, h4⟩ := ih2 i (by omega) (by simpa using hi)
                  exact ⟨c', by simpa using h3, h4⟩
          obtain ⟨k1, k2⟩ := key args vs 0 hargs
          by_cases hk : k < args.length
          · obtain ⟨c, h1, h2⟩ := k2 k (by omega) hk
            have hkv : k < vs.length := by omega
            have : (vs.toArray ++ Array.replicate (fn.ntmps - vs.toArray.size) undef).getD k undef = c := by
              simp only [Array.getD_eq_getD_getElem?, Array.getElem?_append, List.size_toArray, hkv, if_true, List.getElem?_toArray, h1, Option.getD_some]
            rw [this]; exact h2
          · rw [k1 (by omega)]; simp [RelV]
        · simp only [Array.size_append, List.size_toArray, Array.size_replicate]
          show vs.length + (fn.ntmps - vs.length) = sf.n
          omega
      refine calls_of_wp hfn hc ?_
      refine code_sound hm h100' sf.body c (retQ sf.res r post) _ hb ?_ _ _ _ hR h
      intro e st a' w' hR' hq
      have fin : retOk sf.res r post st → a'.defers = [] ∧ ∃ v, (results fn a'.tmps).run P w' = .ok v w' ∧ (∃ v_1 loc', (Ending.returned v) = .returned v_1 ∧ WfM ⟨io, w', loc', getM post⟩ ∧ Ext ⟨io, w, loc, getM pre⟩ ⟨io, w', loc', getM post⟩ ∧ RelV ⟨io, w', loc', getM post⟩ r v_1 ∧
          Ev w w' (Ctx.ownB ⟨io, w, loc, getM pre⟩) ∧ ∀ o hv b, loc' o = some hv → blkOf hv = some b → w.heap.size ≤ b ∨ ∃ hv0, loc o = some hv0 ∧ blkOf hv0 = some b) := by
        rintro ⟨h1, h2, h3, h4, h5⟩
        obtain ⟨⟨loc', hI', hX', hE'⟩, _, hdf⟩ := hR'
        refine ⟨hdf, ?_⟩
        have hIo : C0.io = io := rfl
        obtain ⟨hres', hI''⟩ := Inv.restrict hI' h2 h3
        have done : ∀ v, RelV ⟨io, w', loc', getM st.M⟩ r v → ∃ v_1 loc', (Ending.returned v) = .returned v_1 ∧ WfM ⟨io, w', loc', getM post⟩ ∧ Ext ⟨io, w, loc, getM pre⟩ ⟨io, w', loc', getM post⟩ ∧ RelV ⟨io, w', loc', getM post⟩ r v_1 ∧
          Ev w w' (Ctx.ownB ⟨io, w, loc, getM pre⟩) ∧ ∀ o hv b, loc' o = some hv → blkOf hv = some b → w.heap.size ≤ b ∨ ∃ hv0, loc o = some hv0 ∧ blkOf hv0 = some b := by
          intro v hv
          refine ⟨v, _, rfl, hI''.wf, ⟨fun t b hb => ?_, fun o obj hv ho hl => ?_⟩, RelV.res hres' r v h4 hv, ?_, fun o hv b h6 h7 => hI''.new o hv b h6 h7⟩
          · obtain ⟨h6, h7⟩ := hX'.ok t b hb
            exact ⟨(hres'.ok t b h6).1, h7⟩
          · obtain ⟨obj', hv', h6, h7, h8⟩ := hX'.refs o obj hv ho hl
            have h6 : getM st.M o = some obj' := h6
            have hd : (dom post).contains o = true := by
              unfold keepB at h5
              rw [List.all_eq_true] at h5
              have := h5 o (by have := getM_some_dom h6; simpa using this)
              simp only [Bool.or_eq_true, decide_eq_true_eq] at this
              have hlt := h100' o obj ho
              rcases this with h | h
              · omega
              · exact h
            have := hres'.obj o hd
            exact ⟨obj', hv', by rw [this.1]; exact h6, by rw [this.2]; exact h7, h8⟩
          · have hev := hI''.ev
            exact ⟨hev.os, hev.tape, hev.output, hev.size, fun b hb ho => hev.block b hb (fun ⟨o, hv, h6, h7⟩ => ho ⟨o, hv, h6, h7⟩)⟩
        have hmap : ∀ {cs : List Value}, (fn.results.toList.mapM (resOne a'.tmps)).run P w' = .ok cs w' →
            (results fn a'.tmps).run P w' = .ok (if h : cs.toArray.size = 1 then cs.toArray[0] else .tuple cs.toArray) w' := by
          intro cs h6
          rw [results_eq, Array.mapM_eq_mapM_toList]
          simp only [Sem.run_bind, Sem.run_map]
          rw [h6]
          rfl
        split at h1
        · rename_i x hx
          have hlp : resLP st sf.res [r] := by rw [hx]; simp only [resLP]; exact ⟨r, [], rfl, h1, rfl⟩
          obtain ⟨cs, h6, h7, h8⟩ := results_run hI' hE' hres hlp
          rw [hx] at h8
          simp only [RelL] at h7
          obtain ⟨c1, cs1, rfl, h9, rfl⟩ := h7
          exact ⟨c1, hmap h6, done c1 h9⟩
        · rename_i hx
          obtain ⟨vs', hvs, rfl⟩ := h1
          obtain ⟨cs, h6, h7, h8⟩ := results_run hI' hE' hres hvs
          have hne : ¬ cs.toArray.size = 1 := by
            simp only [List.size_toArray, h8]
            intro h1
            match hsr : sf.res with
            | [] => rw [hsr] at h1; simp at h1
            | [x] => exact hx x hsr
            | x :: y :: l => rw [hsr] at h1; simp at h1
          have := hmap h6
          rw [dif_neg hne] at this
          exact ⟨_, this, done _ (by simp only [RelV]; exact ⟨cs, rfl, h7⟩)⟩
      cases e with
      | normal => exact fin hq
      | ret => exact fin hq
      | exit id => exact hq.elim
    · cases hb
  · cases hok
end
end Go.Ve

namespace Go.Ve
set_option linter.unusedSimpArgs false
set_option linter.unusedVariables false
open Go.RowKit

/-! The laws that a walk rewrites with: each asks for all arguments, so that nothing is opened ahead of its time. -/
/-- Two ways: both are kept shut till it is known which is walked. -/
def br (v : AV) (A : St → Prop) (sa : St) (B : St → Prop) (sb : St) : Prop :=
  match v with
  | .bool b => (b = true → A sa) ∧ (b = false → B sb)
  | _ => False
/-- The same with a third way, for a Boolean that was passed over itself. -/
def brU (v : AV) (A B U : St → Prop) (s : St) : Prop :=
  match v with
  | .bool b => (b = true → A s) ∧ (b = false → B s)
  | .tup [] => U s
  | _ => False
section
variable {A B U : St → Prop} {sa sb s : St}
theorem br_true : br (.bool true) A sa B sb = A sa := by simp [br]
theorem br_false : br (.bool false) A sa B sb = B sb := by simp [br]
theorem br_not {b : Bool} : br (.bool (!b)) A sa B sb = br (.bool b) B sb A sa := by cases b <;> simp [br]
theorem br_and {a b : Bool} : br (.bool (a && b)) A sa B sb = ((a = true ∧ b = true → A sa) ∧ (¬ (a = true ∧ b = true) → B sb)) := by cases a <;> cases b <;> simp [br]
theorem br_or {a b : Bool} : br (.bool (a || b)) A sa B sb = ((a = true ∨ b = true → A sa) ∧ (¬ (a = true ∨ b = true) → B sb)) := by cases a <;> cases b <;> simp [br]
theorem br_dec {p : Prop} [Decidable p] : br (.bool (decide p)) A sa B sb = ((p → A sa) ∧ (¬ p → B sb)) := by by_cases h : p <;> simp [br, h]
theorem br_eq {x y : Int} : br (.bool (x == y)) A sa B sb = ((x = y → A sa) ∧ (¬ x = y → B sb)) := by by_cases h : x = y <;> simp [br, h]
theorem br_ne {x y : Int} : br (.bool (x != y)) A sa B sb = ((¬ x = y → A sa) ∧ (x = y → B sb)) := by by_cases h : x = y <;> simp [br, h]
theorem brU_true : brU (.bool true) A B U s = A s := by simp [brU]
theorem brU_false : brU (.bool false) A B U s = B s := by simp [brU]
theorem brU_u : brU (.tup []) A B U s = U s := by simp [brU]
theorem brU_not {b : Bool} : brU (.bool (!b)) A B U s = brU (.bool b) B A U s := by cases b <;> simp [brU]
theorem brU_and {a b : Bool} : brU (.bool (a && b)) A B U s = ((a = true ∧ b = true → A s) ∧ (¬ (a = true ∧ b = true) → B s)) := by cases a <;> cases b <;> simp [brU]
theorem brU_or {a b : Bool} : brU (.bool (a || b)) A B U s = ((a = true ∨ b = true → A s) ∧ (¬ (a = true ∨ b = true) → B s)) := by cases a <;> cases b <;> simp [brU]
theorem brU_dec {p : Prop} [Decidable p] : brU (.bool (decide p)) A B U s = ((p → A s) ∧ (¬ p → B s)) := by by_cases h : p <;> simp [brU, h]
theorem brU_eq {x y : Int} : brU (.bool (x == y)) A B U s = ((x = y → A s) ∧ (¬ x = y → B s)) := by by_cases h : x = y <;> simp [brU, h]
theorem brU_ne {x y : Int} : brU (.bool (x != y)) A B U s = ((¬ x = y → A s) ∧ (x = y → B s)) := by by_cases h : x = y <;> simp [brU, h]
end
def rgRun {P : Program} (X : Env P) (d : Option Nat) (op : SOp) (ks : List Nat) (t : Nat) (b : Bool) (r : List SOper) (K : St → Prop) (st : St) : Prop := opWp X op (st.lit t b) (putK d ks (st.lit t b) (rgWp X r K))
def rgPass {P : Program} (X : Env P) (d : Option Nat) (ks : List Nat) (t : Nat) (b : Bool) (r : List SOper) (K : St → Prop) (st : St) : Prop := rgWp X r K (dropL ks ((st.lit t b).put d (.tup []) []))
def rgUnd {P : Program} (X : Env P) (d : Option Nat) (ks : List Nat) (r : List SOper) (K : St → Prop) (st : St) : Prop := rgWp X r K (dropL ks (st.put d (.tup []) []))
def drRun {P : Program} (X : Env P) (ck : List (Option (List Nat))) (tr : List (List Nat)) (s : SOper) (t : Nat) (b : Bool) (K : List (List Nat) → St → Prop) (st : St) : Prop := opWp X s.op (st.lit t b) (drK ck tr s (st.lit t b) K)
def drPass {P : Program} (X : Env P) (d : Option Nat) (t : Nat) (b : Bool) (tr : List (List Nat)) (K : List (List Nat) → St → Prop) (st : St) : Prop := K ([] :: tr) ((st.lit t b).put d (.tup []) [])
def drUnd {P : Program} (X : Env P) (d : Option Nat) (tr : List (List Nat)) (K : List (List Nat) → St → Prop) (st : St) : Prop := K ([] :: tr) (st.put d (.tup []) [])

section
variable {P : Program} {X : Env P}
theorem w_skip {Q : XT → St → Prop} {st : St} : SCode.wp X .skip Q st = Q .normal st := (rfl)
theorem w_rg {ops : List SOper} {outs : List Nat} {Q : XT → St → Prop} {st : St} : SCode.wp X (.rg ops outs) Q st = rgWp X ops (trimK outs Q) st := (rfl)
theorem w_rgd {ops : List SOper} {outs : List Nat} {ck : List (Option (List Nat))} {Q : XT → St → Prop} {st : St} : SCode.wp X (.rgd ops outs ck) Q st = drTr X ops ck (trimK outs Q) [] st := (rfl)
theorem w_seq {a b : SCode} {Q : XT → St → Prop} {st : St} : SCode.wp X (.seq a b) Q st = SCode.wp X a (thenQ (SCode.wp X b Q) Q) st := (rfl)
theorem w_cond {c : SX} {a b : SCode} {Q : XT → St → Prop} {st : St} : SCode.wp X (.cond c a b) Q st = br (ev (getE st.E) c) (SCode.wp X a Q) st (SCode.wp X b Q) st := (rfl)
theorem w_block {id : Nat} {c : SCode} {Q : XT → St → Prop} {st : St} : SCode.wp X (.block id c) Q st = SCode.wp X c (blockQ id Q) st := (rfl)
theorem w_loop {c : SCode} {Q : XT → St → Prop} {st : St} : SCode.wp X (.loop c) Q st = loopWp (SCode.wp X c) Q st := (rfl)
theorem w_exit {id : Nat} {Q : XT → St → Prop} {st : St} : SCode.wp X (.exit id) Q st = Q (.exit id) st := (rfl)
theorem w_ret {Q : XT → St → Prop} {st : St} : SCode.wp X .ret Q st = Q .ret st := (rfl)
theorem w_gh {g : Gh} {c : SCode} {Q : XT → St → Prop} {st : St} : SCode.wp X (.gh g c) Q st = ghost g st (SCode.wp X c Q) := (rfl)
theorem w_rg0 {K : St → Prop} {st : St} : rgWp X [] K st = K st := (rfl)
theorem w_rg1 {d : Option Nat} {op : SOp} {ks : List Nat} {r : List SOper} {K : St → Prop} {st : St} : rgWp X (⟨d, op, none, ks⟩ :: r) K st = opWp X op st (putK d ks st (rgWp X r K)) := (rfl)
theorem w_rgT {d : Option Nat} {op : SOp} {t : Nat} {ks : List Nat} {r : List SOper} {K : St → Prop} {st : St} : rgWp X (⟨d, op, some (t, true), ks⟩ :: r) K st = brU (getE st.E t) (rgRun X d op ks t true r K) (rgPass X d ks t false r K) (rgUnd X d ks r K) st := (rfl)
theorem w_rgF {d : Option Nat} {op : SOp} {t : Nat} {ks : List Nat} {r : List SOper} {K : St → Prop} {st : St} : rgWp X (⟨d, op, some (t, false), ks⟩ :: r) K st = brU (getE st.E t) (rgPass X d ks t true r K) (rgRun X d op ks t false r K) (rgUnd X d ks r K) st := by
  show (match getE st.E t with | .bool b => _ | .tup [] => _ | _ => False) = brU (getE st.E t) _ _ _ _
  rcases getE st.E t with _ | _ | _ | _ | (_ | _) | _ | _ | _ | _ | _ | _ | _ <;> first | rfl | exact propext and_comm
theorem w_run {d : Option Nat} {op : SOp} {ks : List Nat} {t : Nat} {b : Bool} {r : List SOper} {K : St → Prop} {st : St} : rgRun X d op ks t b r K st = opWp X op (st.lit t b) (putK d ks (st.lit t b) (rgWp X r K)) := (rfl)
theorem w_psd {d : Option Nat} {ks : List Nat} {t : Nat} {b : Bool} {r : List SOper} {K : St → Prop} {st : St} : rgPass X d ks t b r K st = rgWp X r K (dropL ks ((st.lit t b).put d (.tup []) [])) := (rfl)
theorem w_und {d : Option Nat} {ks : List Nat} {r : List SOper} {K : St → Prop} {st : St} : rgUnd X d ks r K st = rgWp X r K (dropL ks (st.put d (.tup []) [])) := (rfl)
theorem w_dr0 {ck : List (Option (List Nat))} {tr : List (List Nat)} {K : St → Prop} {st : St} : drTr X [] ck K tr st = K st := (rfl)
theorem w_dr1 {ks : List Nat} {d : Option Nat} {op : SOp} {r : List SOper} {c : Option (List Nat)} {ck : List (Option (List Nat))} {tr : List (List Nat)} {K : St → Prop} {st : St} : drTr X (⟨d, op, none, ks⟩ :: r) (c :: ck) K tr st = opWp X op st (drK (c :: ck) tr ⟨d, op, none, ks⟩ st (drTr X r ck K)) := (rfl)
theorem w_drT {ks : List Nat} {d : Option Nat} {op : SOp} {t : Nat} {r : List SOper} {c : Option (List Nat)} {ck : List (Option (List Nat))} {tr : List (List Nat)} {K : St → Prop} {st : St} : drTr X (⟨d, op, some (t, true), ks⟩ :: r) (c :: ck) K tr st =
    brU (getE st.E t) (drRun X (c :: ck) tr ⟨d, op, some (t, true), ks⟩ t true (drTr X r ck K)) (drPass X d t false tr (drTr X r ck K)) (drUnd X d tr (drTr X r ck K)) st := (rfl)
theorem w_drF {ks : List Nat} {d : Option Nat} {op : SOp} {t : Nat} {r : List SOper} {c : Option (List Nat)} {ck : List (Option (List Nat))} {tr : List (List Nat)} {K : St → Prop} {st : St} : drTr X (⟨d, op, some (t, false), ks⟩ :: r) (c :: ck) K tr st =
    brU (getE st.E t) (drPass X d t true tr (drTr X r ck K)) (drRun X (c :: ck) tr ⟨d, op, some (t, false), ks⟩ t false (drTr X r ck K)) (drUnd X d tr (drTr X r ck K)) st := by
  show (match getE st.E t with | .bool b => _ | .tup [] => _ | _ => False) = brU (getE st.E t) _ _ _ _
  rcases getE st.E t with _ | _ | _ | _ | (_ | _) | _ | _ | _ | _ | _ | _ | _ <;> first | rfl | exact propext and_comm
theorem w_drRun {d : Option Nat} {op : SOp} {g : Option (Nat × Bool)} {ks : List Nat} {ck : List (Option (List Nat))} {tr : List (List Nat)} {t : Nat} {b : Bool} {K : List (List Nat) → St → Prop} {st : St} :
    drRun X ck tr ⟨d, op, g, ks⟩ t b K st = opWp X op (st.lit t b) (drK ck tr ⟨d, op, g, ks⟩ (st.lit t b) K) := (rfl)
theorem w_drPsd {d : Option Nat} {t : Nat} {b : Bool} {tr : List (List Nat)} {K : List (List Nat) → St → Prop} {st : St} : drPass X d t b tr K st = K ([] :: tr) ((st.lit t b).put d (.tup []) []) := (rfl)
theorem w_drUnd {d : Option Nat} {tr : List (List Nat)} {K : List (List Nat) → St → Prop} {st : St} : drUnd X d tr K st = K ([] :: tr) (st.put d (.tup []) []) := (rfl)
theorem w_drKn {ks : List Nat} {d : Option Nat} {op : SOp} {g : Option (Nat × Bool)} {ck : List (Option (List Nat))} {tr : List (List Nat)} {st : St} {K : List (List Nat) → St → Prop} {v : AV} {ups : List (Nat × AObj)} :
    drK (none :: ck) tr ⟨d, op, g, ks⟩ st K v ups = K ([] :: tr) (st.put d v ups) := by simp [drK, trk, nxt]
theorem w_drKs {ks : List Nat} {js : List Nat} {d : Option Nat} {op : SOp} {g : Option (Nat × Bool)} {ck : List (Option (List Nat))} {tr : List (List Nat)} {st : St} {K : List (List Nat) → St → Prop} {v : AV} {ups : List (Nat × AObj)} :
    drK (some js :: ck) tr ⟨d, op, g, ks⟩ st K v ups = ((js.all fun d => disj (tr.getD d []) (fpOf op (getE st.E) ups)) = true ∧ K (fpOf op (getE st.E) ups :: tr) (st.put d v ups)) := (rfl)
theorem w_putK {d : Option Nat} {ks : List Nat} {st : St} {K : St → Prop} {v : AV} {ups : List (Nat × AObj)} : putK d ks st K v ups = K (dropL ks (st.put d v ups)) := (rfl)
theorem w_trimK {outs : List Nat} {Q : XT → St → Prop} {st : St} : trimK outs Q st = Q .normal (trim outs st) := (rfl)
theorem w_thenN {n : St → Prop} {Q : XT → St → Prop} {st : St} : thenQ n Q .normal st = n st := (rfl)
theorem w_thenE {n : St → Prop} {Q : XT → St → Prop} {st : St} {id : Nat} : thenQ n Q (.exit id) st = Q (.exit id) st := (rfl)
theorem w_thenR {n : St → Prop} {Q : XT → St → Prop} {st : St} : thenQ n Q .ret st = Q .ret st := (rfl)
theorem w_scope {c : SCode} {Q : XT → St → Prop} {st : St} : SCode.wp X (.scope c) Q st = SCode.wp X c Q st := (rfl)
theorem w_label {l : Nat} {Q : XT → St → Prop} {st : St} : SCode.wp X (.label l) Q st = Q .normal st := (rfl)
theorem w_blkN {i : Nat} {Q : XT → St → Prop} {st : St} : blockQ i Q .normal st = Q .normal st := (rfl)
theorem w_blkE {i id : Nat} {Q : XT → St → Prop} {st : St} : blockQ i Q (.exit id) st = if id = i then Q .normal st else Q (.exit id) st := (rfl)
theorem w_blkR {i : Nat} {Q : XT → St → Prop} {st : St} : blockQ i Q .ret st = Q .ret st := (rfl)
theorem w_call {f : FuncId} {args : List SX} {st : St} {K : AV → List (Nat × AObj) → Prop} : opWp X (.call f args) st K = callWp X f (args.map (ev (getE st.E))) (getM st.M) K := (rfl)
theorem w_effK {p : Prop} {v : AV} {u : List (Nat × AObj)} {K : AV → List (Nat × AObj) → Prop} : effK ⟨p, v, u⟩ K = (p ∧ K v u) := (rfl)

theorem w_callWp {f : FuncId} {args : List AV} {M : Nat → Option AObj} {K : AV → List (Nat × AObj) → Prop} : callWp X f args M K = callA P X f args M K (X.R f args M) := (rfl)
theorem w_callA0 {f : FuncId} {args : List AV} {M : Nat → Option AObj} {K : AV → List (Nat × AObj) → Prop} : callA P X f args M K none = callL P X f args M K (purL M args) := (rfl)
theorem w_callA1 {f : FuncId} {args : List AV} {M : Nat → Option AObj} {K : AV → List (Nat × AObj) → Prop} {α : Type} {p : Prop} {g : α → Prop} {r : α → AV} {u : α → List (Nat × AObj)} : callA P X f args M K (some ⟨p, g, r, u⟩) = (p ∧ ∀ a, g a → K (r a) (u a)) := (rfl)
theorem w_R0 {f : FuncId} {l : List AV} {M : Nat → Option AObj} : (Env.nil P).R f l M = none := (rfl)
theorem w_R1 {f g : FuncId} {t : List AV → Option (Prop × AV)} {h : ∀ args p v, t args = some (p, v) → p → Contract P f args [] v [] ∧ noref v = true ∧ No99 v} {l : List AV} {M : Nat → Option AObj} : (X.add f t h).R g l M = X.R g l M := (rfl)
theorem w_R2 {f g : FuncId} {t : RTab} {h : okTab P f t} {l : List AV} {M : Nat → Option AObj} : (X.addR f t h).R g l M = if g = f then t l M else X.R g l M := (rfl)
theorem w_T2 {f g : FuncId} {t : RTab} {h : okTab P f t} {l : List AV} : (X.addR f t h).T g l = X.T g l := (rfl)
theorem w_callL {f : FuncId} {args l : List AV} {M : Nat → Option AObj} {K : AV → List (Nat × AObj) → Prop} : callL P X f args M K (some l) = callT P f args M K (X.T f l) := (rfl)
theorem w_callT {f : FuncId} {args : List AV} {M : Nat → Option AObj} {K : AV → List (Nat × AObj) → Prop} {p : Prop} {v : AV} : callT P f args M K (some (p, v)) = (p ∧ K v []) := (rfl)
theorem w_T0 {f : FuncId} {l : List AV} : (Env.nil P).T f l = none := (rfl)
theorem w_T1 {f g : FuncId} {t : List AV → Option (Prop × AV)} {h : ∀ args p v, t args = some (p, v) → p → Contract P f args [] v [] ∧ noref v = true ∧ No99 v} {l : List AV} : (X.add f t h).T g l = if g = f then t l else X.T g l := (rfl)
theorem loop_of {α : Type} (F : α → St) (good : α → Prop) (μ : α → Nat) (a0 : α) {body : (XT → St → Prop) → St → Prop} {Q : XT → St → Prop} {st : St} (h0 : Wk st (F a0)) (g0 : good a0)
    (step : ∀ a, good a → body (thenQ (loopK (fun m st => ∃ a, st = F a ∧ good a ∧ μ a = m) (μ a)) Q) (F a)) : loopWp body Q st :=
  ⟨fun m st => ∃ a, st = F a ∧ good a ∧ μ a = m, ⟨μ a0, F a0, h0, a0, rfl, g0, rfl⟩, fun m st ⟨a, h1, h2, h3⟩ => by subst h1; subst h3; exact step a h2⟩
theorem loopK_of {α : Type} {F : α → St} {good : α → Prop} {μ : α → Nat} {m : Nat} (a : α) {st : St} (h0 : Wk st (F a)) (g0 : good a) (hm : μ a < m) : loopK (fun m st => ∃ a, st = F a ∧ good a ∧ μ a = m) m st :=
  ⟨μ a, F a, h0, ⟨a, rfl, g0, rfl⟩, hm⟩
theorem w_getE0 {d : Nat} : getE [] d = .junk := (rfl)
theorem w_getE1 {k : Nat} {v : AV} {r : List (Nat × AV)} {d : Nat} : getE ((k, v) :: r) d = if d = k then v else getE r d := (rfl)
theorem w_getM0 {d : Nat} : getM [] d = none := (rfl)
theorem w_getM1 {k : Nat} {v : AObj} {r : List (Nat × AObj)} {d : Nat} : getM ((k, v) :: r) d = if d = k then some v else getM r d := (rfl)
theorem w_apU0 {M : List (Nat × AObj)} : applyU M [] = M := (rfl)
theorem w_apU1 {M : List (Nat × AObj)} {k : Nat} {v : AObj} : applyU M [(k, v)] = setM M k v := (rfl)
theorem w_apU2 {M : List (Nat × AObj)} {k : Nat} {v : AObj} {r : List (Nat × AObj)} : applyU M ((k, v) :: r) = setM (applyU M r) k v := (rfl)
theorem w_putS {st : St} {d : Nat} {v : AV} {u : List (Nat × AObj)} : st.put (some d) v u = ⟨setE st.E d v, applyU st.M u⟩ := (rfl)
theorem w_putN {st : St} {v : AV} {u : List (Nat × AObj)} : st.put none v u = ⟨st.E, applyU st.M u⟩ := (rfl)
theorem w_drop0 {st : St} : dropL [] st = st := (rfl)
theorem w_drop1 {d : Nat} {l : List Nat} {st : St} : dropL (d :: l) st = dropL l ⟨dropE d st.E, st.M⟩ := (rfl)
theorem w_dropE0 {d : Nat} : dropE d [] = [] := (rfl)
theorem w_dropE1 {d k : Nat} {v : AV} {r : List (Nat × AV)} : dropE d ((k, v) :: r) = if d = k then dropE d r else (k, v) :: dropE d r := (rfl)
theorem w_setE0 {d : Nat} {v : AV} : setE [] d v = [(d, v)] := (rfl)
theorem w_setE1 {k d : Nat} {x v : AV} {r : List (Nat × AV)} : setE ((k, x) :: r) d v = if d = k then (k, v) :: r else (k, x) :: setE r d v := (rfl)
theorem w_lit {st : St} {t : Nat} {b : Bool} : st.lit t b = ⟨setE st.E t (.bool b), st.M⟩ := (rfl)
theorem retQ_eq {res : List SRes} {r : AV} {post : List (Nat × AObj)} {st : St} : retQ res r post .ret st = retOk res r post st := (rfl)
end

section
variable {P : Program} {X : Env P} {st : St} {K : AV → List (Nat × AObj) → Prop}
theorem o_mv {x : SX} : opWp X (.mv x) st K = effK (eff (.mv x) (getE st.E) (getM st.M)) K := (rfl)
theorem o_newnil {o e sz : Nat} : opWp X (.newnil o e sz) st K = effK (eff (.newnil o e sz) (getE st.E) (getM st.M)) K := (rfl)
theorem o_pick {c a b : SX} : opWp X (.pick c a b) st K = effK (eff (.pick c a b) (getE st.E) (getM st.M)) K := (rfl)
theorem o_bin {b : BinOp} {x y : SX} : opWp X (.bin b x y) st K = effK (eff (.bin b x y) (getE st.E) (getM st.M)) K := (rfl)
theorem o_binN {b : BinOp} {x y : SX} : opWp X (.binN b x y) st K = effK (eff (.binN b x y) (getE st.E) (getM st.M)) K := (rfl)
theorem o_neg {x : SX} : opWp X (.neg x) st K = effK (eff (.neg x) (getE st.E) (getM st.M)) K := (rfl)
theorem o_not {x : SX} : opWp X (.not x) st K = effK (eff (.not x) (getE st.E) (getM st.M)) K := (rfl)
theorem o_eqB {n : Bool} {x y : SX} : opWp X (.eqB n x y) st K = effK (eff (.eqB n x y) (getE st.E) (getM st.M)) K := (rfl)
theorem o_eqS {n : Bool} {ks : List LK} {x y : SX} : opWp X (.eqS n ks x y) st K = effK (eff (.eqS n ks x y) (getE st.E) (getM st.M)) K := (rfl)
theorem o_conv {k : IntKind} {x : SX} : opWp X (.conv k x) st K = effK (eff (.conv k x) (getE st.E) (getM st.M)) K := (rfl)
theorem o_alloc {o : Nat} {zs : List AV} : opWp X (.alloc o zs) st K = effK (eff (.alloc o zs) (getE st.E) (getM st.M)) K := (rfl)
theorem o_box {o : Nat} {x : SX} : opWp X (.box o x) st K = effK (eff (.box o x) (getE st.E) (getM st.M)) K := (rfl)
theorem o_load1 {x : SX} : opWp X (.load1 x) st K = effK (eff (.load1 x) (getE st.E) (getM st.M)) K := (rfl)
theorem o_loadN {n : Nat} {x : SX} : opWp X (.loadN n x) st K = effK (eff (.loadN n x) (getE st.E) (getM st.M)) K := (rfl)
theorem o_store {n : Nat} {x y : SX} : opWp X (.store n x y) st K = effK (eff (.store n x y) (getE st.E) (getM st.M)) K := (rfl)
theorem o_nilck {x : SX} : opWp X (.nilck x) st K = effK (eff (.nilck x) (getE st.E) (getM st.M)) K := (rfl)
theorem o_faddr {o : Nat} {x : SX} : opWp X (.faddr o x) st K = effK (eff (.faddr o x) (getE st.E) (getM st.M)) K := (rfl)
theorem o_field1 {o : Nat} {x : SX} : opWp X (.field1 o x) st K = effK (eff (.field1 o x) (getE st.E) (getM st.M)) K := (rfl)
theorem o_fieldN {o n : Nat} {x : SX} : opWp X (.fieldN o n x) st K = effK (eff (.fieldN o n x) (getE st.E) (getM st.M)) K := (rfl)
theorem o_iaddr {sz : Nat} {x i : SX} : opWp X (.iaddr sz x i) st K = effK (eff (.iaddr sz x i) (getE st.E) (getM st.M)) K := (rfl)
theorem o_istr {x i : SX} : opWp X (.istr x i) st K = effK (eff (.istr x i) (getE st.E) (getM st.M)) K := (rfl)
theorem o_slStr {x : SX} {lo hi : Option SX} : opWp X (.slStr x lo hi) st K = effK (eff (.slStr x lo hi) (getE st.E) (getM st.M)) K := (rfl)
theorem o_slSl {sz : Nat} {x : SX} {lo hi : Option SX} : opWp X (.slSl sz x lo hi) st K = effK (eff (.slSl sz x lo hi) (getE st.E) (getM st.M)) K := (rfl)
theorem o_lenS {x : SX} : opWp X (.lenS x) st K = effK (eff (.lenS x) (getE st.E) (getM st.M)) K := (rfl)
theorem o_lenL {x : SX} : opWp X (.lenL x) st K = effK (eff (.lenL x) (getE st.E) (getM st.M)) K := (rfl)
theorem o_mx {x y : SX} : opWp X (.mx x y) st K = effK (eff (.mx x y) (getE st.E) (getM st.M)) K := (rfl)
theorem o_mn {x y : SX} : opWp X (.mn x y) st K = effK (eff (.mn x y) (getE st.E) (getM st.M)) K := (rfl)
theorem o_ext {i : Nat} {x : SX} : opWp X (.ext i x) st K = effK (eff (.ext i x) (getE st.E) (getM st.M)) K := (rfl)
theorem o_build {zs : List AV} {ps : List (Nat × Nat × SX)} : opWp X (.build zs ps) st K = effK (eff (.build zs ps) (getE st.E) (getM st.M)) K := (rfl)
theorem o_lit {e sz : Nat} {ps : List SX} : opWp X (.lit e sz ps) st K = effK (eff (.lit e sz ps) (getE st.E) (getM st.M)) K := (rfl)
theorem o_litOwn {o e sz : Nat} {ps : List SX} : opWp X (.litOwn o e sz ps) st K = effK (eff (.litOwn o e sz ps) (getE st.E) (getM st.M)) K := (rfl)
theorem o_app {o e sz : Nat} {x y : SX} : opWp X (.app o e sz x y) st K = effK (eff (.app o e sz x y) (getE st.E) (getM st.M)) K := (rfl)
theorem o_mk {o e sz : Nat} {zs : List AV} {n : SX} : opWp X (.mk o e sz zs n) st K = effK (eff (.mk o e sz zs n) (getE st.E) (getM st.M)) K := (rfl)
theorem o_mvfrz {x : SX} : opWp X (.mvfrz x) st K = effK (eff (.mvfrz x) (getE st.E) (getM st.M)) K := (rfl)
end
theorem ev_v {E : Nat → AV} {k : Nat} : ev E (.v k) = E k := (rfl)
theorem ev_c {E : Nat → AV} {x : AV} : ev E (.c x) = x := (rfl)
theorem l_int {k : IntKind} {n : Int} : leaves (.int k n) = [.int k n] := (rfl)
theorem l_bool {b : Bool} : leaves (.bool b) = [.bool b] := (rfl)
theorem l_str {s : ByteArray} : leaves (.str s) = [.str s] := (rfl)
theorem l_agg {l : List AV} : leaves (.agg l) = l := (rfl)
theorem l_sl {t sz : Nat} {xs : List (List AV)} : leaves (.sl t sz xs) = [.sl t sz xs] := (rfl)
theorem l_own {o v l h : Nat} : leaves (.own o v l h) = [.own o v l h] := (rfl)
theorem l_ptr {o f : Nat} : leaves (.ptr o f) = [.ptr o f] := (rfl)
theorem l_pp {t : Nat} {l : List AV} : leaves (.pp t l) = [.pp t l] := (rfl)
theorem i_int {k : IntKind} {n : Int} : isLeaf (.int k n) = true := (rfl)
theorem i_bool {b : Bool} : isLeaf (.bool b) = true := (rfl)
theorem i_str {s : ByteArray} : isLeaf (.str s) = true := (rfl)
theorem i_sl {t sz : Nat} {xs : List (List AV)} : isLeaf (.sl t sz xs) = true := (rfl)
theorem i_own {o v l h : Nat} : isLeaf (.own o v l h) = true := (rfl)
theorem i_ptr {o f : Nat} : isLeaf (.ptr o f) = true := (rfl)
theorem i_pp {t : Nat} {l : List AV} : isLeaf (.pp t l) = true := (rfl)
theorem all0 {p : AV → Bool} : [].all p = true := (rfl)
theorem all1 {p : AV → Bool} {x : AV} {l : List AV} : (x :: l).all p = (p x && l.all p) := (rfl)
theorem e_ok1 {v : AV} : ok1 v = ⟨True, v, []⟩ := (rfl)
theorem w_trim {outs : List Nat} {st : St} : trim outs st = ⟨outs.map fun k => (k, getE st.E k), st.M⟩ := (rfl)
theorem w_setM0 {d : Nat} {v : AObj} : setM [] d v = [(d, v)] := (rfl)
theorem w_setM1 {k d : Nat} {x v : AObj} {r : List (Nat × AObj)} : setM ((k, x) :: r) d v = if d = k then (k, v) :: r else (k, x) :: setM r d v := (rfl)
theorem enumE0 {n : Nat} : enumE n [] = [] := (rfl)
theorem enumE1 {n : Nat} {x : AV} {l : List AV} : enumE n (x :: l) = (n, x) :: enumE (n + 1) l := (rfl)
end Go.Ve

namespace Go.Ve
set_option linter.unusedSimpArgs false
set_option linter.unusedVariables false
open Go.RowKit

/-! Rows that are told as a list of one kind. -/
section
variable {α : Type} [Inhabited α] {f : α → List AV} {l : List α} {K : AV → List (Nat × AObj) → Prop} {M : Nat → Option AObj}

theorem getD_rows {i : Nat} (h : i < l.length) : (l.map f).getD i [] = f (l.getD i default) := by
  simp [h]
omit [Inhabited α] in
theorem getD_rows_out {i : Nat} (h : ¬ i < l.length) : (l.map f).getD i [] = [] := by
  simp [Nat.not_lt.1 h]
theorem r_iaddr {t sz sz' : Nat} {n : Int} : effK (iaddrE M sz n (.sl t sz' (l.map f))) K = (sz = sz' ∧ 0 ≤ n ∧ n < l.length ∧ K (.pp t (f (l.getD n.toNat default))) []) := by
  simp only [effK, iaddrE, List.length_map, and_assoc]
  refine propext ⟨?_, ?_⟩
  · rintro ⟨h1, h2, h3, h4⟩
    rw [getD_rows (by omega)] at h4
    exact ⟨h1, h2, h3, h4⟩
  · rintro ⟨h1, h2, h3, h4⟩
    rw [getD_rows (by omega)]
    exact ⟨h1, h2, h3, h4⟩
theorem set_rows {i off : Nat} {new : List AV} (g : α → α) (h : ∀ x, setSeg (f x) off new = f (g x)) : (l.map f).set i (setSeg ((l.map f).getD i []) off new) = (l.set i (g (l.getD i default))).map f := by
  by_cases hi : i < l.length
  · rw [getD_rows hi, h, List.map_set]
  · rw [List.set_eq_of_length_le (by simp; omega), List.set_eq_of_length_le (by omega)]
end
theorem fm0 {β : Type} {p : β → Prop} : (∀ x, x ∈ ([] : List β) → p x) = True := by simp
theorem k1_nil : (load1K []).pre = False := (rfl)
/-! Places, by what they lead to. -/
def eltE (ob : Option AObj) (ver i off : Nat) (k : List AV → Eff) : Eff :=
  match ob with | some (.arr _ cv _ xs) => let r := k ((xs.getD i []).drop off); ⟨ver = cv ∧ r.pre, r.v, r.ups⟩ | _ => bad
def iaO (ob : Option AObj) (sz : Nat) (i : Int) (o ver lo hi : Nat) : Eff :=
  match ob with | some (.arr _ cv sz' _) => ⟨sz = sz' ∧ ver = cv ∧ 0 ≤ i ∧ i < ((hi - lo : Nat) : Int), .elt o ver (lo + i.toNat) 0, []⟩ | _ => bad
section
variable {M : Nat → Option AObj} {k : List AV → Eff} {K : AV → List (Nat × AObj) → Prop}
theorem ld_ptr {o off : Nat} : loadE M (.ptr o off) k = (match M o with | some (.box ls) => k (ls.drop off) | _ => bad) := (rfl)
theorem ld_pp {t : Nat} {ls : List AV} : loadE M (.pp t ls) k = k ls := (rfl)
theorem ld_elt {o ver i off : Nat} : loadE M (.elt o ver i off) k = eltE (M o) ver i off k := (rfl)
theorem ia_own {sz o ver lo hi : Nat} {n : Int} : iaddrE M sz n (.own o ver lo hi) = iaO (M o) sz n o ver lo hi := (rfl)
theorem ia_arr {sz sz' o ver lo hi e cv : Nat} {n : Int} {xs : List (List AV)} : iaO (some (.arr e cv sz' xs)) sz n o ver lo hi = ⟨sz = sz' ∧ ver = cv ∧ 0 ≤ n ∧ n < ((hi - lo : Nat) : Int), .elt o ver (lo + n.toNat) 0, []⟩ := (rfl)
theorem el_1 {α : Type} [Inhabited α] {f : α → List AV} {l : List α} {e cv sz ver i off : Nat} : effK (eltE (some (.arr e cv sz (l.map f))) ver i off load1K) K = (ver = cv ∧ i < l.length ∧ effK (load1K ((f (l.getD i default)).drop off)) K) := by
  simp only [effK, eltE, and_assoc]
  by_cases h : i < l.length
  · simp only [getD_rows h, h, true_and]
  · simp only [getD_rows_out h, h, List.drop_nil, k1_nil, false_and, and_false]
theorem el_N {α : Type} [Inhabited α] {f : α → List AV} {l : List α} {e cv sz ver i off n : Nat} : effK (eltE (some (.arr e cv sz (l.map f))) ver i off fun ls => ⟨n + 1 ≤ ls.length, .agg (ls.take (n + 1)), []⟩) K = (ver = cv ∧ i < l.length ∧ effK ⟨n + 1 ≤ ((f (l.getD i default)).drop off).length, .agg (((f (l.getD i default)).drop off).take (n + 1)), []⟩ K) := by
  simp only [effK, eltE, and_assoc]
  by_cases h : i < l.length
  · simp only [getD_rows h, h, true_and]
  · simp only [getD_rows_out h, h, List.drop_nil, List.length_nil, false_and, and_false, Nat.not_succ_le_zero, Nat.add_one_ne_zero, Nat.le_zero_eq]
end
theorem sg_S {x : AV} {l new : List AV} {n : Nat} : setSeg (x :: l) (n + 1) new = x :: setSeg l n new := by simp [setSeg, Nat.add_right_comm]
theorem sg_c {x y : AV} {l new : List AV} : setSeg (x :: l) 0 (y :: new) = y :: setSeg l 0 new := by simp [setSeg]
theorem sg_n {l : List AV} : setSeg l 0 [] = l := by simp [setSeg]

/-! What a function gives back. -/
theorem ret1 {k : Nat} {r : AV} {st : St} : retQ [.t k] r [] .ret st = (getE st.E k = r ∧ refsIn [] r = true ∧ keepB st.M [] = true) := by
  simp [retQ, retOk, resP, wkM, dom]
theorem ret1N {k : Nat} {r : AV} {st : St} : retQ [.t k] r [] .normal st = (getE st.E k = r ∧ refsIn [] r = true ∧ keepB st.M [] = true) := by
  simp [retQ, retOk, resP, wkM, dom]
theorem keep0 {M' : List (Nat × AObj)} : keepB [] M' = true := (rfl)
theorem keep1 {k : Nat} {x : AObj} {M : List (Nat × AObj)} : keepB ((k, x) :: M) [] = (decide (100 ≤ k) && keepB M []) := by simp [keepB, dom]
theorem rf_int {d : List Nat} {k : IntKind} {n : Int} : refsIn d (.int k n) = true := (rfl)
theorem rf_bool {d : List Nat} {b : Bool} : refsIn d (.bool b) = true := (rfl)
theorem rf_str {d : List Nat} {s : ByteArray} : refsIn d (.str s) = true := (rfl)
theorem rf_sl {d : List Nat} {t sz : Nat} {xs : List (List AV)} : refsIn d (.sl t sz xs) = true := (rfl)
theorem rf_agg {d : List Nat} {l : List AV} : refsIn d (.agg l) = refsInL d l := (rfl)
theorem rf_tup {d : List Nat} {l : List AV} : refsIn d (.tup l) = refsInL d l := (rfl)
theorem rfL0 {d : List Nat} : refsInL d [] = true := (rfl)
theorem rfL1 {d : List Nat} {x : AV} {l : List AV} : refsInL d (x :: l) = (refsIn d x && refsInL d l) := (rfl)
theorem re_t {k : Nat} {st : St} {v : AV} : resP st (.t k) v = (getE st.E k = v) := (rfl)
theorem re_cN {k n : Nat} {st : St} {v : AV} : resP st (.cN k n) v = (match getE st.E k with
    | .ptr o off => match getM st.M o with | some (.box ls) => off + n ≤ ls.length ∧ v = .agg ((ls.drop off).take n) | _ => False
    | _ => False) := (rfl)
theorem take_rr {β : Type} {f : β → List AV} {g : Nat → β} {i : Nat} : List.take i (List.map f (List.map g (List.range i))) = List.map f (List.map g (List.range i)) := by
  rw [List.take_of_length_le]; simp
theorem re_L0 {st : St} {vs : List AV} : resLP st [] vs = (vs = []) := (rfl)
theorem re_L1 {st : St} {x : SRes} {xs : List SRes} {v : AV} {vs : List AV} : resLP st (x :: xs) (v :: vs) = (resP st x v ∧ resLP st xs vs) := by
  simp only [resLP, List.cons.injEq]
  exact propext ⟨fun ⟨_, _, ⟨h1, h2⟩, h3, h4⟩ => by subst h1; subst h2; exact ⟨h3, h4⟩, fun ⟨h1, h2⟩ => ⟨v, vs, ⟨rfl, rfl⟩, h1, h2⟩⟩
theorem ret_tup {x y : SRes} {rs : List SRes} {vs : List AV} {st : St} : retQ (x :: y :: rs) (.tup vs) [] .ret st = (resLP st (x :: y :: rs) vs ∧ refsIn [] (.tup vs) = true ∧ keepB st.M [] = true) := by
  simp [retQ, retOk, wkM, dom]
theorem ret_one {x : SRes} {r : AV} {st : St} : retQ [x] r [] .ret st = (resP st x r ∧ refsIn [] r = true ∧ keepB st.M [] = true) := by
  simp [retQ, retOk, wkM, dom]
end Go.Ve

namespace Go.Ve
set_option linter.unusedSimpArgs false
set_option linter.unusedVariables false
open Go.RowKit

/-! ## objects under other numbers -/
mutual
def ren (s : Nat → Nat) : AV → AV
  | .agg ls => .agg (renL s ls)
  | .tup ls => .tup (renL s ls)
  | .own o ver lo hi => .own (s o) ver lo hi
  | .ptr o off => .ptr (s o) off
  | .elt o ver i off => .elt (s o) ver i off
  | .fn f a b => .fn f (renL s a) (renL s b)
  | .int k n => .int k n
  | .bool b => .bool b
  | .str b => .str b
  | .sl t sz xs => .sl t sz xs
  | .pp t ls => .pp t ls
  | .junk => .junk
def renL (s : Nat → Nat) : List AV → List AV
  | [] => []
  | x :: xs => ren s x :: renL s xs
end
def renO (s : Nat → Nat) : AObj → AObj
  | .box ls => .box (renL s ls)
  | .arr e ver sz xs => .arr e ver sz xs
  | .gone => .gone
def renM (s : Nat → Nat) : List (Nat × AObj) → List (Nat × AObj)
  | [] => []
  | (k, x) :: r => (s k, renO s x) :: renM s r

section
variable {s : Nat → Nat} (hs : ∀ n, s (s n) = n)
include hs
mutual
theorem ren_ren : ∀ x : AV, ren s (ren s x) = x
  | .agg ls => by simp only [ren, renL_renL ls]
  | .tup ls => by simp only [ren, renL_renL ls]
  | .own o ver lo hi => by simp only [ren, hs]
  | .ptr o off => by simp only [ren, hs]
  | .elt o ver i off => by simp only [ren, hs]
  | .fn f a b => by simp only [ren, renL_renL a, renL_renL b]
  | .int .. => rfl
  | .bool .. => rfl
  | .str .. => rfl
  | .sl .. => rfl
  | .pp .. => rfl
  | .junk => rfl
theorem renL_renL : ∀ x : List AV, renL s (renL s x) = x
  | [] => rfl
  | x :: xs => by simp only [renL, ren_ren x, renL_renL xs]
end
theorem renO_renO (x : AObj) : renO s (renO s x) = x := by
  cases x <;> simp only [renO, renL_renL hs]
theorem getM_renM (l : List (Nat × AObj)) (o : Nat) : getM (renM s l) o = (getM l (s o)).map (renO s) := by
  induction l with
  | nil => rfl
  | cons p l ih =>
    obtain ⟨k, x⟩ := p
    simp only [renM, getM]
    by_cases e : o = s k
    · subst e; simp [hs]
    · have : ¬ s o = k := fun h => e (by rw [← h, hs])
      simp only [if_neg e, if_neg this, ih]
end

structure RenC (s : Nat → Nat) (C C' : Ctx) : Prop where
  io : C'.io = C.io
  w : C'.w = C.w
  loc : ∀ o, C'.loc o = C.loc (s o)
  M : ∀ o, C'.M o = (C.M (s o)).map (renO s)

section
variable {s : Nat → Nat} (hs : ∀ n, s (s n) = n) {C C' : Ctx} (h : RenC s C C')
include hs h
theorem RenC.own (b : Nat) : C'.ownB b ↔ C.ownB b := by
  constructor
  · rintro ⟨o, v, h1, h2⟩
    exact ⟨s o, v, by rw [← h.loc]; exact h1, h2⟩
  · rintro ⟨o, v, h1, h2⟩
    exact ⟨s o, v, by rw [h.loc, hs]; exact h1, h2⟩
theorem RenC.ok (t b : Nat) : C'.ok t b ↔ C.ok t b := by
  simp only [Ctx.ok, h.io, h.w, RenC.own hs h b]
theorem RenC.okx : Okx C C' := ⟨fun t b hb => ⟨(RenC.ok hs h t b).2 hb, by rw [h.w]⟩⟩
mutual
theorem RelV.ren : ∀ (x : AV) (v : Value), RelV C x v → RelV C' (ren s x) v
  | .int .., v, hv => by simpa only [RelV, Go.Ve.ren] using hv
  | .bool .., v, hv => by simpa only [RelV, Go.Ve.ren] using hv
  | .str .., v, hv => by simpa only [RelV, Go.Ve.ren] using hv
  | .agg ls, v, hv => by
    simp only [RelV, Go.Ve.ren] at hv ⊢; obtain ⟨cs, rfl, h1⟩ := hv; exact ⟨cs, rfl, RelL.ren ls cs h1⟩
  | .tup ls, v, hv => by
    simp only [RelV, Go.Ve.ren] at hv ⊢; obtain ⟨cs, rfl, h1⟩ := hv; exact ⟨cs, rfl, RelL.ren ls cs h1⟩
  | .sl t sz xs, v, hv => RelV.norefs (RenC.okx hs h) _ _ rfl hv
  | .pp t ls, v, hv => RelV.norefs (RenC.okx hs h) _ _ rfl hv
  | .own o ver lo hi, v, hv => by
    simp only [RelV, Go.Ve.ren] at hv ⊢
    obtain ⟨h0, obj, hv0, h1, h2, h3⟩ := hv
    refine ⟨h0, renO s obj, hv0, by rw [h.M, hs, h1]; rfl, by rw [h.loc, hs]; exact h2, ?_⟩
    cases obj <;> simpa only [ownRel, renO] using h3
  | .ptr o off, v, hv => by
    simp only [RelV, Go.Ve.ren] at hv ⊢
    obtain ⟨h0, obj, hv0, h1, h2, h3⟩ := hv
    refine ⟨h0, renO s obj, hv0, by rw [h.M, hs, h1]; rfl, by rw [h.loc, hs]; exact h2, ?_⟩
    cases obj <;> simpa only [ptrRel, renO] using h3
  | .elt o ver i off, v, hv => by
    simp only [RelV, Go.Ve.ren] at hv ⊢
    obtain ⟨h0, obj, hv0, h1, h2, h3⟩ := hv
    refine ⟨h0, renO s obj, hv0, by rw [h.M, hs, h1]; rfl, by rw [h.loc, hs]; exact h2, ?_⟩
    cases obj <;> simpa only [eltRel, renO] using h3
  | .fn f a b, v, hv => by
    simp only [RelV, Go.Ve.ren] at hv ⊢
    obtain ⟨us, bs, h1, h2, h3⟩ := hv
    exact ⟨us, bs, h1, RelL.ren a us h2, RelL.ren b bs h3⟩
  | .junk, _, _ => by simp only [RelV, Go.Ve.ren]
theorem RelL.ren : ∀ (x : List AV) (v : List Value), RelL C x v → RelL C' (renL s x) v
  | [], v, hv => by simpa only [RelL, renL] using hv
  | x :: xs, v, hv => by
    simp only [RelL, renL] at hv ⊢
    obtain ⟨c, cs, rfl, h1, h2⟩ := hv
    exact ⟨c, cs, rfl, RelV.ren x c h1, RelL.ren xs cs h2⟩
end
theorem objAt.ren {hv : Value} {obj : AObj} (ho : objAt C hv obj) : objAt C' hv (renO s obj) := by
  cases obj with
  | box ls =>
    obtain ⟨b, cs, ty, rfl, h1, h2, h3⟩ := ho
    refine ⟨b, cs, ty, rfl, by rw [h.w]; exact h1, RelL.ren hs h ls cs h2, ?_⟩
    clear h1 h2
    induction ls with
    | nil => rfl
    | cons x xs ih =>
      simp only [List.all_cons, Bool.and_eq_true, renL] at h3 ⊢
      refine ⟨?_, ih h3.2⟩
      cases x <;> first | exact h3.1 | rfl
  | arr e ver sz xs =>
    obtain ⟨css, h1, h2, h3, h4⟩ := ho
    refine ⟨css, ?_, h2, by rw [h.w]; exact h3, h4⟩
    exact RelLL.norefs (RenC.okx hs h) _ _ (fun r hr => flatOk.noref (h4 r hr)) h1
  | gone => exact ho
theorem WfM.ren (hw : WfM C) : WfM C' := by
  refine ⟨fun o obj ho => ?_, fun o hv hl => ?_, fun o o' hv hv' b h1 h2 h3 h4 => ?_⟩
  · rw [h.M] at ho
    cases hm : C.M (s o) with
    | none => rw [hm] at ho; cases ho
    | some x =>
      rw [hm] at ho; cases ho
      obtain ⟨hv, h1, h2⟩ := hw.obj _ _ hm
      exact ⟨hv, by rw [h.loc]; exact h1, objAt.ren hs h h2⟩
  · rw [h.loc] at hl
    obtain ⟨obj, ho⟩ := hw.dom _ _ hl
    exact ⟨renO s obj, by rw [h.M, ho]; rfl⟩
  · rw [h.loc] at h1 h2
    have := hw.inj _ _ _ _ b h1 h2 h3 h4
    have := congrArg s this
    rwa [hs, hs] at this
end

theorem objLe.ren (s : Nat → Nat) {a b : AObj} {x y : Value} (h : objLe (renO s a) x b y) : objLe a x (renO s b) y := by
  cases a <;> cases b <;> simpa only [objLe, renO] using h

/-- A contract, its objects under other numbers. -/
theorem Contract.ren {P : Program} {f : FuncId} {args : List AV} {pre : List (Nat × AObj)} {r : AV} {post : List (Nat × AObj)} (s : Nat → Nat) (hs : ∀ n, s (s n) = n) (hC : Contract P f args pre r post) :
    Contract P f (renL s args) (renM s pre) (ren s r) (renM s post) := by
  intro io w loc vs hio hwf hargs
  have hr1 : RenC s ⟨io, w, loc, getM (renM s pre)⟩ ⟨io, w, fun o => loc (s o), getM pre⟩ := by
    refine ⟨rfl, rfl, fun _ => rfl, fun o => ?_⟩
    show getM pre o = (getM (renM s pre) (s o)).map (renO s)
    rw [getM_renM hs, hs]
    cases getM pre o with
    | none => rfl
    | some x => simp only [Option.map_some, renO_renO hs]
  have ha := RelL.ren hs hr1 _ _ hargs
  rw [renL_renL hs] at ha
  refine (hC io w _ vs hio (WfM.ren hs hr1 hwf) ha).mono ?_
  rintro e w' ⟨v, loc', rfl, hwf', hX, hv, hev, hnew⟩
  have hr2 : RenC s ⟨io, w', loc', getM post⟩ ⟨io, w', fun o => loc' (s o), getM (renM s post)⟩ :=
    ⟨rfl, rfl, fun _ => rfl, fun o => getM_renM hs post o⟩
  refine ⟨v, fun o => loc' (s o), rfl, WfM.ren hs hr2 hwf', ⟨fun t b hb => ?_, fun o obj hv h1 h2 => ?_⟩, RelV.ren hs hr2 _ _ hv, ?_, fun o hv b h1 h2 => ?_⟩
  · obtain ⟨h1, h2⟩ := hX.ok t b ((RenC.ok hs hr1 t b).2 hb)
    exact ⟨(RenC.ok hs hr2 t b).2 h1, h2⟩
  · have h1 : getM (renM s pre) o = some obj := h1
    have h2 : loc o = some hv := h2
    rw [getM_renM hs] at h1
    cases hm : getM pre (s o) with
    | none => rw [hm] at h1; cases h1
    | some x =>
      rw [hm] at h1; cases h1
      obtain ⟨obj', hv', h3, h4, h5⟩ := hX.refs (s o) x hv hm (by show loc (s (s o)) = _; rw [hs]; exact h2)
      have h3 : getM post (s o) = some obj' := h3
      refine ⟨renO s obj', hv', ?_, h4, ?_⟩
      · show getM (renM s post) o = _
        rw [getM_renM hs, h3]; rfl
      · refine objLe.ren s ?_
        rw [renO_renO hs]; exact h5
  · refine ⟨hev.os, hev.tape, hev.output, hev.size, fun b hb ho => hev.block b hb fun h => ho ((RenC.own hs hr1 b).1 h)⟩
  · obtain h3 | ⟨hv0, h3, h4⟩ := hnew (s o) hv b h1 h2
    · exact .inl h3
    · exact .inr ⟨hv0, by have h3 : loc (s (s o)) = _ := h3; rwa [hs] at h3, h4⟩

/-- Two numbers change places. -/
def swp (a b n : Nat) : Nat := if n = a then b else if n = b then a else n
theorem swp_swp (a b n : Nat) : swp a b (swp a b n) = n := by
  unfold swp; split <;> (try split) <;> (try split) <;> simp_all
end Go.Ve

namespace Go.Ve
set_option linter.unusedSimpArgs false
set_option linter.unusedVariables false
open Go.RowKit

/-! ## one outcome of many: what holds ahead of a code leads to one end -/
section
variable {P : Program} {X : Env P}

/-- The way that a loop takes. -/
inductive Way (body : (XT → St → Prop) → St → Prop) (e : XT) (sf : St) : Nat → St → Prop
  | stop {m : Nat} {st : St} : (∀ Q' : XT → St → Prop, Q' e sf → body Q' st) → e ≠ .normal → Way body e sf m st
  | step {m m' : Nat} {st s1 s2 : St} : (∀ Q' : XT → St → Prop, Q' .normal s1 → body Q' st) → Wk s1 s2 → m' < m → Way body e sf m' s2 → Way body e sf m st

end
end Go.Ve

namespace Go.Ve
set_option linter.unusedSimpArgs false
set_option linter.unusedVariables false
open Go.RowKit Go.ChangeShapes Go.WideShapes

/-! ## data that reads, told as abstract values -/
inductive LSh where
  | int (k : IntKind)
  | bool
  | str
  | sl (rs : List LSh)
  deriving Inhabited

mutual
def fits : LSh → AV → Prop
  | .int k, x => ∃ n, x = .int k n ∧ (Lit.int k n).wf = true
  | .bool, x => ∃ b, x = .bool b
  | .str, x => ∃ s : ByteArray, x = .str s ∧ s.size ≤ maxLen
  | .sl rs, x => ∃ rows : List (List AV), x = .sl 1 rs.length rows ∧ rows.length ≤ maxLen ∧ ∀ r ∈ rows, fitsL rs r
def fitsL : List LSh → List AV → Prop
  | [], xs => xs = []
  | l :: ls, xs => ∃ x xs', xs = x :: xs' ∧ fits l x ∧ fitsL ls xs'
end
def isSl : LSh → Bool
  | .sl _ => true
  | _ => false

def shapeF (P : Program) (sh : TypeId → Option (List LSh)) : Nat → List Field → Option (List LSh)
  | _, [] => some []
  | off, f :: fs => if f.offset = off then (sh f.type).bind fun a => if a.length = P.cellsOf f.type then (shapeF P sh (off + a.length) fs).map (a ++ ·) else none else none
def shape (P : Program) (nest : Bool) : Nat → TypeId → Option (List LSh)
  | 0, _ => none
  | n + 1, t => match P.underlying t with
    | some .bool => some [.bool]
    | some (.int k) => some [.int k]
    | some .string => some [.str]
    | some (.slice e) => (shape P nest n e).bind fun rs => if rs.length = P.cellsOf e ∧ (nest = true ∨ rs.all (fun l => !isSl l) = true) then some [.sl rs] else none
    | some (.struct fs) => (shapeF P (shape P nest n) 0 fs.toList).bind fun ls => if ls.length = P.cellsOf t then some ls else none
    | _ => none

def Good (w : World) : Value → Prop
  | .slice (some a) _ _ => a.spot = none ∧ a.block < w.heap.size
  | _ => True

theorem fitsL_append {a b : List LSh} : ∀ {x y : List AV}, fitsL a x → fitsL b y → fitsL (a ++ b) (x ++ y) := by
  induction a with
  | nil => intro x y h h'; simp only [fitsL] at h; subst h; exact h'
  | cons l a ih =>
    intro x y h h'
    simp only [fitsL] at h
    obtain ⟨z, zs, rfl, h1, h2⟩ := h
    simp only [List.cons_append, fitsL]
    exact ⟨z, zs ++ y, rfl, h1, ih h2 h'⟩
theorem fits_flat {l : LSh} {x : AV} (h : fits l x) : isLeaf x = true ∧ noref x = true := by
  cases l <;> simp only [fits] at h
  · obtain ⟨n, rfl, _⟩ := h; exact ⟨rfl, rfl⟩
  · obtain ⟨n, rfl⟩ := h; exact ⟨rfl, rfl⟩
  · obtain ⟨n, rfl, _⟩ := h; exact ⟨rfl, rfl⟩
  · obtain ⟨n, rfl, _⟩ := h; exact ⟨rfl, rfl⟩
theorem fitsL_flat {a : List LSh} : ∀ {x : List AV}, fitsL a x → flatOk x = true := by
  induction a with
  | nil => intro x h; simp only [fitsL] at h; subst h; rfl
  | cons l a ih =>
    intro x h; simp only [fitsL] at h; obtain ⟨z, zs, rfl, h1, h2⟩ := h
    simp only [flatOk, fits_flat h1, ih h2, Bool.and_self]

/-- The context of what comes from without. -/
abbrev outer (w : World) : Ctx := ⟨fun t _ => t ≠ 98, w, fun _ => none, getM []⟩

section
variable {H : Type} {enc : TypeId × Value → H} {P : Program} {w : World} {base : Nat} {sp : Nat → Bool} {held : Bool} {nest : Bool}

theorem choose_rows {n : Nat} {q : Nat → List AV → List Value → Prop} (h : ∀ i, i < n → ∃ r c, q i r c) : ∃ rs : List (List AV), ∃ css : List (List Value), rs.length = n ∧ css.length = n ∧ ∀ i, i < n → q i (rs.getD i []) (css.getD i []) := by
  induction n with
  | zero => exact ⟨[], [], rfl, rfl, fun i hi => absurd hi (Nat.not_lt_zero _)⟩
  | succ n ih =>
    obtain ⟨rs, css, h1, h2, h3⟩ := ih fun i hi => h i (by omega)
    obtain ⟨r, c, h4⟩ := h n (by omega)
    refine ⟨rs ++ [r], css ++ [c], by simp [h1], by simp [h2], fun i hi => ?_⟩
    by_cases e : i = n
    · subst e
      have e1 : (rs ++ [r]).getD i [] = r := by rw [List.getD_eq_getElem?_getD, List.getElem?_append_right (by omega)]; simp [h1]
      have e2 : (css ++ [c]).getD i [] = c := by rw [List.getD_eq_getElem?_getD, List.getElem?_append_right (by omega)]; simp [h2]
      rw [e1, e2]; exact h4
    · have e1 : (rs ++ [r]).getD i [] = rs.getD i [] := by rw [List.getD_eq_getElem?_getD, List.getElem?_append_left (by omega), ← List.getD_eq_getElem?_getD]
      have e2 : (css ++ [c]).getD i [] = css.getD i [] := by rw [List.getD_eq_getElem?_getD, List.getElem?_append_left (by omega), ← List.getD_eq_getElem?_getD]
      rw [e1, e2]; exact h3 i (by omega)

theorem relLL_of_get {C : Ctx} : ∀ {rs : List (List AV)} {css : List (List Value)}, rs.length = css.length → (∀ i, i < rs.length → RelL C (rs.getD i []) (css.getD i [])) → RelLL C rs css
  | [], [], _, _ => RelLL.nil
  | [], _ :: _, h, _ => by simp at h
  | _ :: _, [], h, _ => by simp at h
  | r :: rs, c :: css, h, k => RelLL.cons (by simpa using k 0 (by simp)) (relLL_of_get (by simpa using h) fun i hi => by simpa using k (i + 1) (by simpa using hi))

theorem open_fields {fuel : Nat} {sh : TypeId → Option (List LSh)} {cs : List Value}
    (ih : ∀ t ls cs x, sh t = some ls → DataW.trod enc P w base sp held fuel t cs = some x → (ls.any isSl = true → ∀ c ∈ cs, Good w c) → ∃ avs, fitsL ls avs ∧ RelL (outer w) avs cs) :
    ∀ (fs : List Field) (off : Nat) (ls : List LSh), shapeF P sh off fs = some ls → (ls.any isSl = true → ∀ c ∈ cs, Good w c) → (∀ f ∈ fs, ∃ x, DataW.trod enc P w base sp held fuel f.type ((cs.drop f.offset).take (P.cellsOf f.type)) = some x) →
      cs.length = off + ls.length → ∃ avs, fitsL ls avs ∧ RelL (outer w) avs (cs.drop off)
  | [], off, ls, h, _, _, hl => by
    simp only [shapeF, Option.some.injEq] at h; subst h
    exact ⟨[], by simp [fitsL], by rw [List.drop_eq_nil_of_le (by simp at hl; omega)]; exact RelL.nil⟩
  | f :: fs, off, ls, h, hgood, hx, hl => by
    simp only [shapeF] at h
    split at h
    · rename_i ho
      simp only [Option.bind_eq_some_iff] at h
      obtain ⟨a, ha, h⟩ := h
      split at h
      · rename_i hal
        simp only [Option.map_eq_some_iff] at h
        obtain ⟨b, hb, rfl⟩ := h
        obtain ⟨x, hx0⟩ := hx f (by simp)
        obtain ⟨av1, h1, h2⟩ := ih f.type a _ x ha hx0 fun hs c hc => hgood (by simp [hs]) c (List.mem_of_mem_drop (List.mem_of_mem_take hc))
        obtain ⟨av2, h3, h4⟩ := open_fields ih fs (off + a.length) b hb (fun hs => hgood (by simp [hs])) (fun g hg => hx g (by simp [hg])) (by simp at hl; omega)
        refine ⟨av1 ++ av2, fitsL_append h1 h3, ?_⟩
        have : cs.drop off = (cs.drop f.offset).take (P.cellsOf f.type) ++ cs.drop (off + a.length) := by
          rw [ho, ← hal, ← List.drop_drop, List.take_append_drop]
        rw [this]; exact h2.append h4
      · cases h
    · cases h

theorem open_shape (hcell : nest = true → ∀ a c, w.cell? a = some c → Good w c) : ∀ (n : Nat) (t : TypeId) (ls : List LSh) (fuel : Nat) (cs : List Value) (x : DataW H × List MemPlace),
    shape P nest n t = some ls → DataW.trod enc P w base sp held fuel t cs = some x → (ls.any isSl = true → ∀ c ∈ cs, Good w c) → ∃ avs, fitsL ls avs ∧ RelL (outer w) avs cs := by
  intro n
  induction n with
  | zero => intro t ls fuel cs x h; simp [shape] at h
  | succ n ih =>
    intro t ls fuel cs x h hx hg
    simp only [shape] at h
    split at h
    · rename_i ht
      cases h
      obtain ⟨b, rfl, _⟩ := DataW.trod_bool ht hx
      exact ⟨[.bool b], by simp [fitsL, fits], RelL.cons (by simp [RelV]) RelL.nil⟩
    · rename_i k ht
      cases h
      obtain ⟨b, rfl, _, hw⟩ := DataW.trod_int ht hx
      exact ⟨[.int k b], by simp only [fitsL, fits]; exact ⟨_, _, rfl, ⟨b, rfl, hw⟩, rfl⟩, RelL.cons (by simp [RelV]) RelL.nil⟩
    · rename_i ht
      cases h
      obtain ⟨b, rfl, _, hw⟩ := DataW.trod_string ht hx
      exact ⟨[.str b], by simp only [fitsL, fits]; exact ⟨_, _, rfl, ⟨b, rfl, hw⟩, rfl⟩, RelL.cons (by simp [RelV]) RelL.nil⟩
    · rename_i e ht
      simp only [Option.bind_eq_some_iff] at h
      obtain ⟨rs, hrs, h⟩ := h
      split at h
      · rename_i hc
        cases h
        rcases Go.Deep.open_slice ht hx with ⟨rfl, _⟩ | ⟨a, len, cap, m, fu, D, Pl, rfl, _, hl, hm, hmm, _, hel⟩
        · exact ⟨[.sl 1 rs.length []], by simp only [fitsL, fits]; exact ⟨_, _, rfl, ⟨[], rfl, by simp, by simp⟩, rfl⟩, RelL.cons (by simp [RelV]) RelL.nil⟩
        · obtain ⟨hspot, hblk⟩ := hg rfl _ (List.mem_singleton.2 rfl)
          obtain ⟨b, off, spot⟩ := a
          simp only at hspot hblk
          subst hspot
          have hlm : len ≤ m := by rw [hmm]; split <;> omega
          have one : ∀ i, i < len → ∃ r c, w.cells? base ((⟨b, off, none⟩ : Addr).add (i * P.cellsOf e)) (P.cellsOf e) = some c ∧ fitsL rs r ∧ RelL (outer w) r c := by
            intro i hi
            obtain ⟨cs', h1, h2⟩ := hel i (by omega)
            have hgood : rs.any isSl = true → ∀ c ∈ cs', Good w c := by
              intro hs c hc'
              rcases hc.2 with h3 | h3
              · obtain ⟨_, _, h4⟩ := World.cells?_some h1
                obtain ⟨j, hj⟩ := List.mem_iff_getElem?.1 hc'
                have := h4 j (by have := (List.getElem?_eq_some_iff.1 hj).1; omega)
                rw [hj] at this
                exact hcell h3 _ _ this
              · rw [List.any_eq_true] at hs
                obtain ⟨l, hl1, hl2⟩ := hs
                rw [List.all_eq_true] at h3
                have := h3 l hl1
                simp [hl2] at this
            obtain ⟨r, h5, h6⟩ := ih e rs fu cs' _ hrs h2 hgood
            exact ⟨r, cs', h1, h5, h6⟩
          obtain ⟨rows, css, l1, l2, hall⟩ := choose_rows one
          refine ⟨[.sl 1 rs.length rows], ?_, RelL.cons ?_ RelL.nil⟩
          · simp only [fitsL, fits]
            refine ⟨_, _, rfl, ⟨rows, rfl, by omega, fun r hr => ?_⟩, rfl⟩
            obtain ⟨i, hi⟩ := List.mem_iff_getElem?.1 hr
            have hi' := (List.getElem?_eq_some_iff.1 hi).1
            have := (hall i (by omega)).2.1
            rwa [List.getD_eq_getElem?_getD, hi] at this
          · simp only [RelV]
            refine ⟨fun r hr => ?_, .inr ⟨b, off, cap, css, by rw [l1], by omega, ⟨by show (1 : Nat) ≠ 98; omega, hblk, ?_⟩, relLL_of_get (by omega) fun i hi => (hall i (by omega)).2.2, fun i r hi => ?_⟩⟩
            · obtain ⟨i, hi⟩ := List.mem_iff_getElem?.1 hr
              have hi' := (List.getElem?_eq_some_iff.1 hi).1
              have := (hall i (by omega)).2.1
              rw [List.getD_eq_getElem?_getD, hi] at this
              exact fitsL_flat this
            · rintro ⟨o, v, h1, _⟩; cases h1
            · have hi' := (List.getElem?_eq_some_iff.1 hi).1
              have h1 := (hall i (by omega)).1
              rw [List.getD_eq_getElem?_getD, hi] at h1
              simp only [Option.getD_some] at h1
              obtain ⟨_, h3, h4⟩ := World.cells?_some h1
              refine ⟨by rw [h3, hc.1], fun j c hj => ?_⟩
              have := h4 j (by have := (List.getElem?_eq_some_iff.1 hj).1; omega)
              rw [hj] at this
              rw [hc.1, ← this]
              congr 1
              unfold Addr.add
              by_cases e1 : i * P.cellsOf e = 0 <;> by_cases e2 : j = 0 <;> simp [e1, e2, Nat.add_assoc]
      · cases h
    · rename_i fs ht
      simp only [Option.bind_eq_some_iff] at h
      obtain ⟨ls', hls, h⟩ := h
      split at h
      · rename_i hc
        cases h
        obtain ⟨xs, fu, rfl, _, hl, hlen, hf⟩ := DataW.trod_struct ht hx
        have := open_fields (enc := enc) (base := base) (sp := sp) (held := held) (fuel := fu) (w := w) (cs := cs) (fun t ls cs x h1 h2 h3 => ih t ls fu cs x h1 h2 h3) fs.toList 0 ls hls hg (fun f hfm => ?_) (by omega)
        · simpa using this
        · obtain ⟨i, hi⟩ := List.mem_iff_getElem?.1 hfm
          have hi' : fs[i]? = some f := by simpa using hi
          have := hf i f hi'
          rw [this]
          have hlt : i < xs.length := by rw [hlen]; exact (Array.getElem?_eq_some_iff.1 hi').1
          exact ⟨xs[i], List.getElem?_eq_getElem hlt⟩
      · cases h
    · cases h
end
end Go.Ve

namespace Go.Ve
set_option linter.unusedSimpArgs false
set_option linter.unusedVariables false
open Go.RowKit Go.ChangeShapes Go.WideShapes

/-! ## a law's arguments -/
inductive PSh where
  | one (l : LSh)
  | st (ls : List LSh)
  deriving Inhabited
def fitsP : PSh → AV → Prop
  | .one l, x => fits l x
  | .st ls, x => ∃ xs, x = .agg xs ∧ fitsL ls xs
def fitsPs : List PSh → List AV → Prop
  | [], xs => xs = []
  | p :: ps, xs => ∃ x xs', xs = x :: xs' ∧ fitsP p x ∧ fitsPs ps xs'
def pshape (P : Program) (n : Nat) (t : TypeId) : Option PSh :=
  match P.underlying t with
  | some (.struct _) => (shape P false n t).map .st
  | some .bool | some (.int _) | some .string | some (.slice _) => match shape P false n t with
    | some [l] => some (.one l)
    | _ => none
  | _ => none
def pshapes (P : Program) (n : Nat) : List TypeId → Option (List PSh)
  | [] => some []
  | t :: ts => match pshape P n t, pshapes P n ts with
    | some p, some ps => if P.readableRec t = true ∧ t < P.types.size then some (p :: ps) else none
    | _, _ => none

section
variable {H : Type} {enc : TypeId × Value → H} {P : Program} {w : World}

theorem good_of_cell {r : Reach} {b0 : Nat} {t : TypeId} {v : Value} (h : Cell.okWide P w r b0 t v) : Good w v := by
  cases v <;> try trivial
  rename_i a l c
  cases a with
  | none => trivial
  | some a =>
    have key : ∀ {e : TypeId} {n : Nat}, w.has P r b0 a e n → Good w (.slice (some a) l c) := by
      rintro e n ⟨_, h1, row, cells, h2, _⟩
      refine ⟨h1, ?_⟩
      unfold World.shape? at h2
      cases hh : w.heap[a.block]? with
      | none => simp [hh] at h2
      | some o => exact (Array.getElem?_eq_some_iff.1 hh).1
    unfold Cell.okWide at h
    split at h
    all_goals first
      | (rename_i h1 h2; cases h2; done)
      | skip
    unfold Cell.ok at h
    split at h
    all_goals first
      | exact h.elim
      | (rename_i h1 h2; cases h2; done)
      | (rename_i h1 h2; cases h2; exact key h.2.2)

theorem open_arg {n : Nat} {r : Reach} {b0 : Nat} {sp : Nat → Bool} {t : TypeId} {s : PSh} {v : Value} {d : DataW H} {p : List MemPlace} (hs : pshape P n t = some s) (hv : Value.okWide P w r b0 t v)
    (h : DataW.Trod enc P w 0 sp true t v d p) : ∃ x, fitsP s x ∧ RelV (outer w) x v := by
  obtain ⟨fuel, h⟩ := h
  have one : ∀ {l : LSh}, shape P false n t = some [l] → Cell.okWide P w r b0 t v → (∀ cs, v ≠ .agg cs) → ∃ x, fitsP (.one l) x ∧ RelV (outer w) x v := by
    intro l hl hc hna
    have hcs : v.cells.toList = [v] := by cases v <;> first | rfl | exact absurd rfl (hna _)
    rw [hcs] at h
    obtain ⟨avs, h1, h2⟩ := open_shape (nest := false) (fun h => by cases h) n t [l] fuel [v] _ hl h (fun _ c hc' => by rw [List.mem_singleton.1 hc']; exact good_of_cell hc)
    simp only [fitsL] at h1
    obtain ⟨x, xs, rfl, h3, rfl⟩ := h1
    simp only [RelL] at h2
    obtain ⟨c, cs, h4, h5, _⟩ := h2
    cases h4
    exact ⟨x, h3, h5⟩
  unfold pshape at hs
  unfold Value.okWide at hv
  split at hs
  · rename_i fs ht
    rw [ht] at hv
    simp only at hv
    obtain ⟨cs, rfl, hsz, ts, _, _, hcells⟩ := hv
    simp only [Option.map_eq_some_iff] at hs
    obtain ⟨ls, hls, rfl⟩ := hs
    obtain ⟨avs, h1, h2⟩ := open_shape (nest := false) (fun h => by cases h) n t ls fuel _ _ hls h (fun _ c hc' => by
      obtain ⟨i, hi⟩ := List.mem_iff_getElem?.1 hc'
      obtain ⟨u, _, hu⟩ := hcells i c (by simpa [Value.cells] using hi)
      exact good_of_cell hu)
    exact ⟨.agg avs, ⟨avs, rfl, h1⟩, by simp only [RelV]; exact ⟨cs.toList, by simp, h2⟩⟩
  all_goals first | (cases hs; done) | skip
  all_goals
    rename_i ht
    rw [ht] at hv
    simp only at hv
    split at hs
    · rename_i l hl
      cases hs
      exact one hl hv (fun cs e => by subst e; simp [Cell.okWide, Cell.ok, ht] at hv)
    · cases hs

theorem open_args {n : Nat} {r : Reach} {b0 : Nat} {sp : Nat → Bool} : ∀ {ts : List TypeId} {ss : List PSh} {vs : List Value} {ds : List (DataW H)} {p : List MemPlace}, pshapes P n ts = some ss →
    (∀ (j : Nat) t v, ts[j]? = some t → vs[j]? = some v → Value.okWide P w r b0 t v) → DataW.TrodAll enc P w 0 sp true ts vs ds p → ∃ xs, fitsPs ss xs ∧ RelL (outer w) xs vs ∧ ds.length = ts.length
  | [], ss, vs, ds, p, hs, hv, h => by
    simp only [pshapes, Option.some.injEq] at hs; subst hs
    cases vs <;> cases ds <;> simp only [DataW.TrodAll] at h
    exact ⟨[], by simp [fitsPs], RelL.nil, rfl⟩
  | t :: ts, ss, vs, ds, p, hs, hv, h => by
    simp only [pshapes] at hs
    split at hs
    · rename_i s ss' h1 h2
      split at hs
      · cases hs
        cases vs with
        | nil => cases ds <;> simp only [DataW.TrodAll] at h
        | cons v vs =>
          cases ds with
          | nil => simp only [DataW.TrodAll] at h
          | cons d ds =>
            simp only [DataW.TrodAll] at h
            obtain ⟨p1, q1, h3, h4, _⟩ := h
            obtain ⟨x, h5, h6⟩ := open_arg h1 (hv 0 t v rfl rfl) h3
            obtain ⟨xs, h7, h8, h9⟩ := open_args h2 (fun j t v e1 e2 => hv (j + 1) t v (by simpa using e1) (by simpa using e2)) h4
            exact ⟨x :: xs, by simp only [fitsPs]; exact ⟨x, xs, rfl, h5, h7⟩, RelL.cons h6 h8, by simp [h9]⟩
      · cases hs
    · cases hs

theorem args_stay {n : Nat} (hl : laidOutB P = true) {W' : World} (hb : Below w.heap.size w W') : ∀ {ts : List TypeId} {ss : List PSh} {vs : List Value} {ds : List (DataW H)} {p : List MemPlace}, pshapes P n ts = some ss →
    DataW.TrodAll enc P w 0 (fun _ => true) true ts vs ds p → DataW.TrodAll enc P W' 0 (fun b => decide (b < w.heap.size)) true ts vs ds p
  | [], ss, vs, ds, p, hs, h => by
    cases vs <;> cases ds <;> simp only [DataW.TrodAll] at h ⊢
    exact h
  | t :: ts, ss, vs, ds, p, hs, h => by
    simp only [pshapes] at hs
    split at hs
    · rename_i s ss' h1 h2
      split at hs
      · rename_i hr
        cases vs with
        | nil => cases ds <;> simp only [DataW.TrodAll] at h
        | cons v vs =>
          cases ds with
          | nil => simp only [DataW.TrodAll] at h
          | cons d ds =>
            simp only [DataW.TrodAll] at h ⊢
            obtain ⟨p1, q1, h3, h4, h5⟩ := h
            have lt : ∀ x ∈ p1, x.block < w.heap.size := by obtain ⟨m, hm⟩ := h3; exact DataW.trod_lt m _ _ _ hm
            exact ⟨p1, q1, Below.trod hl hr.1 hr.2 h3 hb lt, args_stay hl hb h2 h4, h5⟩
      · cases hs
    · cases hs

/-- A LAW, out of its contract: the call returns true, and its arguments read as they did. -/
theorem law_calls {fn : Func} {s : ChangeSpec} {f : FuncId} {n : Nat} {ss : List PSh} (hl : laidOutB P = true) (hs : pshapes P n fn.params.toList = some ss) (hvars : s.vars = [])
    (hres : ∀ ds : List (DataW H), ds.length = fn.params.size → s.fn H ds = { results := [.lit (.bool true)], args := ds }) {tb : TypeId} (hr : fn.resultTypes = #[tb]) (hb : P.underlying tb = some .bool)
    (hC : ∀ xs, fitsPs ss xs → Contract P f xs [] (.bool true) [])
    (W : World) (base : Nat) (args : Array Value) (ds gs : List (DataW H)) (before : List MemPlace)
    (hval : ∀ (j : Nat) t v, fn.params[j]? = some t → args[j]? = some v → Value.okWide P W .any base t v)
    (hW : DataW.Whole enc P fn.params.toList s.vars false W args.toList ds gs before) (handsOn fresh : Bool) :
    Calls P f args W fun e W' => ∃ v, e = .returned v ∧ s.post enc P fn false fresh handsOn false W args v W' := by
  have hW0 := hW
  obtain ⟨p, q, hA, hV, rfl, hfz, hnd⟩ := hW
  rw [hvars] at hV
  have hgs : gs = [] ∧ q = [] := by
    cases gs with
    | nil => exact ⟨rfl, by simpa [DataW.TrodVars] using hV⟩
    | cons g gs => simp [DataW.TrodVars] at hV
  obtain ⟨rfl, rfl⟩ := hgs
  obtain ⟨xs, h1, h2, h3⟩ := open_args hs (fun j t v e1 e2 => hval j t v (by simpa using e1) (by simpa using e2)) hA
  have hc := hC xs h1 (outer W).io W (outer W).loc args.toList ⟨fun b _ => by show (0 : Nat) ≠ 98; omega, fun b h => h rfl⟩
    ⟨(fun o obj h => by simp [getM] at h), (fun o hv h => by cases h), (fun o o' hv hv' b h => by cases h)⟩ h2
  rw [Array.toArray_toList] at hc
  refine hc.mono ?_
  rintro e W' ⟨v, loc', rfl, _, _, hv, hev, _⟩
  simp only [RelV] at hv
  subst hv
  have bel : Below W.heap.size W W' := ⟨hev.os, hev.tape, hev.output, hev.size, fun k hk => hev.block k hk (by rintro ⟨o, v, h, _⟩; cases h)⟩
  have hsz : (ds ++ ([] : List (DataW H))).length = fn.params.size := by rw [List.append_nil, h3]; simp
  have hf := hres _ hsz
  refine ⟨_, rfl, ds, [], _, [], p, [], hW0, ?_, ?_, ?_, bel.frame _, fun h => by cases h⟩
  · rw [hf, hr]
    exact trodAll_mk1 (shut_bool hb _)
  · rw [hf]
    simp only [List.append_nil]
    exact args_stay hl bel hs hA
  · rw [hf, hvars]
    rfl
end
end Go.Ve

