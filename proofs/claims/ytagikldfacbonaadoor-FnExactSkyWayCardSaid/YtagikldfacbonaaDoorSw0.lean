/- Part 0 of the proof: laws and contracts of functions, each proved; they are joined in the last part. No conditions beyond those that the theorems state. -/
import Derived.Below
import Derived.Calls
import Derived.DeepKeys3
import Derived.IntWalk
import Derived.KernelRfl
import Derived.Laws.AppendOwn
import Derived.Laws.BytesString
import Derived.Laws.MakeOwn
import Derived.Laws.OwnMore
import Derived.Laws.StructEq
import Derived.Maps.Keyed
import Derived.Orders
import Derived.ShutString
set_option linter.all false
namespace Go.Ve

/-- Abstract values. -/
inductive AV where
  | int (k : IntKind) (n : Int)
  | bool (b : Bool)
  | str (s : ByteArray)
  | agg (ls : List AV)
  | tup (vs : List AV)
  | sl (t sz : Nat) (xs : List (List AV))
  | own (o ver lo hi : Nat)
  | ptr (o off : Nat)
  | elt (o ver i off : Nat)
  | pp (t : Nat) (ls : List AV)
  | fn (f : FuncId) (first caps : List AV)
  | junk
  deriving Inhabited

/-- Objects of the call's own. -/
inductive AObj where
  | box (ls : List AV)
  | arr (e ver sz : Nat) (xs : List (List AV))
  | gone
  | mp (kk : Nat) (es : List (AV × AV))
  deriving Inhabited

mutual
def noref : AV → Bool
  | .agg ls => YT ls
  | .tup ls => YT ls
  | .fn _ a b => YT a && YT b
  | .own .. | .ptr .. | .elt .. | .junk => false
  | _ => true
def YT : List AV → Bool
  | [] => true
  | x :: xs => noref x && YT xs
end

def Y8 : AV → Bool
  | .agg _ | .tup _ | .junk => false
  | _ => true

def flatOk : List AV → Bool
  | [] => true
  | x :: xs => Y8 x && noref x && flatOk xs
theorem flatOk.noref : ∀ {l : List AV}, flatOk l = true → YT l = true
  | [], _ => rfl
  | x :: xs, h => by
    simp only [flatOk, Bool.and_eq_true] at h
    simp only [YT, Bool.and_eq_true]
    exact ⟨h.1.2, flatOk.noref h.2⟩

abbrev Mem := Nat → Option AObj

structure Ctx where
  io : Nat → Nat → Prop
  w : World
  loc : Nat → Option Value
  M : Mem

def blkOf : Value → Option Nat
  | .slice (some a) _ _ => some a.block
  | .pointer (some a) => some a.block
  | .map (some b) => some b
  | _ => none

def Ctx.ownB (C : Ctx) (b : Nat) : Prop := ∃ o v, C.loc o = some v ∧ blkOf v = some b
def Ctx.ok (C : Ctx) (t b : Nat) : Prop := C.io t b ∧ b < C.w.heap.size ∧ ¬ C.ownB b

def cellsAt (w : World) (b off : Nat) (r : List Value) : Prop := ∀ j c, r[j]? = some c → w.cell? ⟨b, off + j, none⟩ = some c
def rowsAt (w : World) (b off sz : Nat) (css : List (List Value)) : Prop :=
  ∀ i r, css[i]? = some r → r.length = sz ∧ cellsAt w b (off + i * sz) r

/-- A part of an own slice. -/
def Qqp (hv : Value) (sz lo hi : Nat) (v : Value) : Prop :=
  ∃ base n cap, hv = .slice base n cap ∧ hi ≤ cap ∧ v = .slice (if cap = lo then base else base.map (·.add (lo * sz))) (hi - lo) (cap - lo)

def ownRel (obj : AObj) (hv : Value) (ver lo hi : Nat) (v : Value) : Prop :=
  match obj with
  | .arr _ cv sz xs => ver ≤ cv ∧ (ver = cv → lo ≤ hi ∧ hi ≤ xs.length ∧ Qqp hv sz lo hi v)
  | .box _ => False
  | .mp .. => False
  | .gone => True
def ptrRel (obj : AObj) (hv : Value) (off : Nat) (v : Value) : Prop :=
  match obj with
  | .box _ => ∃ b, hv = .pointer (some ⟨b, 0, none⟩) ∧ v = .pointer (some ⟨b, off, none⟩)
  | .arr .. => False
  | .mp .. => ∃ b, hv = .map (some b) ∧ v = hv ∧ off = 0
  | .gone => True
def eltRel (obj : AObj) (hv : Value) (ver i off : Nat) (v : Value) : Prop :=
  match obj with
  | .arr _ cv sz xs => ver ≤ cv ∧ (ver = cv → i < xs.length ∧ ∃ g n cap, hv = .slice (some ⟨g, 0, none⟩) n cap ∧ v = .pointer (some ⟨g, i * sz + off, none⟩))
  | .box _ => False
  | .mp .. => False
  | .gone => True

/-- An empty slice: nil, or (where it comes from without) of no capacity. -/
def nil0 (t : Nat) (v : Value) : Prop := v = .slice none 0 0 ∨ (t ≠ 98 ∧ ∃ a, v = .slice (some a) 0 0)
@[simp] theorem nil0.mk (t : Nat) : nil0 t (.slice none 0 0) := .inl rfl

mutual
def RelV (C : Ctx) : AV → Value → Prop
  | .int k n, v => v = .int k n
  | .bool b, v => v = .bool b
  | .str s, v => v = .string s
  | .agg ls, v => ∃ cs, v = .agg (List.toArray cs) ∧ RelL C ls cs
  | .tup ls, v => ∃ cs, v = .tuple (List.toArray cs) ∧ RelL C ls cs
  | .sl t sz xs, v => (∀ r ∈ xs, flatOk r = true) ∧ ((xs = [] ∧ nil0 t v) ∨
      ∃ b off cap css, v = .slice (some ⟨b, off, none⟩) xs.length cap ∧ xs.length ≤ cap ∧ C.ok t b ∧ RelLL C xs css ∧ rowsAt C.w b off sz css)
  | .own o ver lo hi, v => Value.oneCell' v = true ∧ ∃ obj hv, C.M o = some obj ∧ C.loc o = some hv ∧ ownRel obj hv ver lo hi v
  | .ptr o off, v => Value.oneCell' v = true ∧ ∃ obj hv, C.M o = some obj ∧ C.loc o = some hv ∧ ptrRel obj hv off v
  | .elt o ver i off, v => Value.oneCell' v = true ∧ ∃ obj hv, C.M o = some obj ∧ C.loc o = some hv ∧ eltRel obj hv ver i off v
  | .pp t ls, v => flatOk ls = true ∧ ∃ b off cs, v = .pointer (some ⟨b, off, none⟩) ∧ C.ok t b ∧ RelL C ls cs ∧ cellsAt C.w b off cs
  | .fn f a b, v => ∃ as bs, v = .func (.func f) (List.toArray as) (List.toArray bs) ∧ RelL C a as ∧ RelL C b bs
  | .junk, _ => True
def RelL (C : Ctx) : List AV → List Value → Prop
  | [], cs => cs = []
  | x :: xs, cs => ∃ c cs', cs = c :: cs' ∧ RelV C x c ∧ RelL C xs cs'
def RelLL (C : Ctx) : List (List AV) → List (List Value) → Prop
  | [], cs => cs = []
  | x :: xs, cs => ∃ c cs', cs = c :: cs' ∧ RelL C x c ∧ RelLL C xs cs'
end

def objLe (obj : AObj) (hv : Value) (obj' : AObj) (hv' : Value) : Prop :=
  match obj, obj' with
  | _, .gone => True
  | .box _, .box _ => hv = hv'
  | .mp .., .mp .. => hv = hv'
  | .arr _ cv sz xs, .arr _ cv' sz' xs' => cv < cv' ∨ (cv = cv' ∧ xs.length ≤ xs'.length ∧ sz = sz' ∧ hv = hv')
  | _, _ => False

structure Ext (C C' : Ctx) : Prop where
  ok : ∀ t b, C.ok t b → C'.ok t b ∧ C'.w.heap[b]? = C.w.heap[b]?
  refs : ∀ o obj hv, C.M o = some obj → C.loc o = some hv → ∃ obj' hv', C'.M o = some obj' ∧ C'.loc o = some hv' ∧ objLe obj hv obj' hv'

theorem Qf5 {w w' : World} {b : Nat} (h : w'.heap[b]? = w.heap[b]?) (off : Nat) : w'.cell? ⟨b, off, none⟩ = w.cell? ⟨b, off, none⟩ := by
  simp [World.cell?, h]

theorem cellsAt.same {w w' : World} {b off : Nat} {r : List Value} (hb : w'.heap[b]? = w.heap[b]?) (h : cellsAt w b off r) : cellsAt w' b off r := by
  intro j c hj; rw [Qf5 hb]; exact h j c hj
theorem rowsAt.same {w w' : World} {b off sz : Nat} {r : List (List Value)} (hb : w'.heap[b]? = w.heap[b]?) (h : rowsAt w b off sz r) : rowsAt w' b off sz r :=
  fun i r hi => ⟨(h i r hi).1, ((h i r hi).2).same hb⟩

theorem ownRel.mono {obj obj' : AObj} {hv hv' : Value} (h : objLe obj hv obj' hv') {ver lo hi : Nat} {v : Value} (hr : ownRel obj hv ver lo hi v) : ownRel obj' hv' ver lo hi v := by
  cases obj <;> cases obj' <;> simp only [objLe, ownRel] at * 
  rename_i e cv sz xs e' cv' sz' xs'
  rcases h with h | ⟨rfl, h2, rfl, rfl⟩
  · exact ⟨by omega, fun e => by omega⟩
  · exact ⟨hr.1, fun e => by obtain ⟨a, b, c⟩ := hr.2 e; exact ⟨a, by omega, c⟩⟩
theorem ptrRel.mono {obj obj' : AObj} {hv hv' : Value} (h : objLe obj hv obj' hv') {off : Nat} {v : Value} (hr : ptrRel obj hv off v) : ptrRel obj' hv' off v := by
  cases obj <;> cases obj' <;> simp only [objLe, ptrRel] at *
  all_goals (subst h; exact hr)
theorem eltRel.mono {obj obj' : AObj} {hv hv' : Value} (h : objLe obj hv obj' hv') {ver i off : Nat} {v : Value} (hr : eltRel obj hv ver i off v) : eltRel obj' hv' ver i off v := by
  cases obj <;> cases obj' <;> simp only [objLe, eltRel] at *
  rename_i e cv sz xs e' cv' sz' xs'
  rcases h with h | ⟨rfl, h2, rfl, rfl⟩
  · exact ⟨by omega, fun e => by omega⟩
  · exact ⟨hr.1, fun e => by obtain ⟨a, c⟩ := hr.2 e; exact ⟨by omega, c⟩⟩

mutual
theorem RelV.mono {C C' : Ctx} (h : Ext C C') : ∀ (x : AV) (v : Value), RelV C x v → RelV C' x v
  | .int .., v, hv => by simpa only [RelV] using hv
  | .bool .., v, hv => by simpa only [RelV] using hv
  | .str .., v, hv => by simpa only [RelV] using hv
  | .agg ls, v, hv => by
    simp only [RelV] at hv ⊢; obtain ⟨cs, rfl, h1⟩ := hv; exact ⟨cs, rfl, RelL.mono h ls cs h1⟩
  | .tup ls, v, hv => by
    simp only [RelV] at hv ⊢; obtain ⟨cs, rfl, h1⟩ := hv; exact ⟨cs, rfl, RelL.mono h ls cs h1⟩
  | .sl t sz xs, v, hv => by
    simp only [RelV] at hv ⊢
    obtain ⟨hn, hv⟩ := hv
    refine ⟨hn, ?_⟩
    rcases hv with hv | ⟨b, off, cap, css, h1, h2, h3, h4, h5⟩
    · exact .inl hv
    · exact .inr ⟨b, off, cap, css, h1, h2, (h.ok t b h3).1, RelLL.mono h xs css h4, h5.same (h.ok t b h3).2⟩
  | .own o ver lo hi, v, hv => by
    simp only [RelV] at hv ⊢
    obtain ⟨h0, obj, hv0, h1, h2, h3⟩ := hv
    obtain ⟨obj', hv', h1', h2', hle⟩ := h.refs o obj hv0 h1 h2
    exact ⟨h0, obj', hv', h1', h2', h3.mono hle⟩
  | .ptr o off, v, hv => by
    simp only [RelV] at hv ⊢
    obtain ⟨h0, obj, hv0, h1, h2, h3⟩ := hv
    obtain ⟨obj', hv', h1', h2', hle⟩ := h.refs o obj hv0 h1 h2
    exact ⟨h0, obj', hv', h1', h2', h3.mono hle⟩
  | .elt o ver i off, v, hv => by
    simp only [RelV] at hv ⊢
    obtain ⟨h0, obj, hv0, h1, h2, h3⟩ := hv
    obtain ⟨obj', hv', h1', h2', hle⟩ := h.refs o obj hv0 h1 h2
    exact ⟨h0, obj', hv', h1', h2', h3.mono hle⟩
  | .pp t ls, v, hv => by
    simp only [RelV] at hv ⊢
    obtain ⟨hn, b, off, cs, h1, h2, h3, h4⟩ := hv
    exact ⟨hn, b, off, cs, h1, (h.ok t b h2).1, RelL.mono h ls cs h3, h4.same (h.ok t b h2).2⟩
  | .fn f a b, v, hv => by
    simp only [RelV] at hv ⊢
    obtain ⟨as, bs, h1, h2, h3⟩ := hv
    exact ⟨as, bs, h1, RelL.mono h a as h2, RelL.mono h b bs h3⟩
  | .junk, _, _ => by simp only [RelV]
theorem RelL.mono {C C' : Ctx} (h : Ext C C') : ∀ (x : List AV) (v : List Value), RelL C x v → RelL C' x v
  | [], v, hv => by simpa only [RelL] using hv
  | x :: xs, v, hv => by
    simp only [RelL] at hv ⊢
    obtain ⟨c, cs, rfl, h1, h2⟩ := hv
    exact ⟨c, cs, rfl, RelV.mono h x c h1, RelL.mono h xs cs h2⟩
theorem RelLL.mono {C C' : Ctx} (h : Ext C C') : ∀ (x : List (List AV)) (v : List (List Value)), RelLL C x v → RelLL C' x v
  | [], v, hv => by simpa only [RelLL] using hv
  | x :: xs, v, hv => by
    simp only [RelLL] at hv ⊢
    obtain ⟨c, cs, rfl, h1, h2⟩ := hv
    exact ⟨c, cs, rfl, RelL.mono h x c h1, RelLL.mono h xs cs h2⟩
end

/-- What holds no reference reads in any context that knows its Y9. -/
structure Okx (C C' : Ctx) : Prop where
  ok : ∀ t b, C.ok t b → C'.ok t b ∧ C'.w.heap[b]? = C.w.heap[b]?
mutual
theorem RelV.norefs {C C' : Ctx} (h : Okx C C') : ∀ (x : AV) (v : Value), noref x = true → RelV C x v → RelV C' x v
  | .int .., v, _, hv => by simpa only [RelV] using hv
  | .bool .., v, _, hv => by simpa only [RelV] using hv
  | .str .., v, _, hv => by simpa only [RelV] using hv
  | .agg ls, v, hn, hv => by
    simp only [RelV] at hv ⊢; simp only [noref] at hn; obtain ⟨cs, rfl, h1⟩ := hv; exact ⟨cs, rfl, RelL.norefs h ls cs hn h1⟩
  | .tup ls, v, hn, hv => by
    simp only [RelV] at hv ⊢; simp only [noref] at hn; obtain ⟨cs, rfl, h1⟩ := hv; exact ⟨cs, rfl, RelL.norefs h ls cs hn h1⟩
  | .sl t sz xs, v, _, hv => by
    simp only [RelV] at hv ⊢
    obtain ⟨hn, hv⟩ := hv
    refine ⟨hn, ?_⟩
    rcases hv with hv | ⟨b, off, cap, css, h1, h2, h3, h4, h5⟩
    · exact .inl hv
    · exact .inr ⟨b, off, cap, css, h1, h2, (h.ok t b h3).1, RelLL.norefs h xs css (fun r hr => flatOk.noref (hn r hr)) h4, h5.same (h.ok t b h3).2⟩
  | .own .., v, hn, hv => by simp [noref] at hn
  | .ptr .., v, hn, hv => by simp [noref] at hn
  | .elt .., v, hn, hv => by simp [noref] at hn
  | .pp t ls, v, _, hv => by
    simp only [RelV] at hv ⊢
    obtain ⟨hn, b, off, cs, h1, h2, h3, h4⟩ := hv
    exact ⟨hn, b, off, cs, h1, (h.ok t b h2).1, RelL.norefs h ls cs (flatOk.noref hn) h3, h4.same (h.ok t b h2).2⟩
  | .fn f a b, v, hn, hv => by
    simp only [RelV] at hv ⊢
    simp only [noref, Bool.and_eq_true] at hn
    obtain ⟨as, bs, h1, h2, h3⟩ := hv
    exact ⟨as, bs, h1, RelL.norefs h a as hn.1 h2, RelL.norefs h b bs hn.2 h3⟩
  | .junk, _, hn, _ => by simp only [RelV]
theorem RelL.norefs {C C' : Ctx} (h : Okx C C') : ∀ (x : List AV) (v : List Value), YT x = true → RelL C x v → RelL C' x v
  | [], v, _, hv => by simpa only [RelL] using hv
  | x :: xs, v, hn, hv => by
    simp only [YT, Bool.and_eq_true] at hn
    simp only [RelL] at hv ⊢
    obtain ⟨c, cs, rfl, h1, h2⟩ := hv
    exact ⟨c, cs, rfl, RelV.norefs h x c hn.1 h1, RelL.norefs h xs cs hn.2 h2⟩
theorem RelLL.norefs {C C' : Ctx} (h : Okx C C') : ∀ (x : List (List AV)) (v : List (List Value)), (∀ r ∈ x, YT r = true) → RelLL C x v → RelLL C' x v
  | [], v, _, hv => by simpa only [RelLL] using hv
  | x :: xs, v, hn, hv => by
    simp only [RelLL] at hv ⊢
    obtain ⟨c, cs, rfl, h1, h2⟩ := hv
    exact ⟨c, cs, rfl, RelL.norefs h x c (hn x (by simp)) h1, RelLL.norefs h xs cs (fun r hr => hn r (by simp [hr])) h2⟩
end
end Go.Ve

namespace Go.Ve
/-- The turns' cells: how far each goes to the right, and up. -/
def Qb1 : List AV := [.int .i64 0, .int .i64 0, .int .i64 0, .int .i64 1, .int .i64 1, .int .i64 1, .int .i64 1, .int .i64 0, .int .i64 1, .int .i64 (-1), .int .i64 0, .int .i64 (-1), .int .i64 (-1), .int .i64 (-1), .int .i64 (-1), .int .i64 0, .int .i64 (-1), .int .i64 1]
/-- What the package variables hold: by their numbers, the cells. -/
def Qrh : Nat → Option (List AV) := fun g => if g = 0 then some Qb1 else none
end Go.Ve

namespace Go.Ve

/-! ## QeR -/
theorem RelL.length {C : Ctx} : ∀ {x : List AV} {v : List Value}, RelL C x v → v.length = x.length
  | [], v, h => by simp only [RelL] at h; subst h; rfl
  | x :: xs, v, h => by
    simp only [RelL] at h; obtain ⟨c, cs, rfl, _, h2⟩ := h; simp [h2.length]
theorem RelLL.length {C : Ctx} : ∀ {x : List (List AV)} {v : List (List Value)}, RelLL C x v → v.length = x.length
  | [], v, h => by simp only [RelLL] at h; subst h; rfl
  | x :: xs, v, h => by
    simp only [RelLL] at h; obtain ⟨c, cs, rfl, _, h2⟩ := h; simp [h2.length]
theorem RelL.nil {C : Ctx} : RelL C [] [] := by simp only [RelL]
theorem RelL.cons {C : Ctx} {x : AV} {v : Value} {xs : List AV} {vs : List Value} (h : RelV C x v) (hs : RelL C xs vs) : RelL C (x :: xs) (v :: vs) := by
  simp only [RelL]; exact ⟨v, vs, rfl, h, hs⟩
theorem RelLL.nil {C : Ctx} : RelLL C [] [] := by simp only [RelLL]
theorem RelLL.cons {C : Ctx} {x : List AV} {v : List Value} {xs : List (List AV)} {vs : List (List Value)} (h : RelL C x v) (hs : RelLL C xs vs) : RelLL C (x :: xs) (v :: vs) := by
  simp only [RelLL]; exact ⟨v, vs, rfl, h, hs⟩
theorem RelL.append {C : Ctx} : ∀ {x y : List AV} {v u : List Value}, RelL C x v → RelL C y u → RelL C (x ++ y) (v ++ u)
  | [], y, v, u, h, h' => by simp only [RelL] at h; subst h; exact h'
  | x :: xs, y, v, u, h, h' => by
    simp only [RelL] at h; obtain ⟨c, cs, rfl, h1, h2⟩ := h; exact RelL.cons h1 (h2.append h')
theorem RelLL.append {C : Ctx} : ∀ {x y : List (List AV)} {v u : List (List Value)}, RelLL C x v → RelLL C y u → RelLL C (x ++ y) (v ++ u)
  | [], y, v, u, h, h' => by simp only [RelLL] at h; subst h; exact h'
  | x :: xs, y, v, u, h, h' => by
    simp only [RelLL] at h; obtain ⟨c, cs, rfl, h1, h2⟩ := h; exact RelLL.cons h1 (h2.append h')
theorem RelL.get {C : Ctx} : ∀ {x : List AV} {v : List Value} (_ : RelL C x v) (i : Nat) (d : AV) (_ : i < x.length), ∃ c, v[i]? = some c ∧ RelV C (x.getD i d) c
  | [], v, h, i, d, hi => by simp at hi
  | x :: xs, v, h, i, d, hi => by
    simp only [RelL] at h; obtain ⟨c, cs, rfl, h1, h2⟩ := h
    cases i with
    | zero => exact ⟨c, rfl, by simpa using h1⟩
    | succ i => obtain ⟨c', h3, h4⟩ := h2.get i d (by simpa using hi); exact ⟨c', by simpa using h3, by simpa using h4⟩
theorem RelLL.get {C : Ctx} : ∀ {x : List (List AV)} {v : List (List Value)} (_ : RelLL C x v) (i : Nat) (d : List AV) (_ : i < x.length), ∃ c, v[i]? = some c ∧ RelL C (x.getD i d) c
  | [], v, h, i, d, hi => by simp at hi
  | x :: xs, v, h, i, d, hi => by
    simp only [RelLL] at h; obtain ⟨c, cs, rfl, h1, h2⟩ := h
    cases i with
    | zero => exact ⟨c, rfl, by simpa using h1⟩
    | succ i => obtain ⟨c', h3, h4⟩ := h2.get i d (by simpa using hi); exact ⟨c', by simpa using h3, by simpa using h4⟩
theorem RelL.take {C : Ctx} : ∀ {x : List AV} {v : List Value} (_ : RelL C x v) (n : Nat), RelL C (x.take n) (v.take n)
  | [], v, h, n => by simp only [RelL] at h; subst h; simp [RelL]
  | x :: xs, v, h, n => by
    simp only [RelL] at h; obtain ⟨c, cs, rfl, h1, h2⟩ := h
    cases n with
    | zero => simp [RelL]
    | succ n => simpa using RelL.cons h1 (h2.take n)
theorem RelL.drop {C : Ctx} : ∀ {x : List AV} {v : List Value} (_ : RelL C x v) (n : Nat), RelL C (x.drop n) (v.drop n)
  | [], v, h, n => by simp only [RelL] at h; subst h; simp [RelL]
  | x :: xs, v, h, n => by
    have h0 := h
    simp only [RelL] at h; obtain ⟨c, cs, rfl, h1, h2⟩ := h
    cases n with
    | zero => simpa using h0
    | succ n => simpa using h2.drop n
theorem RelLL.take {C : Ctx} : ∀ {x : List (List AV)} {v : List (List Value)} (_ : RelLL C x v) (n : Nat), RelLL C (x.take n) (v.take n)
  | [], v, h, n => by simp only [RelLL] at h; subst h; simp [RelLL]
  | x :: xs, v, h, n => by
    simp only [RelLL] at h; obtain ⟨c, cs, rfl, h1, h2⟩ := h
    cases n with
    | zero => simp [RelLL]
    | succ n => simpa using RelLL.cons h1 (h2.take n)
theorem RelLL.drop {C : Ctx} : ∀ {x : List (List AV)} {v : List (List Value)} (_ : RelLL C x v) (n : Nat), RelLL C (x.drop n) (v.drop n)
  | [], v, h, n => by simp only [RelLL] at h; subst h; simp [RelLL]
  | x :: xs, v, h, n => by
    have h0 := h
    simp only [RelLL] at h; obtain ⟨c, cs, rfl, h1, h2⟩ := h
    cases n with
    | zero => simpa using h0
    | succ n => simpa using h2.drop n

theorem Qf6 {C : Ctx} {x : AV} {v : Value} (hx : Y8 x = true) (h : RelV C x v) : v.oneCell' = true := by
  cases x <;> simp only [Y8, RelV, Bool.false_eq_true] at hx h
  case int => subst h; rfl
  case bool => subst h; rfl
  case str => subst h; rfl
  case sl => rcases h.2 with ⟨_, rfl | ⟨_, a, rfl⟩⟩ | ⟨b, off, cap, css, rfl, _⟩ <;> rfl
  case own => exact h.1
  case ptr => exact h.1
  case elt => exact h.1
  case pp => obtain ⟨_, b, off, cs, rfl, _⟩ := h; rfl
  case fn => obtain ⟨as, bs, rfl, _⟩ := h; rfl

theorem Qkd {x : Value} (h : x.oneCell' = true) : x.cells = #[x] := by
  cases x <;> first | rfl | simp [Value.oneCell'] at h

/-! ## objects -/
/-- A key of a map: a string, or so many numbers. -/
def Qiw : Nat → AV → Prop
  | 0, x => ∃ s, x = .str s ∧ s.size ≤ maxLen
  | n + 1, x => ∃ ls, x = .agg ls ∧ ls.length = n + 1 ∧ ∀ y ∈ ls, ∃ m, y = .int .i64 m ∧ (Lit.int .i64 m).wf = true
def Qdu : List AV → List AV → Bool
  | [], [] => true
  | .int _ a :: xs, .int _ b :: ys => a == b && Qdu xs ys
  | _, _ => false
def Uh : AV → AV → Bool
  | .str a, .str b => a.toList == b.toList
  | .agg a, .agg b => Qdu a b
  | _, _ => false
theorem Qem {l : List AV} (h : ∀ x ∈ l, noref x = true) : YT l = true := by
  induction l with
  | nil => rfl
  | cons x l ih => simp only [YT, Bool.and_eq_true]; exact ⟨h x (by simp), ih fun y hy => h y (by simp [hy])⟩
theorem Qke {n : Nat} {x : AV} (h : Qiw n x) : noref x = true := by
  cases n with
  | zero => obtain ⟨s, rfl, _⟩ := h; rfl
  | succ n =>
    obtain ⟨ls, rfl, _, h⟩ := h
    simp only [noref]
    exact Qem fun y hy => by obtain ⟨m, rfl, _⟩ := h y hy; rfl
theorem UQ : ∀ {l : List AV}, flatOk l = true → l.all Y8 = true
  | [], _ => rfl
  | a :: as, h => by simp only [flatOk, Bool.and_eq_true] at h; simp [h.1.1, UQ h.2]
/-- A row of an own slice: from the million on, a kind of rows that may hold references. -/
def rowB (e : Nat) (r : List AV) : Bool := if e < 1000000 then flatOk r else r.all Y8
theorem rowB.leaf {e : Nat} {r : List AV} (h : rowB e r = true) : r.all Y8 = true := by
  unfold rowB at h; split at h
  · exact UQ h
  · exact h
theorem rowB.flat {e : Nat} {r : List AV} (he : e < 1000000) : rowB e r = flatOk r := if_pos he
theorem rowB.of_flat {e : Nat} {r : List AV} (h : flatOk r = true) : rowB e r = true := by
  unfold rowB; split
  · exact h
  · exact UQ h
theorem Qf7 {a b : List AV} (h1 : flatOk a = true) (h2 : flatOk b = true) : flatOk (a ++ b) = true := by
  induction a with
  | nil => exact h2
  | cons y ys ih => simp only [flatOk, Bool.and_eq_true, List.cons_append] at h1 ⊢; exact ⟨h1.1, ih h1.2⟩
theorem Qix {a : List AV} : ∀ (n : Nat), flatOk a = true → flatOk (a.take n) = true := by
  induction a with
  | nil => intro n _; simp [flatOk]
  | cons y ys ih => intro n h1; cases n with
    | zero => simp [flatOk]
    | succ n => simp only [flatOk, Bool.and_eq_true, List.take_succ_cons] at h1 ⊢; exact ⟨h1.1, ih n h1.2⟩
theorem Qiy {a : List AV} : ∀ (n : Nat), flatOk a = true → flatOk (a.drop n) = true := by
  induction a with
  | nil => intro n _; simp [flatOk]
  | cons y ys ih => intro n h1; cases n with
    | zero => simpa using h1
    | succ n => simp only [flatOk, Bool.and_eq_true, List.drop_succ_cons] at h1 ⊢; exact ih n h1.2
theorem rowB.append {e : Nat} {a b : List AV} (h1 : rowB e a = true) (h2 : rowB e b = true) : rowB e (a ++ b) = true := by
  unfold rowB at *; split at h1
  · rw [if_pos (by assumption)] at h2 ⊢; exact Qf7 h1 h2
  · rw [if_neg (by assumption)] at h2 ⊢; rw [List.all_append, h1, h2]; rfl
theorem rowB.take {e : Nat} {a : List AV} (n : Nat) (h1 : rowB e a = true) : rowB e (a.take n) = true := by
  unfold rowB at *; split at h1
  · rw [if_pos (by assumption)]; exact Qix n h1
  · rw [if_neg (by assumption)]; rw [List.all_eq_true] at h1 ⊢; exact fun x hx => h1 x (List.mem_of_mem_take hx)
theorem rowB.drop {e : Nat} {a : List AV} (n : Nat) (h1 : rowB e a = true) : rowB e (a.drop n) = true := by
  unfold rowB at *; split at h1
  · rw [if_pos (by assumption)]; exact Qiy n h1
  · rw [if_neg (by assumption)]; rw [List.all_eq_true] at h1 ⊢; exact fun x hx => h1 x (List.mem_of_mem_drop hx)
def objAt (C : Ctx) (hv : Value) : AObj → Prop
  | .box ls => ∃ b cs ty, hv = .pointer (some ⟨b, 0, none⟩) ∧ C.w.heap[b]? = some (.cells (List.toArray cs) ty (0, 0)) ∧ RelL C ls cs ∧ ls.all Y8 = true
  | .arr e _ sz xs => ∃ css, RelLL C xs css ∧ (∀ r ∈ css, r.length = sz) ∧ C.w.ownsRow 0 (e % 1000000) sz hv xs.length css.flatten ∧ (∀ r ∈ xs, rowB e r = true)
  | .gone => blkOf hv = none
  | .mp kk es => ∃ b ents clock, hv = .map (some b) ∧ C.w.heap[b]? = some (.map ents clock) ∧ RelL C (es.map (·.1)) (ents.toList.map (·.key)) ∧ RelL C (es.map (·.2)) (ents.toList.map (·.val)) ∧
      (∀ e ∈ es, Qiw (kk % 1000) e.1 ∧ (1000 ≤ kk ∨ noref e.2 = true)) ∧ es.Pairwise fun e f => Uh e.1 f.1 = false
theorem Qb2 {kk : Nat} {es : List (AV × AV)} (h : ∀ e ∈ es, Qiw (kk % 1000) e.1 ∧ (1000 ≤ kk ∨ noref e.2 = true)) : YT (es.map (·.1)) = true :=
  Qem fun x hx => by obtain ⟨e, he, rfl⟩ := List.mem_map.1 hx; exact Qke (h e he).1
theorem Qen {kk : Nat} {es : List (AV × AV)} (hk : kk < 1000) (h : ∀ e ∈ es, Qiw (kk % 1000) e.1 ∧ (1000 ≤ kk ∨ noref e.2 = true)) : YT (es.map (·.2)) = true :=
  Qem fun x hx => by obtain ⟨e, he, rfl⟩ := List.mem_map.1 hx; exact (h e he).2.resolve_left (by omega)

/-- What the package variables hold. -/
def globOk (C : Ctx) : Prop := ∀ g ls, Qrh g = some ls → flatOk ls = true ∧ C.ok 97 g ∧ ∃ cs, RelL C ls cs ∧ cellsAt C.w g 0 cs ∧ ∃ ty fz, C.w.heap[g]? = some (.cells (List.toArray cs) ty fz)
theorem globOk.okx {C C' : Ctx} (h : Okx C C') (k : globOk C) : globOk C' := fun g ls hg => by
  obtain ⟨h1, h2, cs, h3, h4, ty, fz, h5⟩ := k g ls hg
  exact ⟨h1, (h.ok 97 g h2).1, cs, RelL.norefs h ls cs (flatOk.noref h1) h3, h4.same (h.ok 97 g h2).2, ty, fz, (h.ok 97 g h2).2.trans h5⟩
structure WfM (C : Ctx) : Prop where
  obj : ∀ o obj, C.M o = some obj → ∃ hv, C.loc o = some hv ∧ objAt C hv obj
  dom : ∀ o hv, C.loc o = some hv → ∃ obj, C.M o = some obj
  inj : ∀ o o' hv hv' b, C.loc o = some hv → C.loc o' = some hv' → blkOf hv = some b → blkOf hv' = some b → o = o'
  glob : globOk C

theorem Qak {w w' : World} {e : TypeId} {sz : Nat} {v : Value} {n : Nat} {xs : List Value} (h : w.ownsRow 0 e sz v n xs) (hb : ∀ b, blkOf v = some b → w'.heap[b]? = w.heap[b]?) : w'.ownsRow 0 e sz v n xs := by
  refine ⟨h.1, ?_⟩
  rcases h.2 with h | ⟨g, cap, cur, rfl, h1, h2, h3⟩
  · exact .inl h
  · exact .inr ⟨g, cap, cur, rfl, h1, by rw [hb g rfl]; exact h2, h3⟩

theorem objAt.mono {C C' : Ctx} (h : Ext C C') {hv : Value} {obj : AObj} (ho : objAt C hv obj) (hb : ∀ b, blkOf hv = some b → C'.w.heap[b]? = C.w.heap[b]?) : objAt C' hv obj := by
  cases obj with
  | box ls =>
    obtain ⟨b, cs, ty, rfl, h1, h2, h3⟩ := ho
    exact ⟨b, cs, ty, rfl, by rw [hb b rfl]; exact h1, h2.mono h, h3⟩
  | arr e ver sz xs =>
    obtain ⟨css, h1, h2, h3, h4⟩ := ho
    exact ⟨css, h1.mono h, h2, Qak h3 hb, h4⟩
  | gone => exact ho
  | mp kk es =>
    obtain ⟨b, ents, clock, rfl, h1, h2, h3, h4, h5⟩ := ho
    exact ⟨b, ents, clock, rfl, by rw [hb b rfl]; exact h1, h2.mono h, h3.mono h, h4, h5⟩

theorem objAt.lt {C : Ctx} {hv : Value} {obj : AObj} (ho : objAt C hv obj) {b : Nat} (hb : blkOf hv = some b) : b < C.w.heap.size := by
  cases obj with
  | box ls =>
    obtain ⟨b', cs, ty, rfl, h1, h2⟩ := ho
    simp [blkOf] at hb; subst hb
    exact (Array.getElem?_eq_some_iff.1 h1).1
  | arr e ver sz xs =>
    obtain ⟨css, h1, h2, h3, h4⟩ := ho
    rcases h3.2 with ⟨rfl, _⟩ | ⟨g, cap, cur, rfl, _, hg, _⟩
    · simp [blkOf] at hb
    · simp [blkOf] at hb; subst hb; exact (Array.getElem?_eq_some_iff.1 hg).1
  | gone => simp [objAt, hb] at ho
  | mp kk es =>
    obtain ⟨b', ents, clock, rfl, h1, _⟩ := ho
    simp [blkOf] at hb; subst hb
    exact (Array.getElem?_eq_some_iff.1 h1).1

theorem WfM.lt {C : Ctx} (h : WfM C) {b : Nat} (hb : C.ownB b) : b < C.w.heap.size := by
  obtain ⟨o, v, h1, h2⟩ := hb
  obtain ⟨obj, h3⟩ := h.dom o v h1
  obtain ⟨hv, h4, h5⟩ := h.obj o obj h3
  rw [h1] at h4; cases h4
  exact h5.lt h2

/-- What stays fixed through one call. -/
structure A0 where
  io : Nat → Nat → Prop
  w0 : World
  np : Nat
  old : Nat → Nat → Prop
  n : Nat

structure Ev (w0 w : World) (old : Nat → Prop) : Prop where
  os : w.os = w0.os
  tape : w.tape = w0.tape
  output : w.output = w0.output
  size : w0.heap.size ≤ w.heap.size
  block : ∀ b, b < w0.heap.size → ¬ old b → w.heap[b]? = w0.heap[b]?

theorem Ev.refl (w : World) (old : Nat → Prop) : Ev w w old := ⟨rfl, rfl, rfl, Nat.le_refl _, fun _ _ _ => rfl⟩

structure Inv (A : A0) (C : Ctx) : Prop where
  io : C.io = A.io
  np : A.np ≤ 100
  fresh : (∀ b, A.w0.heap.size ≤ b → A.io 0 b) ∧ ∀ b, ¬ A.io 98 b
  wf : WfM C
  oldnp : ∀ o b, A.old o b → o % 1000 < A.np
  ev : Ev A.w0 C.w (fun b => ∃ o, A.old o b)
  new : ∀ o hv b, C.loc o = some hv → blkOf hv = some b → A.w0.heap.size ≤ b ∨ A.old o b

/-- One step of the world: nothing but one object's block may have turned. -/
structure Grow (w w' : World) (but : Option Nat) : Prop where
  os : w'.os = w.os
  tape : w'.tape = w.tape
  output : w'.output = w.output
  size : w.heap.size ≤ w'.heap.size
  block : ∀ b, b < w.heap.size → some b ≠ but → w'.heap[b]? = w.heap[b]?

theorem Grow.refl (w : World) (but : Option Nat) : Grow w w but := ⟨rfl, rfl, rfl, Nat.le_refl _, fun _ _ _ => rfl⟩
theorem Grow.alloc (w : World) (o : Obj) (but : Option Nat) : Grow w (w.alloc o) but :=
  ⟨rfl, rfl, rfl, by simp, fun b hb _ => heap_alloc_old w o b hb⟩
theorem Grow.drew (w : World) (but : Option Nat) : Grow w w.drew but := ⟨rfl, rfl, rfl, Nat.le_refl _, fun _ _ _ => rfl⟩
theorem Grow.trans {a b c : World} {but : Option Nat} (h : Grow a b but) (k : Grow b c but) : Grow a c but :=
  ⟨k.os.trans h.os, k.tape.trans h.tape, k.output.trans h.output, Nat.le_trans h.size k.size,
   fun x hx hne => (k.block x (Nat.lt_of_lt_of_le hx h.size) hne).trans (h.block x hx hne)⟩
theorem Grow.of_grownBy {w w' : World} {row : Option Nat} (h : w.grownBy w' row) : Grow w w' row := ⟨h.os, h.tape, h.output, h.size, h.block⟩

/-- No object turns: the world has grown. -/
theorem Inv.grow {A : A0} {C : Ctx} (h : Inv A C) {w' : World} (hg : Grow C.w w' none) :
    Inv A { C with w := w' } ∧ Ext C { C with w := w' } := by
  have hext : Ext C { C with w := w' } := by
    refine ⟨fun t b hb => ⟨⟨hb.1, Nat.lt_of_lt_of_le hb.2.1 hg.size, hb.2.2⟩, hg.block b hb.2.1 (by simp)⟩, fun o obj hv h1 h2 => ⟨obj, hv, h1, h2, ?_⟩⟩
    cases obj <;> simp [objLe]
  refine ⟨⟨h.io, h.np, h.fresh, ⟨fun o obj ho => ?_, h.wf.dom, h.wf.inj, globOk.okx ⟨hext.ok⟩ h.wf.glob⟩, h.oldnp, ?_, h.new⟩, hext⟩
  · obtain ⟨hv, h1, h2⟩ := h.wf.obj o obj ho
    exact ⟨hv, h1, h2.mono hext fun b hb => hg.block b (h2.lt hb) (by simp)⟩
  · exact ⟨hg.os.trans h.ev.os, hg.tape.trans h.ev.tape, hg.output.trans h.ev.output, Nat.le_trans h.ev.size hg.size,
      fun b hb ho => (hg.block b (Nat.lt_of_lt_of_le hb h.ev.size) (by simp)).trans (h.ev.block b hb ho)⟩

def ZA {α : Type} (f : Nat → Option α) (o : Nat) (x : α) : Nat → Option α := fun k => if k = o then some x else f k

/-- One object turns, or is new. -/
theorem Inv.upd {A : A0} {C : Ctx} (h : Inv A C) {w' : World} {o : Nat} {obj' : AObj} {hv' : Value}
    (hg : Grow C.w w' ((C.loc o).bind blkOf))
    (hb : ∀ b, blkOf hv' = some b → C.w.heap.size ≤ b ∨ (∃ hv, C.loc o = some hv ∧ blkOf hv = some b))
    (hle : ∀ obj hv, C.M o = some obj → C.loc o = some hv → objLe obj hv obj' hv')
    (hobj : Ext C ⟨C.io, w', ZA C.loc o hv', ZA C.M o obj'⟩ → objAt ⟨C.io, w', ZA C.loc o hv', ZA C.M o obj'⟩ hv' obj') :
    Inv A ⟨C.io, w', ZA C.loc o hv', ZA C.M o obj'⟩ ∧ Ext C ⟨C.io, w', ZA C.loc o hv', ZA C.M o obj'⟩ := by
  have hext : Ext C ⟨C.io, w', ZA C.loc o hv', ZA C.M o obj'⟩ := by
    refine ⟨fun t b hok => ?_, fun o' obj hv h1 h2 => ?_⟩
    · have hne : some b ≠ (C.loc o).bind blkOf := by
        intro e
        cases hl : C.loc o with
        | none => rw [hl] at e; simp at e
        | some v => rw [hl] at e; exact hok.2.2 ⟨o, v, hl, by simpa using e.symm⟩
      refine ⟨⟨hok.1, Nat.lt_of_lt_of_le hok.2.1 hg.size, ?_⟩, hg.block b hok.2.1 hne⟩
      rintro ⟨o', v, h1, h2⟩
      simp only [ZA] at h1
      split at h1
      · cases h1
        rcases hb b h2 with h3 | ⟨hv, h3, h4⟩
        · have := hok.2.1; omega
        · exact hok.2.2 ⟨o, hv, h3, h4⟩
      · exact hok.2.2 ⟨o', v, h1, h2⟩
    · by_cases ho : o' = o
      · subst ho
        exact ⟨obj', hv', by simp [ZA], by simp [ZA], hle obj hv h1 h2⟩
      · refine ⟨obj, hv, by simp [ZA, ho, h1], by simp [ZA, ho, h2], ?_⟩
        cases obj <;> simp [objLe]
  refine ⟨⟨h.io, h.np, h.fresh, ⟨fun o' obj hM => ?_, fun o' hv hl => ?_, fun o1 o2 v1 v2 b h1 h2 h3 h4 => ?_, globOk.okx ⟨hext.ok⟩ h.wf.glob⟩, h.oldnp, ?_, fun o' hv b hl hbk => ?_⟩, hext⟩
  · by_cases ho : o' = o
    · subst ho
      simp [ZA] at hM; subst hM
      exact ⟨hv', by simp [ZA], hobj hext⟩
    · simp [ZA, ho] at hM
      obtain ⟨hv, h1, h2⟩ := h.wf.obj o' obj hM
      refine ⟨hv, by simp [ZA, ho, h1], h2.mono hext fun b hbk => hg.block b (h2.lt hbk) ?_⟩
      intro e
      cases hl : C.loc o with
      | none => rw [hl] at e; simp at e
      | some v => rw [hl] at e; exact ho (h.wf.inj o' o hv v b h1 hl hbk (by simpa using e.symm))
  · by_cases ho : o' = o
    · exact ⟨obj', by simp [ZA, ho]⟩
    · simp [ZA, ho] at hl
      obtain ⟨obj, h1⟩ := h.wf.dom o' hv hl
      exact ⟨obj, by simp [ZA, ho, h1]⟩
  · have key : ∀ (x : Nat) (v : Value), x ≠ o → C.loc x = some v → blkOf v = some b → blkOf hv' = some b → False := by
      intro x v hx hl hbv hbv'
      rcases hb b hbv' with h5 | ⟨hv, h5, h6⟩
      · have := h.wf.lt ⟨x, v, hl, hbv⟩; omega
      · exact hx (h.wf.inj x o v hv b hl h5 hbv h6)
    by_cases e1 : o1 = o <;> by_cases e2 : o2 = o
    · rw [e1, e2]
    · simp [ZA, e1] at h1; simp [ZA, e2] at h2; subst h1; exact (key o2 v2 e2 h2 h4 h3).elim
    · simp [ZA, e1] at h1; simp [ZA, e2] at h2; subst h2; exact (key o1 v1 e1 h1 h3 h4).elim
    · simp [ZA, e1] at h1; simp [ZA, e2] at h2; exact h.wf.inj o1 o2 v1 v2 b h1 h2 h3 h4
  · refine ⟨hg.os.trans h.ev.os, hg.tape.trans h.ev.tape, hg.output.trans h.ev.output, Nat.le_trans h.ev.size hg.size, fun b hbl hbo => ?_⟩
    refine (hg.block b (Nat.lt_of_lt_of_le hbl h.ev.size) ?_).trans (h.ev.block b hbl hbo)
    intro e
    cases hl : C.loc o with
    | none => rw [hl] at e; simp at e
    | some v =>
      rw [hl] at e
      rcases h.new o v b hl (by simpa using e.symm) with h5 | h5
      · omega
      · exact hbo ⟨o, h5⟩
  · by_cases ho : o' = o
    · subst ho
      simp [ZA] at hl; subst hl
      rcases hb b hbk with h5 | ⟨hv0, h5, h6⟩
      · exact .inl (Nat.le_trans h.ev.size h5)
      · exact h.new o' hv0 b h5 h6
    · simp [ZA, ho] at hl
      exact h.new o' hv b hl hbk
end Go.Ve

namespace Go.Ve

inductive SX where
  | v (k : Nat)
  | c (x : AV)
  | g (k : Nat)
  deriving Inhabited

inductive LK where
  | int | bool | str
  deriving Inhabited, DecidableEq

inductive SOp where
  | mv (x : SX)
  | newnil (o e sz : Nat)
  | pick (c a b : SX)
  | bin (op : BinOp) (x y : SX)
  | binN (op : BinOp) (x y : SX)
  | neg (x : SX)
  | not (x : SX)
  | eqB (neg : Bool) (x y : SX)
  | eqS (neg : Bool) (ks : List LK) (x y : SX)
  | conv (k : IntKind) (x : SX)
  | alloc (o : Nat) (zs : List AV)
  | box (o : Nat) (x : SX)
  | load1 (x : SX)
  | loadN (n : Nat) (x : SX)
  | store (n : Nat) (x y : SX)
  | nilck (x : SX)
  | faddr (off : Nat) (x : SX)
  | field1 (off : Nat) (x : SX)
  | fieldN (off n : Nat) (x : SX)
  | iaddr (sz : Nat) (x i : SX)
  | istr (x i : SX)
  | slStr (x : SX) (lo hi : Option SX)
  | slSl (sz : Nat) (x : SX) (lo hi : Option SX)
  | lenS (x : SX)
  | lenL (x : SX)
  | mx (x y : SX)
  | mn (x y : SX)
  | ext (i : Nat) (x : SX)
  | build (zs : List AV) (parts : List (Nat × Nat × SX))
  | lit (e sz : Nat) (parts : List SX)
  | litOwn (o e sz : Nat) (parts : List SX)
  | app (o e sz : Nat) (x y : SX)
  | appN (o e sz : Nat) (x y : SX)
  | mk (o e sz : Nat) (zs : List AV) (n : SX)
  | mvfrz (x : SX)
  | call (f : FuncId) (args : List SX)
  | clos (f : FuncId) (caps : List SX)
  | callV (x : SX) (args : List SX)
  | b2s (x : SX)
  | mkmap (o kk : Nat)
  | look (ok : Bool) (kk : Nat) (z : AV) (m k : SX)
  | mset (kk : Nat) (m k x : SX)
  | idx (n : Nat) (x i : SX)
  | idxN (n sz : Nat) (x i : SX)
  | iaddrA (n sz : Nat) (x i : SX)
  | isnil (neg : Bool) (x : SX)
  deriving Inhabited

structure Eff where
  pre : Prop
  v : AV
  ups : List (Nat × AObj)

def getE : List (Nat × AV) → Nat → AV
  | [], _ => .junk
  | (k, v) :: r, d => if d = k then v else getE r d
def Qhb : List (Nat × AV) → Nat → AV → List (Nat × AV)
  | [], d, v => [(d, v)]
  | (k, x) :: r, d, v => if d = k then (k, v) :: r else (k, x) :: Qhb r d v
def getM : List (Nat × AObj) → Nat → Option AObj
  | [], _ => none
  | (k, v) :: r, d => if d = k then some v else getM r d
def Xx : List (Nat × AObj) → Nat → AObj → List (Nat × AObj)
  | [], d, v => [(d, v)]
  | (k, x) :: r, d, v => if d = k then (k, v) :: r else (k, x) :: Xx r d v

theorem UW (E : List (Nat × AV)) (d k : Nat) (v : AV) : getE (Qhb E d v) k = if k = d then v else getE E k := by
  induction E with
  | nil => simp [Qhb, getE]
  | cons h t ih =>
    obtain ⟨j, x⟩ := h
    by_cases e : d = j
    · subst e; by_cases e2 : k = d <;> simp [Qhb, getE, e2]
    · by_cases e2 : k = j
      · subst e2; simp [Qhb, getE, e, Ne.symm e]
      · simp [Qhb, getE, e, e2, ih]
theorem Qb3 (E : List (Nat × AObj)) (d k : Nat) (v : AObj) : getM (Xx E d v) k = if k = d then some v else getM E k := by
  induction E with
  | nil => simp [Xx, getM]
  | cons h t ih =>
    obtain ⟨j, x⟩ := h
    by_cases e : d = j
    · subst e; by_cases e2 : k = d <;> simp [Xx, getM, e2]
    · by_cases e2 : k = j
      · subst e2; simp [Xx, getM, e, Ne.symm e]
      · simp [Xx, getM, e, e2, ih]
theorem Xd (E : List (Nat × AObj)) (d : Nat) (v : AObj) : getM (Xx E d v) = ZA (getM E) d v := by
  funext k; rw [Qb3]; rfl

def Qqq (k : Nat) : AV := match Qrh k with | some ls => .pp 97 ls | none => .junk
def ev (E : Nat → AV) : SX → AV
  | .v k => E k
  | .c x => x
  | .g k => Qqq k

def YL : AV → List AV
  | .agg ls => ls
  | x => [x]
def YB (ls : List AV) (off : Nat) (new : List AV) : List AV := ls.take off ++ new ++ ls.drop (off + new.length)

def bad : Eff := ⟨False, .junk, []⟩
def ok1 (v : AV) : Eff := ⟨True, v, []⟩

def QkX (op : BinOp) (k : IntKind) (x y : Int) : Int :=
  let a := BitVec.ofInt k.bits x
  let b := BitVec.ofInt k.bits y
  match op with
  | .and => k.wrap (a &&& b).toNat
  | .or => k.wrap (a ||| b).toNat
  | .xor => k.wrap (a ^^^ b).toNat
  | _ => k.wrap (a &&& ~~~b).toNat

/-- '==' of YL, all plain. -/
def Qhg : LK → AV → AV → Option Bool
  | .int, .int k a, .int k' b => if k = k' then some (a == b) else none
  | .bool, .bool a, .bool b => some (a == b)
  | .str, .str a, .str b => some (a.toList == b.toList)
  | _, _, _ => none
def Qod : List LK → List AV → List AV → Option Bool
  | [], [], [] => some true
  | k :: ks, x :: xs, y :: ys => match Qhg k x y, Qod ks xs ys with
    | some a, some b => some (a && b)
    | _, _ => none
  | _, _, _ => none

def JB (op : BinOp) (x y : AV) : Eff :=
  match x, y with
  | .int k a, .int k' b =>
    match op with
    | .add => ⟨k = k', .int k (k.wrap (a + b)), []⟩
    | .sub => ⟨k = k', .int k (k.wrap (a - b)), []⟩
    | .mul => ⟨k = k', .int k (k.wrap (a * b)), []⟩
    | .quo => ⟨k = k' ∧ b ≠ 0, .int k (k.wrap (a.tdiv b)), []⟩
    | .rem => ⟨k = k' ∧ b ≠ 0, .int k (a.tmod b), []⟩
    | .eql => ⟨k = k', .bool (a == b), []⟩
    | .neq => ⟨k = k', .bool (a != b), []⟩
    | .lss => ⟨k = k', .bool (decide (a < b)), []⟩
    | .leq => ⟨k = k', .bool (decide (a ≤ b)), []⟩
    | .gtr => ⟨k = k', .bool (decide (b < a)), []⟩
    | .geq => ⟨k = k', .bool (decide (b ≤ a)), []⟩
    | .and | .or | .xor | .andNot => ⟨k = k', .int k (QkX op k a b), []⟩
    | _ => bad
  | .str a, .str b =>
    match op with
    | .add => ⟨a.toList.length + b.toList.length ≤ 9223372036854775807, .str (a ++ b), []⟩
    | .eql => ok1 (.bool (a.toList == b.toList))
    | .neq => ok1 (.bool (!(a.toList == b.toList)))
    | .lss => ok1 (.bool (Op.bytesLess a.toList b.toList))
    | .leq => ok1 (.bool (Op.bytesLess a.toList b.toList || a.toList == b.toList))
    | .gtr => ok1 (.bool (!(Op.bytesLess a.toList b.toList || a.toList == b.toList)))
    | .geq => ok1 (.bool (!Op.bytesLess a.toList b.toList))
    | _ => bad
  | _, _ => bad

def QO (op : BinOp) (x y : AV) : Eff :=
  match x, y with
  | .int .i64 a, .int .i64 b =>
    match op with
    | .add => ⟨-9223372036854775808 ≤ a + b ∧ a + b ≤ 9223372036854775807, .int .i64 (a + b), []⟩
    | .sub => ⟨-9223372036854775808 ≤ a - b ∧ a - b ≤ 9223372036854775807, .int .i64 (a - b), []⟩
    | .mul => ⟨-9223372036854775808 ≤ a * b ∧ a * b ≤ 9223372036854775807, .int .i64 (a * b), []⟩
    | .quo => ⟨0 ≤ a ∧ 0 < b ∧ a ≤ 9223372036854775807, .int .i64 (a / b), []⟩
    | .rem => ⟨0 ≤ a ∧ 0 < b, .int .i64 (a % b), []⟩
    | _ => bad
  | _, _ => bad

def Zj (M : Nat → Option AObj) (x : AV) (k : List AV → Eff) : Eff :=
  match x with
  | .ptr o off => match M o with | some (.box ls) => k (ls.drop off) | _ => bad
  | .elt o ver i off => match M o with | some (.arr _ cv _ xs) => let r := k ((xs.getD i []).drop off); ⟨ver = cv ∧ r.pre, r.v, r.ups⟩ | _ => bad
  | .pp _ ls => k ls
  | _ => bad

def JD (ls : List AV) : Eff := match ls with | y :: _ => ok1 y | [] => bad

def Gk (E : Nat → AV) (d : Int) : Option SX → Option Int
  | none => some d
  | some x => match ev E x with | .int _ n => some n | _ => none

def Ql (M : Nat → Option AObj) (sz : Nat) : AV → Prop × List (List AV)
  | .sl _ sz' xs => (sz = sz', xs)
  | .own o ver lo hi => match M o with
    | some (.arr e cv sz' xs) => (sz = sz' ∧ ver = cv ∧ e < 1000000, (xs.take hi).drop lo)
    | _ => (False, [])
  | _ => (False, [])
/-- The same, of rows that may hold references. -/
def KF (M : Nat → Option AObj) (sz : Nat) : AV → Prop × List (List AV)
  | .sl _ sz' xs => (sz = sz', xs)
  | .own o ver lo hi => match M o with
    | some (.arr _ cv sz' xs) => (sz = sz' ∧ ver = cv, (xs.take hi).drop lo)
    | _ => (False, [])
  | _ => (False, [])

def JC (M : Nat → Option AObj) (off : Nat) (x : AV) : Eff :=
  match x with
  | .ptr o k => match M o with | some (.box _) => ok1 (.ptr o (k + off)) | _ => bad
  | .elt o ver i k => match M o with | some (.arr _ cv _ _) => ⟨ver = cv, .elt o ver i (k + off), []⟩ | _ => bad
  | .pp t ls => ok1 (.pp t (ls.drop off))
  | _ => bad
def Qbl (M : Nat → Option AObj) (sz : Nat) (i : Int) (x : AV) : Eff :=
  match x with
  | .sl t sz' xs => ⟨sz = sz' ∧ 0 ≤ i ∧ i < xs.length, .pp t (xs.getD i.toNat []), []⟩
  | .own o ver lo hi => match M o with
    | some (.arr _ cv sz' _) => ⟨sz = sz' ∧ ver = cv ∧ 0 ≤ i ∧ i < ((hi - lo : Nat) : Int), .elt o ver (lo + i.toNat) 0, []⟩
    | _ => bad
  | _ => bad

def Yw (E : Nat → AV) (M : Nat → Option AObj) (o e sz : Nat) (x : SX) (r : Prop × List (List AV)) : Eff :=
  match x with
  | .c (.sl _ _ xs) => ⟨xs = [] ∧ M o = none ∧ r.1 ∧ r.2.length ≤ 4294967296, .own o 0 0 r.2.length, [(o, .arr e 0 sz r.2)]⟩
  | .v k => match E k with
    | .own o' ver lo hi => match M o with
      | some (.arr e' cv sz' xs) => ⟨o = o' ∧ e = e' ∧ sz = sz' ∧ ver = cv ∧ lo = 0 ∧ r.1 ∧ hi + r.2.length ≤ 4294967296, .own o (cv + 1) 0 (hi + r.2.length), [(o, .arr e (cv + 1) sz (xs.take hi ++ r.2))]⟩
      | _ => bad
    | _ => bad
  | _ => bad

def Qhh : List AV → Bool
  | [.int .u8 n] => decide (0 ≤ n) && decide (n ≤ 255)
  | _ => false
def Qjj : List AV → UInt8
  | [.int _ n] => UInt8.ofNat n.toNat
  | _ => 0
def Qeo (xs : List (List AV)) : ByteArray := ⟨(xs.map Qjj).toArray⟩
def GU (r : Prop × List (List AV)) : Eff := ⟨r.1 ∧ r.2.all Qhh = true, .str (Qeo r.2), []⟩
/-! maps -/
def QmM : List (AV × AV) → AV → Bool
  | [], _ => false
  | (a, _) :: r, k => Uh a k || QmM r k
def Qba : List (AV × AV) → AV → AV → AV
  | [], _, z => z
  | (a, b) :: r, k, z => if Uh a k then b else Qba r k z
def W0 : List (AV × AV) → AV → AV → List (AV × AV)
  | [], k, x => [(k, x)]
  | (a, b) :: r, k, x => if Uh a k then (a, x) :: r else (a, b) :: W0 r k x
def G1 (M : Nat → Option AObj) (ok : Bool) (kk' : Nat) (z k : AV) : AV → Eff
  | .ptr o _ => match M o with
    | some (.mp kk es) => ⟨kk = kk' ∧ Qiw (kk % 1000) k, if ok then .tup [Qba es k z, .bool (QmM es k)] else Qba es k z, []⟩
    | _ => bad
  | _ => bad
def G2 (M : Nat → Option AObj) (kk' : Nat) (k x : AV) : AV → Eff
  | .ptr o _ => match M o with
    | some (.mp kk es) => ⟨kk = kk' ∧ Qiw (kk % 1000) k ∧ (1000 ≤ kk ∨ noref x = true), .junk, [(o, .mp kk (W0 es k x))]⟩
    | _ => bad
  | _ => bad
/-- What an operation does. -/
def eff (s : SOp) (E : Nat → AV) (M : Nat → Option AObj) : Eff :=
  match s with
  | .mv x => ok1 (ev E x)
  | .newnil o e sz => ⟨M o = none, .own o 0 0 0, [(o, .arr e 0 sz [])]⟩
  | .pick c a b => match ev E c with | .bool true => ok1 (ev E a) | .bool false => ok1 (ev E b) | _ => bad
  | .bin op x y => JB op (ev E x) (ev E y)
  | .binN op x y => QO op (ev E x) (ev E y)
  | .neg x => match ev E x with | .int k n => ok1 (.int k (k.wrap (0 - n))) | _ => bad
  | .not x => match ev E x with | .bool b => ok1 (.bool (!b)) | _ => bad
  | .eqB neg x y => match ev E x, ev E y with | .bool a, .bool b => ok1 (.bool (if neg then !(a == b) else a == b)) | _, _ => bad
  | .eqS neg ks x y => match ev E x, ev E y with
    | .agg a, .agg b => match Qod ks a b with | some r => ok1 (.bool (if neg then !r else r)) | none => bad
    | _, _ => bad
  | .conv k x => match ev E x with | .int _ n => ok1 (.int k (k.wrap n)) | _ => bad
  | .alloc o zs => ⟨M o = none, .ptr o 0, [(o, .box zs)]⟩
  | .box o x => ⟨M o = none ∧ (YL (ev E x)).all Y8 = true, .ptr o 0, [(o, .box (YL (ev E x)))]⟩
  | .load1 x => Zj M (ev E x) JD
  | .loadN n x => Zj M (ev E x) fun ls => ⟨n ≤ ls.length, .agg (ls.take n), []⟩
  | .store n x y =>
    match ev E x with
    | .ptr o off => match M o with
      | some (.box ls) => ⟨(YL (ev E y)).all Y8 = true ∧ (YL (ev E y)).length = n ∧ off + n ≤ ls.length, .junk, [(o, .box (YB ls off (YL (ev E y))))]⟩
      | _ => bad
    | .elt o ver i off => match M o with
      | some (.arr e cv sz xs) => ⟨ver = cv ∧ (if e < 1000000 then flatOk (YL (ev E y)) else (YL (ev E y)).all Y8) = true ∧ (YL (ev E y)).length = n ∧ off + n ≤ sz, .junk, [(o, .arr e cv sz (xs.set i (YB (xs.getD i []) off (YL (ev E y)))))]⟩
      | _ => bad
    | _ => bad
  | .nilck x => match ev E x with
    | .ptr o off => match M o with | some (.box _) => ok1 (.ptr o off) | _ => bad
    | .elt o ver i off => match M o with | some (.arr _ cv _ _) => ⟨ver = cv, .elt o ver i off, []⟩ | _ => bad
    | .pp t ls => ok1 (.pp t ls)
    | _ => bad
  | .faddr off x => JC M off (ev E x)
  | .field1 off x => match ev E x with | .agg ls => ⟨off < ls.length, ls.getD off .junk, []⟩ | _ => bad
  | .fieldN off n x => match ev E x with | .agg ls => ⟨off + n ≤ ls.length, .agg ((ls.drop off).take n), []⟩ | _ => bad
  | .iaddr sz x i => match ev E i with
    | .int _ i => Qbl M sz i (ev E x)
    | _ => bad
  | .istr x i => match ev E x, ev E i with
    | .str s, .int _ i => ⟨0 ≤ i ∧ i < s.toList.length, .int .u8 ((s.toList.getD i.toNat 0).toNat : Int), []⟩
    | _, _ => bad
  | .slStr x lo hi => match ev E x with
    | .str s => match Gk E 0 lo, Gk E s.toList.length hi with
      | some l, some h => ⟨0 ≤ l ∧ l ≤ h ∧ h ≤ s.toList.length, .str (s.extract l.toNat h.toNat), []⟩
      | _, _ => bad
    | _ => bad
  | .slSl sz x lo hi => match ev E x with
    | .sl t sz' xs => match Gk E 0 lo, Gk E xs.length hi with
      | some l, some h => ⟨sz = sz' ∧ 0 ≤ l ∧ l ≤ h ∧ h ≤ xs.length, .sl t sz ((xs.take h.toNat).drop l.toNat), []⟩
      | _, _ => bad
    | .own o ver lo0 hi0 => match M o with
      | some (.arr _ cv sz' _) => match Gk E 0 lo, Gk E ((hi0 - lo0 : Nat) : Int) hi with
        | some l, some h => ⟨sz = sz' ∧ ver = cv ∧ lo0 = 0 ∧ 0 ≤ l ∧ l ≤ h ∧ h ≤ ((hi0 - lo0 : Nat) : Int), .own o ver l.toNat h.toNat, []⟩
        | _, _ => bad
      | _ => bad
    | _ => bad
  | .lenS x => match ev E x with | .str s => ok1 (.int .i64 s.toList.length) | _ => bad
  | .lenL x => match ev E x with
    | .sl _ _ xs => ok1 (.int .i64 xs.length)
    | .own o ver lo hi => match M o with | some (.arr _ cv _ _) => ⟨ver = cv, .int .i64 ((hi - lo : Nat) : Int), []⟩ | _ => bad
    | _ => bad
  | .mx x y => match ev E x, ev E y with | .int k a, .int k' b => ⟨k = k', .int k (if b > a then b else a), []⟩ | _, _ => bad
  | .mn x y => match ev E x, ev E y with | .int k a, .int k' b => ⟨k = k', .int k (if b < a then b else a), []⟩ | _, _ => bad
  | .ext i x => match ev E x with | .tup vs => ⟨i < vs.length, vs.getD i .junk, []⟩ | _ => bad
  | .build zs parts => ⟨∀ p ∈ parts, (YL (ev E p.2.2)).length = p.2.1 ∧ (YL (ev E p.2.2)).all Y8 = true, .agg (parts.foldl (fun ls p => YB ls p.1 (YL (ev E p.2.2))) zs), []⟩
  | .lit _ sz parts => ⟨∀ p ∈ parts, (YL (ev E p)).length = sz ∧ flatOk (YL (ev E p)) = true, .sl 0 sz (parts.map fun p => YL (ev E p)), []⟩
  | .litOwn o e sz parts => ⟨M o = none ∧ ∀ p ∈ parts, (YL (ev E p)).length = sz ∧ (if e < 1000000 then flatOk (YL (ev E p)) else (YL (ev E p)).all Y8) = true, .own o 0 0 parts.length, [(o, .arr e 0 sz (parts.map fun p => YL (ev E p)))]⟩
  | .app o e sz x y => Yw E M o e sz x (Ql M sz (ev E y))
  | .appN o e sz x y => Yw E M o e sz x ((KF M sz (ev E y)).1 ∧ 1000000 ≤ e, (KF M sz (ev E y)).2)
  | .mk o e sz zs n => match ev E n with
    | .int _ n => ⟨M o = none ∧ 0 ≤ n ∧ n ≤ 4294967296, .own o 0 0 n.toNat, [(o, .arr e 0 sz (List.replicate n.toNat zs))]⟩
    | _ => bad
  | .mvfrz x => match ev E x with
    | .own o ver lo hi => match M o with
      | some (.arr e cv sz xs) => ⟨100 ≤ o % 1000 ∧ ver = cv ∧ lo = 0 ∧ e < 1000000, .sl 0 sz (xs.take hi), [(o, .gone)]⟩
      | _ => bad
    | _ => bad
  | .call .. => bad
  | .clos f caps => ok1 (.fn f [] (caps.map (ev E)))
  | .callV .. => bad
  | .b2s x => GU (Ql M 1 (ev E x))
  | .mkmap o kk => ⟨M o = none, .ptr o 0, [(o, .mp kk [])]⟩
  | .look ok kk z m k => G1 M ok kk z (ev E k) (ev E m)
  | .mset kk m k x => G2 M kk (ev E k) (ev E x) (ev E m)
  | .idx m x i => match ev E x, ev E i with
    | .agg ls, .int _ n => ⟨ls.length = m ∧ 0 ≤ n ∧ n < m, ls.getD n.toNat .junk, []⟩
    | _, _ => bad
  | .idxN m sz x i => match ev E x, ev E i with
    | .agg ls, .int _ n => ⟨ls.length = m * sz ∧ 0 ≤ n ∧ n < m, .agg ((ls.drop (n.toNat * sz)).take sz), []⟩
    | _, _ => bad
  | .iaddrA m sz x i => match ev E i with
    | .int _ n => ⟨0 ≤ n ∧ n < m ∧ (JC M (n.toNat * sz) (ev E x)).pre, (JC M (n.toNat * sz) (ev E x)).v, []⟩
    | _ => bad
  | .isnil neg x => match ev E x with
    | .sl _ _ xs => ⟨0 < xs.length, .bool neg, []⟩
    | .own o ver lo hi => match M o with
      | some (.arr _ cv _ _) => ⟨ver = cv ∧ lo < hi, .bool neg, []⟩
      | _ => bad
    | _ => bad

def Qal : Value → AV → Bool
  | .int k n, .int k' m => k == k' && n == m
  | .bool b, .bool c => b == c
  | .string s, .str t => s.toList == t.toList
  | .slice none n c, .sl _ _ xs => n == 0 && c == 0 && xs.isEmpty
  | _, .junk => true
  | _, _ => false
def okX : Operand → SX → Bool
  | .tmp t, .v k => t == k
  | .const v, .c x => Qal v x
  | .func f, .c (.fn g [] []) => f == g
  | .global g, .g k => g == k
  | _, _ => false

theorem Qbx {C : Ctx} {v : Value} {x : AV} (h : Qal v x = true) : RelV C x v := by
  unfold Qal at h
  split at h <;> simp at h
  · obtain ⟨rfl, rfl⟩ := h; simp [RelV]
  · subst h; simp [RelV]
  · rename_i s t
    simp only [RelV, Value.string.injEq]
    have : s.data = t.data := by
      rw [ByteArray.toList_eq, ByteArray.toList_eq] at h
      exact Array.toList_inj.1 h
    cases s; cases t; simp_all
  · obtain ⟨⟨rfl, rfl⟩, rfl⟩ := h; simp [RelV]
  · simp only [RelV]

theorem KG {C : Ctx} (hG : globOk C) {E : List (Nat × AV)} {a : Act} (hE : ∀ k, RelV C (getE E k) (a.tmps.getD k undef)) {x : Operand} {s : SX} (h : okX x s = true) : RelV C (ev (getE E) s) (a.eval x) := by
  unfold okX at h
  split at h
  · simp at h; subst h; exact hE _
  · exact Qbx h
  · simp at h; subst h; simp only [ev, Act.eval, RelV]; exact ⟨[], [], rfl, by simp [RelL], by simp [RelL]⟩
  · simp at h; subst h
    simp only [ev, Qqq, Act.eval]
    split
    · rename_i ls hg
      obtain ⟨h1, h2, cs, h3, h4, _⟩ := hG _ ls hg
      simp only [RelV]; exact ⟨h1, _, 0, cs, rfl, h2, h3, h4⟩
    · simp only [RelV]
  · cases h

/-- One operation's end. -/
def OpTo (A : A0) (C : Ctx) (M' : List (Nat × AObj)) (v' : AV) (r : Result Next) : Prop :=
  ∃ v w' loc', (r = .ok (.value v) w' ∨ (r = .ok .skip w' ∧ v = undef)) ∧ Inv A ⟨C.io, w', loc', getM M'⟩ ∧ Ext C ⟨C.io, w', loc', getM M'⟩ ∧ RelV ⟨C.io, w', loc', getM M'⟩ v' v

theorem Ext.refl (C : Ctx) : Ext C C := ⟨fun t b h => ⟨h, rfl⟩, fun o obj hv h1 h2 => ⟨obj, hv, h1, h2, by cases obj <;> simp [objLe]⟩⟩

theorem OpTo.pure {A : A0} {io : Nat → Nat → Prop} {w : World} {loc : Nat → Option Value} {M : List (Nat × AObj)} (hI : Inv A ⟨io, w, loc, getM M⟩) {v : Value} {v' : AV} {r : Result Next}
    (hr : r = .ok (.value v) w) (h : RelV ⟨io, w, loc, getM M⟩ v' v) : OpTo A ⟨io, w, loc, getM M⟩ M v' r :=
  ⟨v, w, loc, .inl hr, hI, Ext.refl _, h⟩

end Go.Ve

namespace Go.Ve
open Go.RowKit

def Qoe (P : Program) (t : TypeId) : Bool := match P.underlying t with
  | some (.struct _) | some (.array ..) => true
  | _ => false
def UX (P : Program) (t : TypeId) : Bool := match P.underlying t with
  | some (.struct _) | some (.array ..) | none => false
  | _ => true
def Vj (P : Program) (t : TypeId) (n : Nat) : Bool := match P.info? t with | some i => i.size == n | none => false
theorem Qc7 {P : Program} {t : TypeId} {n : Nat} (h : Vj P t n = true) : ∃ i, P.info? t = some i ∧ i.size = n := by
  unfold Vj at h; split at h
  · rename_i i hi; exact ⟨i, hi, by simpa using h⟩
  · cases h
theorem V1 {P : Program} {t : TypeId} (h : Qoe P t = true) (w : World) : (isAgg t).run P w = .ok true w := by
  unfold Qoe at h
  split at h
  · rename_i d hd; simp [isAgg, run_underlying hd]
  · rename_i d hd; simp [isAgg, run_underlying hd]
  · cases h
theorem XM {P : Program} {t : TypeId} (h : UX P t = true) (w : World) : (isAgg t).run P w = .ok false w := by
  unfold UX at h
  cases hd : P.underlying t with
  | none => simp [hd] at h
  | some d => simp only [isAgg, Sem.run_bind, run_underlying hd, Result.andThen_ok]; cases d <;> simp_all
theorem Xg {P : Program} {t : TypeId} {n : Nat} (h : Vj P t n = true) (w : World) : (sizeOf t).run P w = .ok n w := by
  obtain ⟨i, hi, rfl⟩ := Qc7 h
  simp [sizeOf, typeInfo, hi]

theorem WK {α : Type} {sz : Nat} : ∀ {css : List (List α)} (_ : ∀ r ∈ css, r.length = sz) (i j : Nat) (_ : j < sz), css.flatten[i * sz + j]? = (css[i]?).bind (·[j]?)
  | [], _, i, j, _ => by simp
  | r :: rs, h, i, j, hj => by
    have hr : r.length = sz := h r (by simp)
    cases i with
    | zero => simp [List.getElem?_append_left (show j < r.length by omega)]
    | succ i =>
      have ih := WK (css := rs) (fun x hx => h x (by simp [hx])) i j hj
      have e : (i + 1) * sz + j = r.length + (i * sz + j) := by rw [hr, Nat.add_mul]; omega
      rw [List.flatten_cons, e, List.getElem?_append_right (by omega)]
      simpa using ih
theorem XN {α : Type} {sz : Nat} : ∀ {css : List (List α)} (_ : ∀ r ∈ css, r.length = sz), css.flatten.length = css.length * sz
  | [], _ => by simp
  | r :: rs, h => by
    have := XN (css := rs) (fun x hx => h x (by simp [hx]))
    have hr := h r (by simp)
    rw [List.flatten_cons, List.length_append, this, List.length_cons, Nat.add_mul, hr]; omega

section
variable {P : Program} {A : A0} {io : Nat → Nat → Prop} {w : World} {loc : Nat → Option Value} {M : List (Nat × AObj)}

theorem Qf8 {C : Ctx} {hv : Value} {e ver sz : Nat} {xs : List (List AV)} (ho : objAt C hv (.arr e ver sz xs)) {g n cap : Nat} (hg : hv = .slice (some ⟨g, 0, none⟩) n cap) {i : Nat} (hi : i < xs.length) :
    ∃ r, RelL C (xs.getD i []) r ∧ r.length = sz ∧ cellsAt C.w g (i * sz) r := by
  obtain ⟨css, h1, h2, h3, h4⟩ := ho
  obtain ⟨r, hr, hrel⟩ := h1.get i [] hi
  have hlen : r.length = sz := h2 r (List.mem_of_getElem? hr)
  refine ⟨r, hrel, hlen, fun j c hj => ?_⟩
  have hjl : j < sz := by
    have := (List.getElem?_eq_some_iff.1 hj).1; omega
  subst hg
  have hn : n = xs.length := by
    rcases h3.2 with ⟨h, _⟩ | ⟨g', cap', cur, h, _⟩
    · simp at h
    · simp at h; exact h.2.1
  subst hn
  have hb : i * sz + j < xs.length * sz := by
    calc i * sz + j < i * sz + sz := by omega
      _ = (i + 1) * sz := by rw [Nat.add_mul]; omega
      _ ≤ xs.length * sz := Nat.mul_le_mul_right _ hi
  rw [h3.cellAt _ hb, WK h2 i j hjl, hr]
  exact hj

theorem Qep {k : List AV → Eff} (hI : Inv A ⟨io, w, loc, getM M⟩) {x : AV} {v : Value} (hx : RelV ⟨io, w, loc, getM M⟩ x v) (hp : (Zj (getM M) x k).pre) :
    ∃ ls b off cs, (k ls).pre ∧ (Zj (getM M) x k).v = (k ls).v ∧ (Zj (getM M) x k).ups = (k ls).ups ∧ v = .pointer (some ⟨b, off, none⟩) ∧ RelL ⟨io, w, loc, getM M⟩ ls cs ∧ cellsAt w b off cs := by
  cases x <;> simp only [Zj, bad] at hp <;> try exact hp.elim
  case ptr o off =>
    simp only [RelV] at hx
    obtain ⟨_, obj, hv, h1, h2, h3⟩ := hx
    have h1 : getM M o = some obj := h1
    have h2 : loc o = some hv := h2
    cases obj with
    | box ls =>
      simp only [h1] at hp
      obtain ⟨b, rfl, rfl⟩ := h3
      obtain ⟨hv', h4, b', cs, ty, rfl, h5, h6, h7⟩ := hI.wf.obj o _ h1
      have h4 : loc o = some _ := h4
      have h5 : w.heap[b']? = _ := h5
      rw [h2] at h4; cases h4
      refine ⟨ls.drop off, b, off, cs.drop off, hp, by simp [Zj, h1], by simp [Zj, h1], rfl, h6.drop off, fun j c hj => ?_⟩
      rw [cell_of_row w b (off + j) _ ty _ h5]
      simpa using hj
    | arr => simp [h1] at hp
    | gone => simp [h1] at hp
    | mp => simp [h1] at hp
  case elt o ver i off =>
    simp only [RelV] at hx
    obtain ⟨_, obj, hv, h1, h2, h3⟩ := hx
    have h1 : getM M o = some obj := h1
    have h2 : loc o = some hv := h2
    cases obj with
    | box ls => simp [h1] at hp
    | mp => simp [h1] at hp
    | arr e cv sz xs =>
      simp only [h1] at hp
      obtain ⟨h3a, h3b⟩ := h3
      obtain ⟨hi, g, n, cap, rfl, rfl⟩ := h3b hp.1
      obtain ⟨hv', h4, h5⟩ := hI.wf.obj o _ h1
      have h4 : loc o = some _ := h4
      rw [h2] at h4; cases h4
      obtain ⟨r, hr1, hr2, hr3⟩ := Qf8 h5 rfl hi
      refine ⟨(xs.getD i []).drop off, g, i * sz + off, r.drop off, hp.2, by simp [Zj, h1], by simp [Zj, h1], rfl, hr1.drop off, fun j c hj => ?_⟩
      rw [Nat.add_assoc]
      exact hr3 (off + j) c (by simpa using hj)
    | gone => simp [h1] at hp
  case pp t ls =>
    simp only [RelV] at hx
    obtain ⟨_, b, off, cs, rfl, h2, h3, h4⟩ := hx
    exact ⟨ls, b, off, cs, hp, rfl, rfl, rfl, h3, h4⟩

theorem Vk (b off n : Nat) : (⟨b, off, none⟩ : Addr).add n = ⟨b, off + n, none⟩ := by
  unfold Addr.add; split <;> simp_all

theorem Qeq {t : TypeId} (ht : UX P t = true) {b off : Nat} {c : Value} (hc : w.cell? ⟨b, off, none⟩ = some c) : (loadVar t ⟨b, off, none⟩).run P w = .ok c w := by
  simp [loadVar, XM ht, hc]
theorem Qf9 {t : TypeId} {n : Nat} (ht : Qoe P t = true) (hn : Vj P t n = true) {b off : Nat} {cs : List Value} (hl : cs.length = n) (hc : cellsAt w b off cs) : (loadVar t ⟨b, off, none⟩).run P w = .ok (.agg cs.toArray) w := by
  subst hl
  have := run_loadCells_list (P := P) w ⟨b, off, none⟩ cs (fun j v hv => by rw [Vk]; exact hc j v hv)
  simp [loadVar, V1 ht, Xg hn, this]

theorem Qer (hI : Inv A ⟨io, w, loc, getM M⟩) {x : AV} {v : Value} (hx : RelV ⟨io, w, loc, getM M⟩ x v) {t : TypeId} (ht : UX P t = true)
    (hp : (Zj (getM M) x JD).pre) :
    ∃ c, (Instr.loadAt t v).run P w = .ok c w ∧ RelV ⟨io, w, loc, getM M⟩ (Zj (getM M) x JD).v c ∧ (Zj (getM M) x JD).ups = [] := by
  obtain ⟨ls, b, off, cs, h1, h2, h3, rfl, h5, h6⟩ := Qep hI hx hp
  rw [h2, h3]
  cases ls with
  | nil => exact h1.elim
  | cons y ys =>
    simp only [RelL] at h5
    obtain ⟨c, cs', rfl, h7, h8⟩ := h5
    refine ⟨c, ?_, h7, rfl⟩
    simp [Instr.loadAt, Instr.sureAddr, Qeq (P := P) ht (show w.cell? ⟨b, off, none⟩ = some c from h6 0 c rfl)]

theorem Qes (hI : Inv A ⟨io, w, loc, getM M⟩) {x : AV} {v : Value} (hx : RelV ⟨io, w, loc, getM M⟩ x v) {t : TypeId} {n : Nat} (ht : Qoe P t = true) (hn : Vj P t n = true)
    (hp : (Zj (getM M) x fun ls => ⟨n ≤ ls.length, .agg (ls.take n), []⟩).pre) :
    ∃ c, (Instr.loadAt t v).run P w = .ok c w ∧ RelV ⟨io, w, loc, getM M⟩ (Zj (getM M) x fun ls => ⟨n ≤ ls.length, .agg (ls.take n), []⟩).v c ∧ (Zj (getM M) x fun ls => ⟨n ≤ ls.length, .agg (ls.take n), []⟩).ups = [] := by
  obtain ⟨ls, b, off, cs, h1, h2, h3, rfl, h5, h6⟩ := Qep hI hx hp
  rw [h2, h3]
  have hl := h5.length
  refine ⟨.agg (cs.take n).toArray, ?_, by simp only [RelV]; exact ⟨cs.take n, rfl, h5.take n⟩, rfl⟩
  have h7 : cellsAt w b off (cs.take n) := fun j c hj => h6 j c (by
    rw [List.getElem?_take] at hj; split at hj
    · exact hj
    · cases hj)
  have := Qf9 (P := P) ht hn (cs := cs.take n) (by simp only at h1; rw [List.length_take]; omega) h7
  simp only [Instr.loadAt, Instr.sureAddr, Sem.run_bind, Sem.run_pure, Result.andThen_ok, this]

end
end Go.Ve

namespace Go.Ve
open Go.RowKit

theorem RelLL.set {C : Ctx} : ∀ {xs : List (List AV)} {css : List (List Value)} (_ : RelLL C xs css) (i : Nat) {new : List AV} {new' : List Value} (_ : RelL C new new'), RelLL C (xs.set i new) (css.set i new')
  | [], css, h, i, new, new', _ => by simp only [RelLL] at h; subst h; simp [RelLL]
  | x :: xs, css, h, i, new, new', h' => by
    simp only [RelLL] at h
    obtain ⟨c, cs', rfl, h9, h10⟩ := h
    cases i with
    | zero => exact RelLL.cons h' h10
    | succ i => exact RelLL.cons h9 (h10.set i h')
theorem V8 {C : Ctx} {x : AV} {v : Value} (hx : RelV C x v) (hl : (YL x).all Y8 = true) : RelL C (YL x) v.cells.toList ∧ ∀ u ∈ v.cells.toList, u.oneCell' = true := by
  have key : ∀ (ls : List AV) (cs : List Value), ls.all Y8 = true → RelL C ls cs → ∀ u ∈ cs, u.oneCell' = true := by
    intro ls
    induction ls with
    | nil => intro cs _ h u hu; simp only [RelL] at h; subst h; cases hu
    | cons y ys ih =>
      intro cs hl h u hu
      simp only [RelL] at h
      obtain ⟨c, cs', rfl, h1, h2⟩ := h
      simp only [List.all_cons, Bool.and_eq_true] at hl
      rcases List.mem_cons.1 hu with rfl | hu
      · exact Qf6 hl.1 h1
      · exact ih cs' hl.2 h2 u hu
  have one : Y8 x = true → YL x = [x] → RelL C (YL x) v.cells.toList ∧ ∀ u ∈ v.cells.toList, u.oneCell' = true := by
    intro h1 h2
    have h3 := Qf6 h1 hx
    rw [h2, Qkd h3]
    exact ⟨RelL.cons hx RelL.nil, by simpa using h3⟩
  cases x with
  | agg ls =>
    simp only [RelV] at hx
    obtain ⟨cs, rfl, h⟩ := hx
    exact ⟨by simpa [YL, Value.cells] using h, by simpa [YL, Value.cells] using key ls cs hl h⟩
  | tup ls => simp [YL, Y8] at hl
  | junk => simp [YL, Y8] at hl
  | _ => exact one rfl rfl

section
variable {P : Program} {A : A0} {io : Nat → Nat → Prop} {w : World} {loc : Nat → Option Value} {M : List (Nat × AObj)}

theorem Qiz {C : Ctx} {ls new : List AV} {cs vs : List Value} (h : RelL C ls cs) (h' : RelL C new vs) (off : Nat) :
    RelL C (YB ls off new) (cs.take off ++ vs ++ cs.drop (off + vs.length)) := by
  unfold YB
  rw [h'.length]
  exact ((h.take off).append h').append (h.drop _)

theorem Qdv {t : TypeId} {n : Nat} (hn : Vj P t n = true) {g off : Nat} {cur : Array Value} {ty : TypeId} (hg : w.heap[g]? = some (.cells cur ty (0, 0))) {v : Value}
    (hl : v.cells.toList.length = n) (hfit : off + n ≤ cur.size) (h1 : ∀ u ∈ v.cells.toList, u.oneCell' = true) :
    (storeVar t ⟨g, off, none⟩ v).run P w = .ok () (w.setRow g (cur.toList.take off ++ v.cells.toList ++ cur.toList.drop (off + n)).toArray) := by
  subst hl
  have := run_storeCells_at P g off ty v.cells.toList 0 cur w hg (by simpa using hfit) h1
  simp only [Array.length_toList, Nat.add_zero] at this hn ⊢
  simp only [storeVar, Sem.run_bind, Xg hn, Result.andThen_ok, ne_eq, not_true_eq_false, if_false, this]

theorem Grow.setRow (w : World) (g : Nat) (cs : Array Value) : Grow w (w.setRow g cs) (some g) :=
  ⟨rfl, rfl, rfl, by simp [World.setRow], fun b _ hb => setRow_other w g b cs (fun e => hb (by rw [e]))⟩

theorem Qfs (hI : Inv A ⟨io, w, loc, getM M⟩) {o off : Nat} {v u : Value} {y : AV} {ls : List AV} (hx : RelV ⟨io, w, loc, getM M⟩ (.ptr o off) v) (hy : RelV ⟨io, w, loc, getM M⟩ y u)
    (hM : getM M o = some (.box ls)) {t : TypeId} {n : Nat} (hn : Vj P t n = true) (hl : (YL y).all Y8 = true) (hlen : (YL y).length = n) (hfit : off + n ≤ ls.length) :
    ∃ w' loc', (Instr.storeAt t v u).run P w = .ok () w' ∧ Inv A ⟨io, w', loc', getM (Xx M o (.box (YB ls off (YL y))))⟩ ∧ Ext ⟨io, w, loc, getM M⟩ ⟨io, w', loc', getM (Xx M o (.box (YB ls off (YL y))))⟩ := by
  simp only [RelV] at hx
  obtain ⟨_, obj, hv, h1, h2, h3⟩ := hx
  have h1 : getM M o = some obj := h1
  have h2 : loc o = some hv := h2
  rw [hM] at h1; cases h1
  obtain ⟨b, rfl, rfl⟩ := h3
  obtain ⟨hv', h4, b', cs, ty, h4', h5, h6, h7⟩ := hI.wf.obj o _ hM
  have h4 : loc o = some _ := h4
  have h5 : w.heap[b']? = _ := h5
  rw [h2] at h4; cases h4
  simp at h4'; subst h4'
  obtain ⟨hc1, hc2⟩ := V8 hy hl
  have hcl := hc1.length
  have hrun := Qdv (P := P) hn h5 (v := u) (off := off) (by omega) (by simpa [h6.length] using hfit) hc2
  refine ⟨w.setRow b (cs.take off ++ u.cells.toList ++ cs.drop (off + n)).toArray, ZA loc o (.pointer (some ⟨b, 0, none⟩)), ?_, ?_⟩
  · simpa [Instr.storeAt, Instr.sureAddr] using hrun
  rw [Xd]
  refine Inv.upd hI (by simpa [h2, blkOf] using Grow.setRow w b _) (fun b' hb => .inr ⟨_, h2, hb⟩) (fun obj hv h h' => ?_) (fun hext => ?_)
  · have h : getM M o = some obj := h
    have h' : loc o = some hv := h'
    rw [hM] at h; cases h; rw [h2] at h'; cases h'; rfl
  · refine ⟨b, _, ty, rfl, setRow_heap w b _ _ ty _ h5, ?_, ?_⟩
    · have := Qiz (h6.mono hext) (hc1.mono hext) off
      rw [hcl, hlen] at this
      exact this
    · unfold YB
      have ht : ∀ n, (ls.take n).all Y8 = true := fun n => by
        rw [List.all_eq_true] at h7 ⊢; exact fun x hx => h7 x (List.mem_of_mem_take hx)
      have hd : ∀ n, (ls.drop n).all Y8 = true := fun n => by
        rw [List.all_eq_true] at h7 ⊢; exact fun x hx => h7 x (List.mem_of_mem_drop hx)
      simp only [List.all_append, ht, hd, hl, Bool.and_true]

theorem Qjk {α : Type} {sz : Nat} (vs : List α) (off : Nat) (hfit : off + vs.length ≤ sz) : ∀ {css : List (List α)} (_ : ∀ r ∈ css, r.length = sz) (i : Nat) (r : List α) (_ : css[i]? = some r),
    (css.set i (r.take off ++ vs ++ r.drop (off + vs.length))).flatten = css.flatten.take (i * sz + off) ++ vs ++ css.flatten.drop (i * sz + off + vs.length)
  | [], _, i, r, h => by simp at h
  | c :: cs, hl, i, r, h => by
    have hc : c.length = sz := hl c (by simp)
    cases i with
    | zero =>
      simp at h; subst h
      simp only [List.set_cons_zero, List.flatten_cons, Nat.zero_mul, Nat.zero_add, List.append_assoc]
      rw [List.take_append_of_le_length (by omega), List.drop_append_of_le_length (by omega)]
    | succ i =>
      have ih := Qjk vs off hfit (css := cs) (fun x hx => hl x (by simp [hx])) i r (by simpa using h)
      simp only [List.set_cons_succ, List.flatten_cons, ih]
      have e : (i + 1) * sz + off = c.length + (i * sz + off) := by rw [hc, Nat.add_mul]; omega
      have e2 : (i + 1) * sz + off + vs.length = c.length + (i * sz + off + vs.length) := by rw [hc, Nat.add_mul]; omega
      rw [e2, e, List.take_length_add_append, List.drop_length_add_append]
      simp [List.append_assoc]

theorem QiA {e sz g n cap : Nat} {xs vs : List Value} (h : w.ownsRow 0 e sz (.slice (some ⟨g, 0, none⟩) n cap) n xs) (p : Nat) (hp : p + vs.length ≤ n * sz) {cur : Array Value} {ty : TypeId} (hg : w.heap[g]? = some (.cells cur ty (0, 0))) :
    (w.setRow g (cur.toList.take p ++ vs ++ cur.toList.drop (p + vs.length)).toArray).ownsRow 0 e sz (.slice (some ⟨g, 0, none⟩) n cap) n (xs.take p ++ vs ++ xs.drop (p + vs.length)) := by
  rcases h.2 with ⟨h', _⟩ | ⟨g', cap', cur', h', hb, hg', hnc, hcm, hcs, htake⟩
  · simp at h'
  simp only [Value.slice.injEq, Option.some.injEq, Addr.mk.injEq, and_true, true_and] at h'
  obtain ⟨rfl, rfl⟩ := h'
  rw [hg] at hg'; cases hg'
  have hxl := h.1
  have hle : n * sz ≤ cap * sz := Nat.mul_le_mul_right _ hnc
  refine ⟨?_, .inr ⟨g, cap, _, rfl, hb, setRow_heap w g _ _ _ _ hg, hnc, hcm, ?_, ?_⟩⟩
  · simp only [List.length_append, List.length_take, List.length_drop]; omega
  · simp only [List.size_toArray, List.length_append, List.length_take, List.length_drop, Array.length_toList]; omega
  · subst htake
    have hcl : cur.toList.length = cap * sz := by simpa using hcs
    simp only []
    rw [List.take_append, List.take_append]
    simp only [List.length_append, List.length_take, hcl, List.take_take]
    have e1 : min (n * sz) p = p := by omega
    have e2 : min p (cap * sz) = p := by omega
    rw [e1, e2, List.take_of_length_le (l := vs) (by omega)]
    have e3 : min p (n * sz) = p := by omega
    rw [e3, List.drop_take]

theorem Qft (hI : Inv A ⟨io, w, loc, getM M⟩) {o ver i off : Nat} {v u : Value} {y : AV} {e cv sz : Nat} {xs : List (List AV)} (hx : RelV ⟨io, w, loc, getM M⟩ (.elt o ver i off) v) (hy : RelV ⟨io, w, loc, getM M⟩ y u)
    (hM : getM M o = some (.arr e cv sz xs)) {t : TypeId} {n : Nat} (hn : Vj P t n = true) (hver : ver = cv) (hl : rowB e (YL y) = true) (hlen : (YL y).length = n) (hfit : off + n ≤ sz) :
    ∃ w' loc', (Instr.storeAt t v u).run P w = .ok () w' ∧ Inv A ⟨io, w', loc', getM (Xx M o (.arr e cv sz (xs.set i (YB (xs.getD i []) off (YL y)))))⟩ ∧ Ext ⟨io, w, loc, getM M⟩ ⟨io, w', loc', getM (Xx M o (.arr e cv sz (xs.set i (YB (xs.getD i []) off (YL y)))))⟩ := by
  simp only [RelV] at hx
  obtain ⟨_, obj, hv, h1, h2, h3⟩ := hx
  have h1 : getM M o = some obj := h1
  have h2 : loc o = some hv := h2
  rw [hM] at h1; cases h1
  obtain ⟨hi, g, n0, cap, rfl, rfl⟩ := h3.2 hver
  obtain ⟨hv', h4, css, h5, h6, h7, h8⟩ := hI.wf.obj o _ hM
  have h4 : loc o = some _ := h4
  rw [h2] at h4; cases h4
  obtain ⟨hc1, hc2⟩ := V8 hy (rowB.leaf hl)
  have hcl := hc1.length
  have hown := h7
  have hn0 : n0 = xs.length := by
    rcases hown.2 with ⟨h, _⟩ | ⟨g', cap', cur, h, _⟩
    · simp at h
    · simp at h; exact h.2.1
  subst hn0
  obtain ⟨cur, hcur, hcurs, hnc⟩ : ∃ cur, w.heap[g]? = some (.cells cur (e % 1000000) (0, 0)) ∧ cur.size = cap * sz ∧ xs.length ≤ cap := by
    rcases hown.2 with ⟨h, _⟩ | ⟨g', cap', cur, h, _, h9, h10, _, h11, _⟩
    · simp at h
    · simp only [Value.slice.injEq, Option.some.injEq, Addr.mk.injEq, and_true, true_and] at h
      obtain ⟨rfl, rfl⟩ := h
      exact ⟨cur, h9, h11, h10⟩
  have hb : i * sz + sz ≤ xs.length * sz := by
    have : (i + 1) * sz ≤ xs.length * sz := Nat.mul_le_mul_right _ hi
    rw [Nat.add_mul] at this; omega
  have hb2 : xs.length * sz ≤ cap * sz := Nat.mul_le_mul_right _ hnc
  have hrun := Qdv (P := P) hn hcur (v := u) (off := i * sz + off) (by omega) (by omega) hc2
  obtain ⟨r, hr, hrel⟩ := h5.get i [] hi
  have hvl : u.cells.toList.length = n := by omega
  refine ⟨w.setRow g (cur.toList.take (i * sz + off) ++ u.cells.toList ++ cur.toList.drop (i * sz + off + n)).toArray, ZA loc o (.slice (some ⟨g, 0, none⟩) xs.length cap), ?_, ?_⟩
  · simpa [Instr.storeAt, Instr.sureAddr] using hrun
  rw [Xd]
  refine Inv.upd hI (by simpa [h2, blkOf] using Grow.setRow w g _) (fun b' hb => .inr ⟨_, h2, hb⟩) (fun obj hv h h' => ?_) (fun hext => ?_)
  · have h : getM M o = some obj := h
    have h' : loc o = some hv := h'
    rw [hM] at h; cases h; rw [h2] at h'; cases h'
    exact .inr ⟨rfl, by simp, rfl, rfl⟩
  · have hrel' := Qiz (hrel.mono hext) (hc1.mono hext) off
    refine ⟨css.set i (r.take off ++ u.cells.toList ++ r.drop (off + u.cells.toList.length)), ?_, ?_, ?_, ?_⟩
    · exact (h5.mono hext).set i hrel'
    · intro x hx
      rcases List.mem_or_eq_of_mem_set hx with h | rfl
      · exact h6 x h
      · have := h6 r (List.mem_of_getElem? hr)
        simp only [List.length_append, List.length_take, List.length_drop]; omega
    · have h9 := QiA (vs := u.cells.toList) h7 (i * sz + off) (by omega) hcur
      rw [Qjk u.cells.toList off (by omega) h6 i r hr, List.length_set]
      rw [hvl] at h9 ⊢
      exact h9
    · intro x hx
      rcases List.mem_or_eq_of_mem_set hx with h | rfl
      · exact h8 x h
      · have hrow : rowB e (xs.getD i []) = true := h8 _ (by rw [List.getD_eq_getElem?_getD, List.getElem?_eq_getElem hi]; simp)
        unfold YB
        exact rowB.append (rowB.append (rowB.take _ hrow) hl) (rowB.drop _ hrow)
end
end Go.Ve

namespace Go.Ve
open Go.RowKit

def UL : List Value → List AV → Bool
  | [], [] => true
  | v :: vs, x :: xs => Qal v x && Y8 x && noref x && UL vs xs
  | _, _ => false
theorem Ze {C : Ctx} : ∀ {vs : List Value} {xs : List AV}, UL vs xs = true → RelL C xs vs ∧ flatOk xs = true ∧ xs.all Y8 = true
  | [], [], _ => ⟨RelL.nil, rfl, rfl⟩
  | v :: vs, x :: xs, h => by
    simp only [UL, Bool.and_eq_true] at h
    obtain ⟨h1, h2, h3⟩ := Ze (C := C) h.2
    exact ⟨RelL.cons (Qbx h.1.1.1) h1, by simp [flatOk, h.1.1.2, h.1.2, h2], by simp [h.1.1.2, h3]⟩
  | [], _ :: _, h => by simp [UL] at h
  | _ :: _, [], h => by simp [UL] at h
/-- The zero value of a type. -/
def QkY (P : Program) (t : TypeId) (zs : List AV) : Bool := match P.info? t with
  | some i => match i.zero with | some z => UL z.cells.toList zs && i.size == zs.length | none => false
  | none => false
theorem Qc8 {P : Program} {t : TypeId} {zs : List AV} (h : QkY P t zs = true) : ∃ i z, P.info? t = some i ∧ i.zero = some z ∧ UL z.cells.toList zs = true ∧ i.size = zs.length := by
  unfold QkY at h
  split at h
  · rename_i i hi
    split at h
    · rename_i z hz
      simp only [Bool.and_eq_true, beq_iff_eq] at h
      exact ⟨i, z, hi, hz, h.1, h.2⟩
    · cases h
  · cases h

section
variable {P : Program} {A : A0} {io : Nat → Nat → Prop} {w : World} {loc : Nat → Option Value} {M : List (Nat × AObj)}

theorem Qof (hI : Inv A ⟨io, w, loc, getM M⟩) {o : Nat} (ho : getM M o = none) {ls : List AV} {cs : List Value} (h : RelL ⟨io, w, loc, getM M⟩ ls cs) (hl : ls.all Y8 = true) (ty : TypeId) :
    Inv A ⟨io, w.alloc (.cells cs.toArray ty), ZA loc o (.pointer (some ⟨w.heap.size, 0, none⟩)), getM (Xx M o (.box ls))⟩ ∧
    Ext ⟨io, w, loc, getM M⟩ ⟨io, w.alloc (.cells cs.toArray ty), ZA loc o (.pointer (some ⟨w.heap.size, 0, none⟩)), getM (Xx M o (.box ls))⟩ ∧
    RelV ⟨io, w.alloc (.cells cs.toArray ty), ZA loc o (.pointer (some ⟨w.heap.size, 0, none⟩)), getM (Xx M o (.box ls))⟩ (.ptr o 0) (.pointer (some ⟨w.heap.size, 0, none⟩)) := by
  have key := Inv.upd (A := A) (C := ⟨io, w, loc, getM M⟩) hI (w' := w.alloc (.cells cs.toArray ty)) (o := o) (obj' := .box ls) (hv' := .pointer (some ⟨w.heap.size, 0, none⟩))
    (Grow.alloc w _ _) (fun b hb => .inl (by simp [blkOf] at hb; subst hb; exact Nat.le_refl _)) (fun obj hv h _ => by have h : getM M o = some obj := h; rw [ho] at h; cases h)
    (fun hext => ⟨w.heap.size, cs, ty, rfl, heap_alloc_new w _, h.mono hext, hl⟩)
  rw [Xd]
  refine ⟨key.1, key.2, ?_⟩
  simp only [RelV]
  exact ⟨rfl, .box ls, .pointer (some ⟨w.heap.size, 0, none⟩), by simp [ZA], by simp [ZA], w.heap.size, rfl, rfl⟩

theorem Qet (hI : Inv A ⟨io, w, loc, getM M⟩) {o : Nat} {obj0 : Option AObj} (ho : getM M o = obj0) {e ver sz : Nat} (hver : ∀ e' cv sz' xs', obj0 = some (.arr e' cv sz' xs') → cv < ver) (hbox : ∀ ls, obj0 ≠ some (.box ls)) (hgone : obj0 ≠ some .gone)
    {w' : World} {hv' : Value} {xs : List (List AV)} {css : List (List Value)} (hg : Grow w w' ((loc o).bind blkOf))
    (hb : ∀ b, blkOf hv' = some b → w.heap.size ≤ b ∨ (∃ hv, loc o = some hv ∧ blkOf hv = some b))
    (h : RelLL ⟨io, w, loc, getM M⟩ xs css) (hsz : ∀ r ∈ css, r.length = sz) (hown : w'.ownsRow 0 (e % 1000000) sz hv' xs.length css.flatten) (hfl : ∀ r ∈ xs, rowB e r = true) (hmp : ∀ kk es, obj0 ≠ some (.mp kk es) := by simp) :
    Inv A ⟨io, w', ZA loc o hv', getM (Xx M o (.arr e ver sz xs))⟩ ∧
    Ext ⟨io, w, loc, getM M⟩ ⟨io, w', ZA loc o hv', getM (Xx M o (.arr e ver sz xs))⟩ ∧
    RelV ⟨io, w', ZA loc o hv', getM (Xx M o (.arr e ver sz xs))⟩ (.own o ver 0 xs.length) hv' := by
  have key := Inv.upd (A := A) (C := ⟨io, w, loc, getM M⟩) hI (w' := w') (o := o) (obj' := .arr e ver sz xs) (hv' := hv') hg hb
    (fun obj hv h _ => by
      have h : getM M o = some obj := h
      rw [ho] at h
      cases obj with
      | box ls => exact (hbox ls h).elim
      | arr e' cv sz' xs' => exact .inl (hver _ _ _ _ h)
      | gone => exact (hgone h).elim
      | mp kk es => exact (hmp kk es h).elim)
    (fun hext => ⟨css, h.mono hext, hsz, hown, hfl⟩)
  rw [Xd]
  refine ⟨key.1, key.2, ?_⟩
  simp only [RelV]
  have hsub : Qqp hv' sz 0 xs.length hv' ∧ hv'.oneCell' = true := by
    rcases hown.2 with ⟨rfl, hn⟩ | ⟨g, cap, cur, rfl, _, _, hnc, _⟩
    · exact ⟨⟨none, 0, 0, rfl, by omega, by simp [hn]⟩, rfl⟩
    · refine ⟨⟨_, _, cap, rfl, hnc, ?_⟩, rfl⟩
      simp [Addr.add]
  exact ⟨hsub.2, .arr e ver sz xs, hv', by simp [ZA], by simp [ZA], Nat.le_refl _, fun _ => ⟨Nat.zero_le _, Nat.le_refl _, hsub.1⟩⟩

/-- What a source of an append reads, by its address. -/
def srcA (w : World) (css : List (List Value)) (v : Value) : Prop :=
  (css = [] ∧ v = .slice none 0 0) ∨ ∃ a cap, v = .slice (some a) css.length cap ∧ css.length ≤ cap ∧ (∀ j u, css.flatten[j]? = some u → w.cell? (a.add j) = some u) ∧ (∀ u ∈ css.flatten, u.oneCell' = true)
theorem srcA.mk {w : World} {css : List (List Value)} {v : Value} {Q : Prop} (h : (Q ∧ css = [] ∧ ∃ a, v = .slice (some a) 0 0) ∨ (css = [] ∧ v = .slice none 0 0) ∨ ∃ b off cap, v = .slice (some ⟨b, off, none⟩) css.length cap ∧ css.length ≤ cap ∧ cellsAt w b off css.flatten ∧ (∀ u ∈ css.flatten, u.oneCell' = true)) : srcA w css v := by
  rcases h with ⟨_, rfl, a, rfl⟩ | h | ⟨b, off, cap, h1, h2, h3, h4⟩
  · exact .inr ⟨a, 0, rfl, Nat.le_refl _, fun j u hj => by simp at hj, by simp⟩
  · exact .inl h
  · exact .inr ⟨_, cap, h1, h2, fun j u hj => by rw [Vk]; exact h3 j u hj, h4⟩

/-- The rows of a source of an append. -/
theorem Qeu (hI : WfM ⟨io, w, loc, getM M⟩) {sz : Nat} {y : AV} {v : Value} (hy : RelV ⟨io, w, loc, getM M⟩ y v) (hp : (KF (getM M) sz y).1) :
    ∃ css, RelLL ⟨io, w, loc, getM M⟩ (KF (getM M) sz y).2 css ∧ (∀ r ∈ css, r.length = sz) ∧ (∀ r ∈ (KF (getM M) sz y).2, r.all Y8 = true) ∧
      (((∀ o ver lo hi, y ≠ .own o ver lo hi) ∧ css = [] ∧ ∃ a, v = .slice (some a) 0 0) ∨ (css = [] ∧ v = .slice none 0 0) ∨ ∃ b off cap, v = .slice (some ⟨b, off, none⟩) css.length cap ∧ css.length ≤ cap ∧ cellsAt w b off css.flatten ∧ (∀ u ∈ css.flatten, u.oneCell' = true)) := by
  have one : ∀ {xs : List (List AV)} {css : List (List Value)}, RelLL ⟨io, w, loc, getM M⟩ xs css → (∀ r ∈ xs, r.all Y8 = true) → ∀ u ∈ css.flatten, u.oneCell' = true := by
    intro xs
    induction xs with
    | nil => intro css h _ u hu; simp only [RelLL] at h; subst h; simp at hu
    | cons x xs ih =>
      intro css h hf u hu
      simp only [RelLL] at h
      obtain ⟨c, cs, rfl, h1, h2⟩ := h
      rw [List.flatten_cons, List.mem_append] at hu
      rcases hu with hu | hu
      · have hx := hf x (by simp)
        clear ih h2 hf
        induction x generalizing c with
        | nil => simp only [RelL] at h1; subst h1; cases hu
        | cons y ys ih2 =>
          simp only [RelL] at h1
          obtain ⟨d, ds, rfl, h3, h4⟩ := h1
          simp only [List.all_cons, Bool.and_eq_true] at hx
          rcases List.mem_cons.1 hu with rfl | hu
          · exact Qf6 hx.1 h3
          · exact ih2 ds h4 hu hx.2
      · exact ih h2 (fun r hr => hf r (by simp [hr])) u hu
  have flatCells : ∀ {b off : Nat} {css : List (List Value)}, (∀ r ∈ css, r.length = sz) → (∀ i r, css[i]? = some r → cellsAt w b (off + i * sz) r) → cellsAt w b off css.flatten := by
    intro b off css
    induction css generalizing off with
    | nil => intro _ _ j c hj; simp at hj
    | cons r rs ih =>
      intro hl hc j c hj
      have hr : r.length = sz := hl r (by simp)
      rw [List.flatten_cons] at hj
      by_cases hjl : j < r.length
      · rw [List.getElem?_append_left hjl] at hj
        have := hc 0 r rfl j c hj
        simpa using this
      · rw [List.getElem?_append_right (by omega)] at hj
        have := ih (off := off + sz) (fun x hx => hl x (by simp [hx])) (fun i x hx => by
          have := hc (i + 1) x (by simpa using hx)
          rw [Nat.add_mul] at this
          intro j c hjc
          have h2 := this j c hjc
          rw [show off + sz + i * sz + j = off + (i * sz + 1 * sz) + j by omega]
          exact h2) (j - r.length) c hj
        rw [show off + sz + (j - r.length) = off + j by omega] at this
        exact this
  cases y <;> simp only [KF] at hp ⊢ <;> try exact hp.elim
  case sl t sz' xs =>
    subst hp
    simp only [RelV] at hy
    obtain ⟨hf, h⟩ := hy
    rcases h with ⟨rfl, rfl | ⟨_, a, rfl⟩⟩ | ⟨b, off, cap, css, rfl, h2, h3, h4, h5⟩
    · exact ⟨[], RelLL.nil, by simp, by simp, .inr (.inl ⟨rfl, rfl⟩)⟩
    · exact ⟨[], RelLL.nil, by simp, by simp, .inl ⟨fun _ _ _ _ h => (by cases h), rfl, a, rfl⟩⟩
    · have hl : ∀ r ∈ css, r.length = sz := fun r hr => by
        obtain ⟨i, hi, rfl⟩ := List.getElem_of_mem hr
        exact (h5 i _ (List.getElem?_eq_getElem hi)).1
      exact ⟨css, h4, hl, fun r hr => UQ (hf r hr), .inr (.inr ⟨b, off, cap, by rw [h4.length], by rw [h4.length]; exact h2, flatCells hl (fun i r hi => (h5 i r hi).2), one h4 fun r hr => UQ (hf r hr)⟩)⟩
  case own o ver lo hi =>
    simp only [RelV] at hy
    obtain ⟨_, obj, hv, h1, h2, h3⟩ := hy
    have h1 : getM M o = some obj := h1
    have h2 : loc o = some hv := h2
    cases obj with
    | box ls => simp [h1] at hp
    | gone => simp [h1] at hp
    | mp => simp [h1] at hp
    | arr e cv sz' xs =>
      simp only [h1] at hp ⊢
      obtain ⟨rfl, hver⟩ := hp
      obtain ⟨hlo, hhi, base, n, cap, rfl, hcap, rfl⟩ := h3.2 hver
      obtain ⟨hv', h4, css, h5, h6, h7, h8⟩ := hI.obj o _ h1
      have h4 : loc o = some _ := h4
      rw [h2] at h4; cases h4
      have hf : ∀ r ∈ (xs.take hi).drop lo, r.all Y8 = true := fun r hr => rowB.leaf (h8 r (List.mem_of_mem_take (List.mem_of_mem_drop hr)))
      have hrel := (h5.take hi).drop lo
      have hl : ∀ r ∈ (css.take hi).drop lo, r.length = sz := fun r hr => h6 r (List.mem_of_mem_take (List.mem_of_mem_drop hr))
      have hlen := hrel.length
      have hcl := h5.length
      rcases h7.2 with ⟨h, hn⟩ | ⟨g, cap', cur, h, _, hg, hnc, hcm, hcs, htake⟩
      · simp only [Value.slice.injEq] at h
        obtain ⟨rfl, rfl, rfl⟩ := h
        have hx : xs = [] := List.eq_nil_of_length_eq_zero hn
        subst hx
        refine ⟨[], by simp [RelLL], by simp, by simp, .inr (.inl ⟨rfl, ?_⟩)⟩
        simp at hhi
        have : lo = 0 := by omega
        subst this; subst hhi
        simp
      · simp only [Value.slice.injEq] at h
        obtain ⟨rfl, rfl, rfl⟩ := h
        refine ⟨(css.take hi).drop lo, hrel, hl, hf, .inr (.inr ?_)⟩
        have hll : ((css.take hi).drop lo).length = hi - lo := by simp only [List.length_drop, List.length_take]; omega
        by_cases hcl0 : cap = lo
        · refine ⟨g, 0, cap - lo, by simp [hcl0, hll], by rw [hll]; omega, ?_, one hrel hf⟩
          have : (css.take hi).drop lo = [] := List.eq_nil_of_length_eq_zero (by rw [hll]; omega)
          rw [this]; intro j c hj; simp at hj
        · refine ⟨g, lo * sz, cap - lo, ?_, by rw [hll]; omega, ?_, one hrel hf⟩
          · rw [hll]; simp [hcl0, Vk]
          · refine flatCells hl (fun i r hi' => ?_)
            have hir : css[lo + i]? = some r := by
              rw [List.getElem?_drop, List.getElem?_take] at hi'
              split at hi'
              · exact hi'
              · cases hi'
            have hlt : lo + i < xs.length := by
              have := (List.getElem?_eq_some_iff.1 hir).1; omega
            have := Qf8 (C := ⟨io, w, loc, getM M⟩) (ver := 0) (e := e) ⟨css, h5, h6, h7, h8⟩ rfl hlt
            intro j c hj
            have hjs : j < sz := by have := (List.getElem?_eq_some_iff.1 hj).1; have := h6 r (List.mem_of_getElem? hir); omega
            have hb : (lo + i) * sz + j < xs.length * sz := by
              calc (lo + i) * sz + j < (lo + i) * sz + sz := by omega
                _ = (lo + i + 1) * sz := by rw [Nat.add_mul (lo + i)]; omega
                _ ≤ xs.length * sz := Nat.mul_le_mul_right _ hlt
            rw [show lo * sz + i * sz + j = (lo + i) * sz + j by rw [Nat.add_mul], h7.cellAt _ hb, WK h6 (lo + i) j hjs, hir]
            exact hj
theorem QmN {M : Nat → Option AObj} {sz : Nat} {y : AV} (hp : (Ql M sz y).1) : (KF M sz y).1 ∧ (KF M sz y).2 = (Ql M sz y).2 := by
  cases y <;> simp only [Ql, KF] at hp ⊢
  case sl => exact ⟨hp, trivial⟩
  case own =>
    split at hp
    · exact ⟨⟨hp.1, hp.2.1⟩, rfl⟩
    · exact hp.elim
  all_goals exact hp.elim
theorem QiB (hI : WfM ⟨io, w, loc, getM M⟩) {sz : Nat} {y : AV} {v : Value} (hy : RelV ⟨io, w, loc, getM M⟩ y v) (hp : (Ql (getM M) sz y).1) : ∀ r ∈ (Ql (getM M) sz y).2, flatOk r = true := by
  cases y <;> simp only [Ql] at hp ⊢ <;> try exact hp.elim
  case sl t sz' xs => simp only [RelV] at hy; exact hy.1
  case own o ver lo hi =>
    split at hp
    · rename_i e cv sz' xs hM
      obtain ⟨hv, h4, css, h5, h6, h7, h8⟩ := hI.obj o _ hM
      intro r hr
      have := h8 r (List.mem_of_mem_take (List.mem_of_mem_drop hr))
      rwa [rowB.flat hp.2.2] at this
    · exact hp.elim
theorem Qjl (hI : WfM ⟨io, w, loc, getM M⟩) {sz : Nat} {y : AV} {v : Value} (hy : RelV ⟨io, w, loc, getM M⟩ y v) (hp : (Ql (getM M) sz y).1) :
    ∃ css, RelLL ⟨io, w, loc, getM M⟩ (Ql (getM M) sz y).2 css ∧ (∀ r ∈ css, r.length = sz) ∧ (∀ r ∈ (Ql (getM M) sz y).2, flatOk r = true) ∧
      (((∀ o ver lo hi, y ≠ .own o ver lo hi) ∧ css = [] ∧ ∃ a, v = .slice (some a) 0 0) ∨ (css = [] ∧ v = .slice none 0 0) ∨ ∃ b off cap, v = .slice (some ⟨b, off, none⟩) css.length cap ∧ css.length ≤ cap ∧ cellsAt w b off css.flatten ∧ (∀ u ∈ css.flatten, u.oneCell' = true)) := by
  obtain ⟨h1, h2⟩ := QmN hp
  obtain ⟨css, h3, h4, h5, h6⟩ := Qeu hI hy h1
  exact ⟨css, h2 ▸ h3, h4, QiB hI hy hp, h6⟩
end
end Go.Ve

namespace Go.Ve
open Go.RowKit

section
variable {P : Program} {A : A0} {io : Nat → Nat → Prop} {w : World} {loc : Nat → Option Value} {M : List (Nat × AObj)}

theorem Qfu {e sz n cap g : Nat} {xs : List Value} (h : w.ownsRow 0 e sz (.slice (some ⟨g, 0, none⟩) n cap) n xs) {m : Nat} (hm : m ≤ n) : w.ownsRow 0 e sz (.slice (some ⟨g, 0, none⟩) m cap) m (xs.take (m * sz)) := by
  rcases h.2 with ⟨h', _⟩ | ⟨g', cap', cur, h', hb, hg, hnc, hcm, hcs, htake⟩
  · simp at h'
  simp only [Value.slice.injEq, Option.some.injEq, Addr.mk.injEq, and_true, true_and] at h'
  obtain ⟨rfl, rfl⟩ := h'
  have hle : m * sz ≤ n * sz := Nat.mul_le_mul_right _ hm
  refine ⟨by rw [List.length_take, h.1]; omega, .inr ⟨g, cap, cur, rfl, hb, hg, by omega, hcm, hcs, ?_⟩⟩
  rw [← htake, List.take_take]; congr 1; omega

/-- The element type's facts that an append wants. -/
def Qqm (P : Program) (t e sz : Nat) : Bool := match P.underlying t, P.info? e with
  | some (.slice e'), some i => e == e' && i.size == sz && decide (0 < sz) && decide (i.bytes ≤ 32768) && (match i.zero with | some z => z.cells.size == sz | none => false)
  | _, _ => false
theorem QkZ {t e sz : Nat} (h : Qqm P t e sz = true) : P.underlying t = some (.slice e) ∧ ∃ i z, P.info? e = some i ∧ i.size = sz ∧ 0 < sz ∧ i.bytes ≤ 32768 ∧ i.zero = some z ∧ z.cells.size = sz := by
  unfold Qqm at h
  split at h
  · rename_i e' i h1 h2
    simp only [Bool.and_eq_true, beq_iff_eq, decide_eq_true_eq] at h
    obtain ⟨⟨⟨⟨rfl, h3⟩, h4⟩, h5⟩, h6⟩ := h
    split at h6
    · rename_i z hz; exact ⟨h1, i, z, h2, h3, h4, h5, hz, by simpa using h6⟩
    · cases h6
  · cases h

theorem Qdw {α : Type} {sz : Nat} : ∀ {css : List (List α)} (_ : ∀ r ∈ css, r.length = sz) (m : Nat), css.flatten.take (m * sz) = (css.take m).flatten
  | [], _, m => by simp
  | r :: rs, h, m => by
    cases m with
    | zero => simp
    | succ m =>
      have hr := h r (by simp)
      have ih := Qdw (css := rs) (fun x hx => h x (by simp [hx])) m
      rw [List.take_succ_cons, List.flatten_cons, List.flatten_cons, ← ih, show (m + 1) * sz = r.length + m * sz by rw [hr, Nat.add_mul]; omega, List.take_length_add_append]

theorem Qk0 {t ty e sz : Nat} (hB : Qqm P t e sz = true) {v0 : Value} {n : Nat} {xs : List Value} (hown : w.ownsRow 0 e sz v0 n xs)
    {css : List (List Value)} (hl : ∀ r ∈ css, r.length = sz) (hone : ∀ u ∈ css.flatten, u.oneCell' = true) {v : Value}
    (hv : srcA w css v)
    (hbd : n + css.length ≤ 4294967296) :
    ∃ v' w', (Builtin.append_ #[t, t] ty #[v0, v]).run P w = .ok v' w' ∧ w'.ownsRow 0 e sz v' (n + css.length) (xs ++ css.flatten) ∧ Grow w w' (blkOf v0) ∧
      (∀ b, blkOf v' = some b → w.heap.size ≤ b ∨ blkOf v0 = some b) := by
  obtain ⟨ht, i, z, hi, hsz, hpos, hby, hz, hzs⟩ := QkZ hB
  have hblk : ∀ x : Value, x.oneCell' = true → (∀ y, w.ownsRow 0 e sz x n y → x.ownBlock = blkOf x) := by
    intro x _ y hy
    rcases hy.2 with ⟨rfl, _⟩ | ⟨g, cap, cur, rfl, _⟩ <;> rfl
  have hob : v0.ownBlock = blkOf v0 := by
    rcases hown.2 with ⟨rfl, _⟩ | ⟨g, cap, cur, rfl, _⟩ <;> rfl
  rcases hv with ⟨rfl, rfl⟩ | ⟨a, cap, rfl, hcap, hcells, _⟩
  · refine ⟨v0, w, run_append_owned_none w 0 t ty e i sz ht hi v0 n xs hown, by simpa using hown, Grow.refl _ _, fun b hb => .inr hb⟩
  · obtain ⟨v', w', h1, h2, h3, h4⟩ := run_append_own (P := P) w 0 t ty e i z sz i.bytes ht hi hz hsz rfl hzs hpos v0 n xs hown a css.length cap css.flatten (XN hl)
      hcells hone (by simp only [maxLen]; omega)
      (Nat.le_trans (Nat.mul_le_mul hbd hby) (by decide)) (Nat.zero_le _)
    refine ⟨v', w', h1, h2, by rw [← hob]; exact Grow.of_grownBy h3, fun b' hb' => ?_⟩
    -- the new block is new, or the old one
    have hlt := h2.lt b' (by
      rcases h2.2 with ⟨rfl, _⟩ | ⟨g, cap, cur, rfl, _⟩
      · simp [blkOf] at hb'
      · simpa [blkOf, Value.ownBlock] using hb')
    by_cases hnew : w.heap.size ≤ b'
    · exact .inl hnew
    · right
      -- an old block: only the row's own may have turned
      by_cases hroom : ∃ g0 cap0, v0 = .slice (some ⟨g0, 0, none⟩) n cap0 ∧ n + css.length ≤ cap0
      · obtain ⟨g0, cap0, rfl, hr⟩ := hroom
        obtain ⟨w2, h5, _⟩ := run_append_fits (P := P) w 0 t ty e i sz ht hi hsz g0 n cap0 xs hown a css.length cap css.flatten (XN hl) hcells hone hr
        rw [h1] at h5
        simp only [Result.ok.injEq] at h5
        obtain ⟨rfl, rfl⟩ := h5
        simpa [blkOf] using hb'
      · exfalso
        have hfr : v' = .slice none 0 0 ∨ ∃ c, v' = .slice (some ⟨w.heap.size, 0, none⟩) (n + css.length) c := by
          rcases hown.2 with ⟨rfl, rfl⟩ | ⟨g, cap0, cur, rfl, hbg, hg, hnc, hcm, hcs, htake⟩
          · have hx : xs = [] := List.eq_nil_of_length_eq_zero (by simpa using hown.1)
            subst hx
            by_cases hm : css.length = 0
            · exact .inl (h4.2 ⟨rfl, hm⟩)
            · have hr := run_append_nil (P := P) w t ty e i z ht hi hz a css.length cap css.flatten (by rw [hsz]; exact XN hl) hcells (by omega) (by omega)
                (Nat.le_trans (Nat.mul_le_mul (show css.length ≤ 4294967296 by omega) hby) (by decide))
              rw [h1] at hr
              simp only [Result.ok.injEq] at hr
              exact .inr ⟨grownCap w css.length 0 e, by rw [hr.1]; simp⟩
          · have hnr : ¬ n + css.length ≤ cap0 := fun h => hroom ⟨g, cap0, rfl, h⟩
            have holds : ∀ j u, xs[j]? = some u → w.cell? ((⟨g, 0, none⟩ : Addr).add j) = some u := hown.cells (g := g) rfl
            have hr := run_append_grow (P := P) w t ty e i z ht hi hz ⟨g, 0, none⟩ n cap0 xs (by rw [hsz]; exact hown.1) holds a css.length cap css.flatten (by rw [hsz]; exact XN hl) hcells (by omega) (by omega)
              (growslice_fits (by omega) (Nat.le_trans (Nat.mul_le_mul hbd hby) (by decide)))
            rw [h1] at hr
            simp only [Result.ok.injEq] at hr
            exact .inr ⟨_, hr.1⟩
        rcases hfr with rfl | ⟨c, rfl⟩
        · simp [blkOf] at hb'
        · simp [blkOf] at hb'; omega

theorem Qk1 (off : Nat) : ∀ (vs : List Value) (k : Nat) (cs : Array Value), off + k + vs.length ≤ cs.size →
        ((vs.zipIdx k).foldl (fun cs (x : Value × Nat) => cs.setIfInBounds (off + x.2) x.1) cs).toList = cs.toList.take (off + k) ++ vs ++ cs.toList.drop (off + k + vs.length) := by
  intro vs
  induction vs with
  | nil => intro k cs _; simp
  | cons x xs ih =>
    intro k cs hle
    simp only [List.zipIdx_cons, List.foldl_cons]
    rw [ih (k + 1) _ (by simp at hle ⊢; omega)]
    simp only [Array.toList_setIfInBounds, List.length_cons] at *
    have hlt : off + k < cs.toList.length := by simp; omega
    apply List.ext_getElem?
    intro j
    simp only [List.getElem?_append, List.length_append, List.length_take, List.length_set, List.getElem?_take, List.getElem?_set, List.getElem?_drop, List.length_cons]
    have e1 : min (off + (k + 1)) cs.toList.length = off + k + 1 := by omega
    have e2 : min (off + k) cs.toList.length = off + k := by omega
    rw [e1, e2]
    by_cases c1 : j < off + k
    · have a1 : j < off + k + 1 + xs.length := by omega
      have a2 : j < off + k + 1 := by omega
      have a3 : j < off + k + (xs.length + 1) := by omega
      have a4 : ¬ off + k = j := by omega
      simp [a1, a2, a3, c1, a4]; omega
    · by_cases c2 : j = off + k
      · subst c2
        have a1 : off + k < off + k + 1 + xs.length := by omega
        simp [a1]; omega
      · by_cases c3 : j < off + k + 1 + xs.length
        · have a2 : ¬ j < off + k + 1 := by omega
          have a3 : j < off + k + (xs.length + 1) := by omega
          have a5 : j - (off + k) = (j - (off + k + 1)) + 1 := by omega
          simp [c3, a2, a3, c1, a5]
        · have a3 : ¬ j < off + k + (xs.length + 1) := by omega
          have a6 : ¬ off + k = off + (k + 1) + xs.length + (j - (off + k + 1 + xs.length)) := by omega
          simp only [c3, a3, if_false, a6]
          congr 1; omega

theorem Qjm (off : Nat) (v : Array Value) (cells : Array Value) (h : off + v.size ≤ cells.size) : (v.zipIdx.foldl (fun cs (x : Value × Nat) => cs.setIfInBounds (off + x.2) x.1) cells).toList = cells.toList.take off ++ v.toList ++ cells.toList.drop (off + v.toList.length) := by
  have := Qk1 off v.toList 0 cells (by simp; omega)
  rw [← Array.foldl_toList, Array.toList_zipIdx]
  simpa using this

theorem QdZ {Pl : Nat → Option (Nat × Nat)} {C : Ctx} : ∀ (parts : List (Nat × Value)) (aparts : List (Nat × Nat × List AV)) (cells : Array Value) (ls : List AV),
    RelL C ls cells.toList → parts.length = aparts.length →
    (∀ (k i : Nat) (v : Value) (off sz : Nat) (new : List AV), parts[k]? = some (i, v) → aparts[k]? = some (off, sz, new) → Pl i = some (off, sz) ∧ RelL C new v.cells.toList ∧ new.length = sz ∧ off + sz ≤ ls.length) →
    ∃ cells', Instr.fill Pl cells parts = some cells' ∧ RelL C (aparts.foldl (fun ls p => YB ls p.1 p.2.2) ls) cells'.toList
  | [], [], cells, ls, h, _, _ => ⟨cells, rfl, h⟩
  | [], _ :: _, _, _, _, hl, _ => by simp at hl
  | _ :: _, [], _, _, _, hl, _ => by simp at hl
  | (i, v) :: parts, (off, sz, new) :: aparts, cells, ls, h, hl, hp => by
    obtain ⟨h1, h2, h3, h4⟩ := hp 0 i v off sz new rfl rfl
    have hvl : v.cells.size = sz := by have := h2.length; simp at this; omega
    have hcl : cells.size = ls.length := by have := h.length; simpa using this
    have hz := Qjm off v.cells cells (by omega)
    have hrel := Qiz h h2 off
    rw [← hz] at hrel
    have hlen2 : (YB ls off new).length = ls.length := by
      unfold YB; simp only [List.length_append, List.length_take, List.length_drop]; omega
    obtain ⟨cells', h5, h6⟩ := QdZ (Pl := Pl) parts aparts _ _ hrel (by simpa using hl) (fun k i' v' off' sz' new' hk hk' => by
      have := hp (k + 1) i' v' off' sz' new' (by simpa using hk) (by simpa using hk')
      rw [hlen2]; exact this)
    refine ⟨cells', ?_, h6⟩
    have hc : ¬ (v.cells.size ≠ sz ∨ off + v.cells.size > cells.size) := by omega
    simp only [Instr.fill, h1]
    rw [show (decide (v.cells.size ≠ sz) || decide (off + v.cells.size > cells.size)) = false by simp; omega]
    simpa using h5
end
end Go.Ve

namespace Go.Ve
set_option linter.unusedSimpArgs false
set_option linter.unusedVariables false
open Go.RowKit

section
variable {P : Program} {A : A0} {io : Nat → Nat → Prop} {w : World} {loc : Nat → Option Value} {M : List (Nat × AObj)}

/-! ### values -/
theorem Qhi {C : Ctx} {op : BinOp} {x y : AV} {v u : Value} (hx : RelV C x v) (hy : RelV C y u) (hp : (JB op x y).pre) (t : TypeId) (a b : Operand) :
    ∃ r, (do eqGuard op t a b v u; binOp op t v u : Sem Value).run P w = .ok r w ∧ RelV C (JB op x y).v r ∧ (JB op x y).ups = [] := by
  cases x <;> cases y <;> simp only [JB, bad] at hp <;> try exact hp.elim
  case int.int k m k' n =>
    simp only [RelV] at hx hy
    subst hx; subst hy
    have hg : (eqGuard op t a b (.int k m) (.int k' n)).run P w = .ok () w := by
      unfold eqGuard; cases op <;> simp
    cases op <;> simp only [bad] at hp <;> try exact hp.elim
    case quo =>
      obtain ⟨rfl, hn⟩ := hp
      refine ⟨.int k (k.wrap (m.tdiv n)), ?_, by simp [JB, RelV], rfl⟩
      simp only [Sem.run_bind, hg, Result.andThen_ok]; simp [binOp, Op.intDiv, hn]
    case rem =>
      obtain ⟨rfl, hn⟩ := hp
      refine ⟨.int k (m.tmod n), ?_, by simp [JB, RelV], rfl⟩
      simp only [Sem.run_bind, hg, Result.andThen_ok]; simp [binOp, Op.intDiv, hn]
    case and => subst hp; exact ⟨.int k (QkX .and k m n), by simp only [Sem.run_bind, hg, Result.andThen_ok, binOp, ne_eq, not_true_eq_false, if_false]; rfl, by simp [JB, RelV], rfl⟩
    case or => subst hp; exact ⟨.int k (QkX .or k m n), by simp only [Sem.run_bind, hg, Result.andThen_ok, binOp, ne_eq, not_true_eq_false, if_false]; rfl, by simp [JB, RelV], rfl⟩
    case xor => subst hp; exact ⟨.int k (QkX .xor k m n), by simp only [Sem.run_bind, hg, Result.andThen_ok, binOp, ne_eq, not_true_eq_false, if_false]; rfl, by simp [JB, RelV], rfl⟩
    case andNot => subst hp; exact ⟨.int k (QkX .andNot k m n), by simp only [Sem.run_bind, hg, Result.andThen_ok, binOp, ne_eq, not_true_eq_false, if_false]; rfl, by simp [JB, RelV], rfl⟩
    all_goals
      subst hp
      refine ⟨_, by simp only [Sem.run_bind, hg, Result.andThen_ok]; simp [binOp, Op.intArith, Op.intCmp]; rfl, by simp [JB, RelV], rfl⟩
  case str.str s1 s2 =>
    simp only [RelV] at hx hy
    subst hx; subst hy
    have hg : (eqGuard op t a b (.string s1) (.string s2)).run P w = .ok () w := by
      unfold eqGuard; cases op <;> simp
    have hl : ∀ s : ByteArray, s.size = s.toList.length := fun s => by rw [ByteArray.toList_eq]; simp
    cases op <;> simp only [bad, ok1] at hp <;> try exact hp.elim
    case add =>
      refine ⟨.string (s1 ++ s2), ?_, by simp [JB, RelV], rfl⟩
      simp only [Sem.run_bind, hg, Result.andThen_ok]
      have : ¬ (((s1.size + s2.size : Nat) : Int) > IntKind.i64.max) := by
        rw [hl s1, hl s2]; simp [IntKind.max, IntKind.signed, IntKind.bits]; omega
      simp only [binOp, Op.stringOp, if_neg this]; rfl
    all_goals
      refine ⟨_, by simp only [Sem.run_bind, hg, Result.andThen_ok]; simp [binOp, Op.stringOp]; rfl, by simp [JB, RelV, ok1], rfl⟩


theorem Qga {C : Ctx} {op : BinOp} {x y : AV} {v u : Value} (hx : RelV C x v) (hy : RelV C y u) (hp : (QO op x y).pre) (t : TypeId) (a b : Operand) :
    ∃ r, (do eqGuard op t a b v u; binOp op t v u : Sem Value).run P w = .ok r w ∧ RelV C (QO op x y).v r ∧ (QO op x y).ups = [] := by
  unfold QO at hp
  split at hp
  · rename_i m n
    simp only [RelV] at hx hy
    subst hx; subst hy
    have hg : (eqGuard op t a b (.int .i64 m) (.int .i64 n)).run P w = .ok () w := by
      unfold eqGuard; cases op <;> simp
    cases op <;> simp only [bad] at hp <;> try exact hp.elim
    case add => exact ⟨.int .i64 (m + n), by simp only [Sem.run_bind, hg, Result.andThen_ok]; simp [binOp, Op.intArith, IntWalk.i64_in _ hp], by simp [QO, RelV], rfl⟩
    case sub => exact ⟨.int .i64 (m - n), by simp only [Sem.run_bind, hg, Result.andThen_ok]; simp [binOp, Op.intArith, IntWalk.i64_in _ hp], by simp [QO, RelV], rfl⟩
    case mul => exact ⟨.int .i64 (m * n), by simp only [Sem.run_bind, hg, Result.andThen_ok]; simp [binOp, Op.intArith, IntWalk.i64_in _ hp], by simp [QO, RelV], rfl⟩
    case quo =>
      obtain ⟨h0, h1, h2⟩ := hp
      have hn : n ≠ 0 := by omega
      have hd : m.tdiv n = m / n := Int.tdiv_eq_ediv_of_nonneg h0
      have hle : m / n ≤ m := Int.ediv_le_self _ h0
      have hge : 0 ≤ m / n := Int.ediv_nonneg h0 (by omega)
      exact ⟨.int .i64 (m / n), by simp only [Sem.run_bind, hg, Result.andThen_ok]; simp [binOp, Op.intDiv, hn, hd, IntWalk.i64_in (m / n) (by omega)], by simp [QO, RelV], rfl⟩
    case rem =>
      obtain ⟨h0, h1⟩ := hp
      have hn : n ≠ 0 := by omega
      exact ⟨.int .i64 (m % n), by simp only [Sem.run_bind, hg, Result.andThen_ok]; simp [binOp, Op.intDiv, hn, Int.tmod_eq_emod_of_nonneg h0], by simp [QO, RelV], rfl⟩
  · exact hp.elim

theorem Qk2 {C : Ctx} {a b : Bool} {v u : Value} (hx : RelV C (.bool a) v) (hy : RelV C (.bool b) u) {t : TypeId} (ht : P.underlying t = some .bool) (neg : Bool) (x y : Operand) :
    (do eqGuard (if neg then .neq else .eql) t x y v u; binOp (if neg then .neq else .eql) t v u : Sem Value).run P w = .ok (.bool (if neg then !(a == b) else a == b)) w := by
  simp only [RelV] at hx hy
  subst hx; subst hy
  have he : ∀ w : World, (Op.equal t (.bool a) (.bool b)).run P w = .ok (a == b) w := fun w => run_equalIn_bool w 9999 t a b ht
  cases neg
  · have h1 : (binOp .eql t (.bool a) (.bool b)).run P w = .ok (.bool (a == b)) w := by simp only [binOp]; simp [he]
    simp [eqGuard, h1]
  · have h1 : (binOp .neq t (.bool a) (.bool b)).run P w = .ok (.bool (!(a == b))) w := by simp only [binOp]; simp [he]
    simp [eqGuard, h1]

/-- A struct type of plain fields, one cell each. -/
def Qjn (P : Program) (t : TypeId) (k : LK) : Bool := match P.underlying t, k with
  | some (.int _), .int => true
  | some .bool, .bool => true
  | some .string, .str => true
  | _, _ => false
def ZF (P : Program) : Nat → List LK → List Field → Bool
  | _, [], [] => true
  | k, q :: qs, f :: fs => f.name != "_" && f.offset == k && Qjn P f.type q && ZF P (k + 1) qs fs
  | _, _, _ => false
def Qby (P : Program) (t : TypeId) (ks : List LK) : Bool :=
  match P.underlying t with
  | some (.struct fs) => ZF P 0 ks fs.toList && !P.stoodInHeld t && !P.eqGuardType P.depth t
  | _ => false

theorem Qhj {C : Ctx} (d : Nat) {t : TypeId} {q : LK} (hk : Qjn P t q = true) {x y : AV} {c e : Value} (hx : RelV C x c) (hy : RelV C y e) {a : Bool} (ha : Qhg q x y = some a) :
    (Op.equalIn (d + 1) t c e).run P w = .ok a w ∧ UX P t = true := by
  cases hu : P.underlying t with
  | none => simp [Qjn, hu] at hk
  | some dd =>
    cases q <;> cases dd <;> simp [Qjn, hu] at hk
    case int.int k =>
      have hpl : UX P t = true := by simp [UX, hu]
      cases x <;> cases y <;> simp only [Qhg] at ha <;> try (simp at ha; done)
      simp only [RelV] at hx hy
      subst hx; subst hy
      split at ha
      · rename_i hk; subst hk
        simp only [Option.some.injEq] at ha; subst ha
        exact ⟨run_equalIn_int w d t _ k _ _ hu, hpl⟩
      · cases ha
    case bool.bool =>
      have hpl : UX P t = true := by simp [UX, hu]
      cases x <;> cases y <;> simp only [Qhg] at ha <;> try (simp at ha; done)
      simp only [RelV] at hx hy
      subst hx; subst hy
      simp only [Option.some.injEq] at ha; subst ha
      exact ⟨run_equalIn_bool w d t _ _ hu, hpl⟩
    case str.string =>
      have hpl : UX P t = true := by simp [UX, hu]
      cases x <;> cases y <;> simp only [Qhg] at ha <;> try (simp at ha; done)
      simp only [RelV] at hx hy
      subst hx; subst hy
      simp only [Option.some.injEq] at ha; subst ha
      exact ⟨run_equalIn_string w d t _ _ hu, hpl⟩

theorem QfH {C : Ctx} (d : Nat) : ∀ (fs : List Field) (ks : List LK) (k : Nat) (xs ys : List AV) (cs ds : List Value) (r : Bool), ZF P k ks fs = true → RelL C xs (cs.drop k) → RelL C ys (ds.drop k) → Qod ks xs ys = some r →
    (Op.eqFields (d + 1) cs.toArray ds.toArray fs).run P w = .ok r w
  | [], ks, k, xs, ys, cs, ds, r, hf, hx, hy, he => by
    cases ks with
    | cons q qs => simp [ZF] at hf
    | nil =>
      cases xs <;> cases ys <;> simp [Qod] at he
      subst he; simp [Op.eqFields]
  | f :: fs, ks, k, xs, ys, cs, ds, r, hf, hx, hy, he => by
    cases ks with
    | nil => simp [ZF] at hf
    | cons q qs =>
      cases xs with
      | nil => simp [Qod] at he
      | cons x xs =>
        cases ys with
        | nil => simp [Qod] at he
        | cons y ys =>
          simp only [ZF, Bool.and_eq_true, beq_iff_eq, bne_iff_ne] at hf
          obtain ⟨⟨⟨hn, hoff⟩, hty⟩, hfs⟩ := hf
          simp only [RelL] at hx hy
          obtain ⟨c, cs', hc, hxc, hxs⟩ := hx
          obtain ⟨e, ds', hd, hye, hys⟩ := hy
          have hck : cs[k]? = some c := by
            have : (cs.drop k)[0]? = some c := by rw [hc]; rfl
            simpa using this
          have hdk : ds[k]? = some e := by
            have : (ds.drop k)[0]? = some e := by rw [hd]; rfl
            simpa using this
          have hcs : cs.drop (k + 1) = cs' := by
            have : (cs.drop k).drop 1 = cs' := by rw [hc]; rfl
            simpa [List.drop_drop] using this
          have hds : ds.drop (k + 1) = ds' := by
            have : (ds.drop k).drop 1 = ds' := by rw [hd]; rfl
            simpa [List.drop_drop] using this
          simp only [Qod] at he
          split at he
          · rename_i a b ha hb
            simp only [Option.some.injEq] at he
            obtain ⟨hab, hplain⟩ := Qhj (w := w) d hty hxc hye ha
            have hp1 : (part f.type cs.toArray f.offset).run P w = .ok c w := by
              simp [part, XM hplain, hoff, hck]
            have hp2 : (part f.type ds.toArray f.offset).run P w = .ok e w := by
              simp [part, XM hplain, hoff, hdk]
            have ih := QfH d fs qs (k + 1) xs ys cs ds b hfs (by rw [hcs]; exact hxs) (by rw [hds]; exact hys) hb
            simp only [Op.eqFields, if_pos hn, Sem.run_bind, hp1, hp2, Result.andThen_ok, hab]
            subst he
            cases a
            · simp
            · simpa using ih
          · cases he

theorem Qk3 {C : Ctx} {a b : List AV} {v u : Value} (hx : RelV C (.agg a) v) (hy : RelV C (.agg b) u) {t : TypeId} {ks : List LK} (ht : Qby P t ks = true) {r : Bool} (hr : Qod ks a b = some r) (neg : Bool) (x y : Operand) :
    (do eqGuard (if neg then .neq else .eql) t x y v u; binOp (if neg then .neq else .eql) t v u : Sem Value).run P w = .ok (.bool (if neg then !r else r)) w := by
  simp only [RelV] at hx hy
  obtain ⟨cs, rfl, hx⟩ := hx
  obtain ⟨ds, rfl, hy⟩ := hy
  unfold Qby at ht
  split at ht
  · rename_i fs hu
    simp only [Bool.and_eq_true, Bool.not_eq_true'] at ht
    obtain ⟨⟨h1, h2⟩, h3⟩ := ht
    have hfo : P.fieldsOf t = fs := by simp [Program.fieldsOf, hu]
    have he : ∀ w : World, (Op.equalIn 10000 t (.agg cs.toArray) (.agg ds.toArray)).run P w = .ok r w := fun w => by
      rw [show (10000 : Nat) = 9999 + 1 from rfl, run_equalIn_struct w 9999 t cs.toArray ds.toArray (by rw [hfo]; exact hu) h2, hfo]
      exact QfH 9998 fs.toList ks 0 a b cs ds r h1 (by simpa using hx) (by simpa using hy) hr
    cases neg
    · simp only [Bool.false_eq_true, if_false, Sem.run_bind, run_eqGuard_agg w .eql t x y _ _ h3, Result.andThen_ok, run_eql_struct, he]
    · simp only [if_true, Sem.run_bind, run_eqGuard_agg w .neq t x y _ _ h3, Result.andThen_ok, run_neq_struct, he]
  · cases ht
end
end Go.Ve

namespace Go.Ve
set_option linter.unusedSimpArgs false
set_option linter.unusedVariables false
open Go.RowKit

def fieldAt? (P : Program) (s : TypeId) (f : Nat) : Option Field := match P.underlying s with | some (.struct fs) => fs[f]? | _ => none
def Qhk (P : Program) (s : TypeId) (f off : Nat) : Bool := match fieldAt? P s f with
  | some fd => fd.offset == off && (match P.info? fd.type with | some i => i.size != 0 | none => false)
  | none => false
def QiC (P : Program) (s : TypeId) (f off : Nat) : Bool := match fieldAt? P s f with
  | some fd => fd.offset == off && UX P fd.type
  | none => false
def QiD (P : Program) (s : TypeId) (f off n : Nat) : Bool := match fieldAt? P s f with
  | some fd => fd.offset == off && Qoe P fd.type && Vj P fd.type n
  | none => false
def Qhl (P : Program) (t sz : Nat) : Bool := match P.underlying t with | some (.slice e) => Vj P e sz | _ => false
def Za (P : Program) (t : Nat) : Bool := match P.underlying t with | some .string => true | _ => false
def Qqr (P : Program) (t : Nat) : Bool := match P.underlying t with | some .bool => true | _ => false
def Qqs (P : Program) (t : Nat) (k : IntKind) : Bool := match P.underlying t with | some (.int k') => k == k' | _ => false
def QfI (P : Program) (t : Nat) : Bool := match P.underlying t with | some (.slice _) => true | _ => false
def mkB (P : Program) (t e sz : Nat) (zs : List AV) : Bool := match P.underlying t with
  | some (.slice e') => e == e' && QkY P e zs && sz == zs.length && (match P.info? e with | some i => decide (i.bytes ≤ 65536) && decide (0 < i.size) | none => false)
  | _ => false
def Qog : List (Nat × Operand) → List SX → Nat → Bool
  | [], [], _ => true
  | (i, x) :: xs, y :: ys, k => i == k && okX x y && Qog xs ys (k + 1)
  | _, _, _ => false
def Qqt (P : Program) (t e sz n : Nat) : Bool := match P.underlying t with
  | some (.slice e') => e == e' && Vj P e sz && decide (0 < sz) && decide (n * sz ≤ 16777216) && (match P.info? e with | some i => (match i.zero with | some z => z.cells.size == sz | none => false) | none => false)
  | _ => false
def Qk4 (P : Program) (t : Nat) (zs : List AV) : Bool := QkY P t zs && (match P.underlying t with | some (.struct fs) => fs.toList.all (fun f => (P.info? f.type).isSome) | some (.array _ e) => (P.info? e).isSome | _ => false)
/-- A part of an array: its Qep by its number. -/
def Qgb (P : Program) (t i off n len : Nat) : Bool := match P.underlying t with | some (.array _ e) => off == i * n && Vj P e n && decide (off + n ≤ len) | _ => false
def UY (P : Program) (t : Nat) (len : Nat) : List (Nat × Operand) → List (Nat × Nat × SX) → Bool
  | [], [] => true
  | (i, x) :: xs, (off, n, y) :: ys => (match fieldAt? P t i with | some fd => fd.offset == off && Vj P fd.type n && decide (off + n ≤ len) | none => Qgb P t i off n len) && okX x y && UY P t len xs ys
  | _, _ => false
def okO : Option Operand → Option SX → Bool
  | none, none => true
  | some x, some y => okX x y
  | _, _ => false

def QfJ : List Operand → List SX → Bool
  | [], [] => true
  | x :: xs, y :: ys => okX x y && QfJ xs ys
  | _, _ => false
def Qk5 (P : Program) (t : Nat) : Bool := match P.underlying t with | some (.slice e) => (match P.underlying e with | some (.int .u8) => Vj P e 1 | _ => false) | _ => false

def QiE (P : Program) (k : TypeId) : Nat → Bool
  | 0 => Za P k
  | n + 1 => (match P.underlying k with | some (.array m e) => m == n + 1 && Qqs P e .i64 && P.cellsOf k == n + 1 && P.cellsOf e == 1 | _ => false) && decide (0 < P.types.size)
def zvB : Value → AV → Bool
  | .agg cs, .agg ls => UL cs.toList ls && ls.all fun x => match x with | .sl .. => true | .int .. => true | .bool .. => true | .str .. => true | _ => false
  | v, x => Qal v x && (match x with | .sl .. => true | .int .. => true | .bool .. => true | .str .. => true | _ => false)
def Qoh (P : Program) (t : TypeId) (kk : Nat) : Bool := match P.underlying t with | some (.map k _) => QiE P k (kk % 1000) | _ => false
def QmO (P : Program) (t : TypeId) (z : AV) : Bool := match P.underlying t with
  | some (.map _ e) => (match P.info? e with | some i => (match i.zero with | some zv => zvB zv z | none => false) | none => false)
  | _ => false
def QoF (P : Program) (t : TypeId) (n : Nat) : Bool := match P.underlying t with | some (.array m e) => m == n && UX P e && Vj P e 1 | _ => false
def QoG (P : Program) (t : TypeId) (n sz : Nat) : Bool := match P.underlying t with | some (.array m e) => m == n && Qoe P e && Vj P e sz | _ => false
def QoH (P : Program) (t : TypeId) (n sz : Nat) : Bool := match P.underlying t with | some (.array m e) => m == n && Vj P e sz | _ => false
def Qri (P : Program) (o : Oper) (s : SOp) : Bool :=
  match o.op, s with
  | .move x, .mv y | .assign x, .mv y => okX x y
  | .move x, .mvfrz y | .assign x, .mvfrz y => okX x y
  | .move (.const (.slice none 0 0)), .newnil .. | .assign (.const (.slice none 0 0)), .newnil .. => true
  | .pick c a b, .pick c' a' b' => okX c c' && okX a a' && okX b b'
  | .binOp op _ x y _, .bin op' x' y' => op == op' && okX x x' && okX y y'
  | .binOp op _ x y _, .binN op' x' y' => op == op' && okX x x' && okX y y'
  | .binOp op t x y _, .eqB neg x' y' => op == (if neg then .neq else .eql) && Qqr P t && okX x x' && okX y y'
  | .binOp op t x y _, .eqS neg ks x' y' => op == (if neg then .neq else .eql) && Qby P t ks && okX x x' && okX y y'
  | .unOp .neg _ x, .neg y => okX x y
  | .unOp .not _ x, .not y => okX x y
  | .convert src dst x, .conv k y => Qqs P dst k && (match P.underlying src with | some (.int _) => true | _ => false) && okX x y
  | .alloc t, .alloc _ zs => QkY P t zs
  | .box _ x, .box _ y => okX x y
  | .load t a, .load1 x => UX P t && okX a x
  | .load t a, .loadN n x => Qoe P t && Vj P t n && okX a x
  | .store t a v, .store n x y => Vj P t n && okX a x && okX v y
  | .nilCheck x, .nilck y => okX x y
  | .fieldAddr s x f, .faddr off y => Qhk P s f off && okX x y
  | .field s x f, .field1 off y => QiC P s f off && okX x y
  | .field s x f, .fieldN off n y => QiD P s f off n && okX x y
  | .indexAddr t x i, .iaddr sz y j => Qhl P t sz && okX x y && okX i j
  | .index t x i, .istr y j => Za P t && okX x y && okX i j
  | .slice t x lo hi none, .slStr y lo' hi' => Za P t && okX x y && okO lo lo' && okO hi hi'
  | .slice t x lo hi none, .slSl sz y lo' hi' => Qhl P t sz && okX x y && okO lo lo' && okO hi hi'
  | .call c, .lenS y => (match c.callee with | .builtin .len => true | _ => false) && (match c.argTypes.toList with | [t] => Za P t | _ => false) && (match c.args.toList with | [x] => okX x y | _ => false)
  | .call c, .lenL y => (match c.callee with | .builtin .len => true | _ => false) && (match c.argTypes.toList with | [t] => QfI P t | _ => false) && (match c.args.toList with | [x] => okX x y | _ => false)
  | .call c, .mx x y => (match c.callee with | .builtin .max => true | _ => false) && (match c.args.toList with | [a, b] => okX a x && okX b y | _ => false)
  | .call c, .mn x y => (match c.callee with | .builtin .min => true | _ => false) && (match c.args.toList with | [a, b] => okX a x && okX b y | _ => false)
  | .call c, .app _ e sz x y => (match c.callee with | .builtin .append => true | _ => false) && (match c.argTypes.toList with | [t, t'] => t == t' && Qqm P t (e % 1000000) sz | _ => false) && (match c.args.toList with | [a, b] => okX a x && okX b y | _ => false)
  | .extract x i, .ext j y => i == j && okX x y
  | .build t ps, .build zs qs => Qk4 P t zs && UY P t zs.length ps.toList qs
  | .buildSlice t n ps, .lit e sz qs => n == qs.length && Qqt P t e sz n && Qog ps.toList qs 0
  | .buildSlice t n ps, .litOwn _ e sz qs => n == qs.length && Qqt P t (e % 1000000) sz n && Qog ps.toList qs 0
  | .makeSlice t l c, .mk _ e sz zs n => mkB P t (e % 1000000) sz zs && okX l n && okX c n
  | .makeFunc (.func f) first caps, .clos f' caps' => f == f' && first.isEmpty && QfJ caps.toList caps'
  | .convert src dst x, .b2s y => Za P dst && Qk5 P src && okX x y
  | .makeMap t r, .mkmap _ kk => Qoh P t kk && r.isNone
  | .lookup t m x ok, .look ok' kk z m' k' => ok == ok' && Qoh P t kk && QmO P t z && okX m m' && okX x k'
  | .mapUpdate t m k x, .mset kk m' k' x' => Qoh P t kk && okX m m' && okX k k' && okX x x'
  | .insert t m k x, .mset kk m' k' x' => Qoh P t kk && okX m m' && okX k k' && okX x x'
  | .index t x i, .idx n y j => QoF P t n && okX x y && okX i j
  | .index t x i, .idxN n sz y j => QoG P t n sz && okX x y && okX i j
  | .indexAddr t x i, .iaddrA n sz y j => QoH P t n sz && okX x y && okX i j
  | .binOp op t x (.const (.slice none 0 0)) _, .isnil neg y => op == (if neg then .neq else .eql) && QfI P t && okX x y
  | .call c, .appN _ e sz x y => (match c.callee with | .builtin .append => true | _ => false) && (match c.argTypes.toList with | [t, t'] => t == t' && Qqm P t (e % 1000000) sz | _ => false) && (match c.args.toList with | [a, b] => okX a x && okX b y | _ => false)
  | _, _ => false

section
variable {P : Program} {A : A0} {io : Nat → Nat → Prop} {w : World} {loc : Nat → Option Value} {M : List (Nat × AObj)}

theorem QiF {s f off : Nat} (h : Qhk P s f off = true) : ∃ fs fd, P.underlying s = some (.struct fs) ∧ fs[f]? = some fd ∧ fd.offset = off ∧ ∃ i, P.info? fd.type = some i ∧ i.size ≠ 0 := by
  unfold Qhk at h
  split at h
  · rename_i fd hfd
    unfold fieldAt? at hfd
    split at hfd
    · rename_i fs hs
      simp only [Bool.and_eq_true, beq_iff_eq] at h
      obtain ⟨h1, h2⟩ := h
      split at h2
      · rename_i i hi; exact ⟨fs, fd, hs, hfd, h1, i, hi, by simpa using h2⟩
      · cases h2
    · cases hfd
  · cases h

theorem Qbz {s f off : Nat} (h : Qhk P s f off = true) (b o : Nat) : (Instr.fieldAt s (.pointer (some ⟨b, o, none⟩)) f).run P w = .ok (.pointer (some ⟨b, o + off, none⟩)) w := by
  obtain ⟨fs, fd, h1, h2, h3, i, h4, h5⟩ := QiF h
  subst h3
  simp [Instr.fieldAt, run_underlying h1, h2, Instr.sureAddr, fieldPlace, sizeOf, typeInfo, h4, h5, Vk]

theorem QiG (hI : Inv A ⟨io, w, loc, getM M⟩) {x : AV} {v : Value} (hx : RelV ⟨io, w, loc, getM M⟩ x v) {s f off : Nat} (h : Qhk P s f off = true) (hp : (JC (getM M) off x).pre) :
    ∃ r, (Instr.fieldAt s v f).run P w = .ok r w ∧ RelV ⟨io, w, loc, getM M⟩ (JC (getM M) off x).v r ∧ (JC (getM M) off x).ups = [] := by
  unfold JC at hp ⊢
  cases x <;> simp only [bad] at hp <;> try exact hp.elim
  case ptr o k =>
    have hx0 := hx
    simp only [RelV] at hx
    obtain ⟨_, obj, hv, h1, h2, h3⟩ := hx
    have h1 : getM M o = some obj := h1
    cases obj with
    | box ls =>
      obtain ⟨b, rfl, rfl⟩ := h3
      refine ⟨_, Qbz h b k, ?_, by simp [h1, ok1]⟩
      simp only [h1, ok1, RelV]
      exact ⟨rfl, .box ls, _, (by first | exact h1 | rfl), h2, b, rfl, rfl⟩
    | arr => simp [h1] at hp
    | gone => simp [h1] at hp
    | mp => simp [h1] at hp
  case elt o ver i k =>
    simp only [RelV] at hx
    obtain ⟨_, obj, hv, h1, h2, h3⟩ := hx
    have h1 : getM M o = some obj := h1
    cases obj with
    | box ls => simp [h1] at hp
    | gone => simp [h1] at hp
    | mp => simp [h1] at hp
    | arr e cv sz xs =>
      simp only [h1] at hp ⊢
      obtain ⟨h3a, h3b⟩ := h3
      obtain ⟨hi, g, n, cap, rfl, rfl⟩ := h3b hp
      refine ⟨_, Qbz h g (i * sz + k), ?_, by trivial⟩
      simp only [RelV]
      exact ⟨rfl, .arr e cv sz xs, _, h1, h2, h3a, fun _ => ⟨hi, g, n, cap, rfl, by rw [Nat.add_assoc]⟩⟩
  case pp t ls =>
    simp only [RelV] at hx
    obtain ⟨hf, b, o, cs, rfl, h2, h3, h4⟩ := hx
    refine ⟨_, Qbz h b o, ?_, rfl⟩
    simp only [ok1, RelV]
    have hd : ∀ {a : List AV} (n : Nat), flatOk a = true → flatOk (a.drop n) = true := by
      intro a; induction a with
      | nil => intro n _; simp [flatOk]
      | cons y ys ih => intro n h1; cases n with
        | zero => simpa using h1
        | succ n => simp only [flatOk, Bool.and_eq_true, List.drop_succ_cons] at h1 ⊢; exact ih n h1.2
    exact ⟨hd off hf, b, o + off, cs.drop off, rfl, h2, h3.drop off, fun j c hj => by rw [Nat.add_assoc]; exact h4 (off + j) c (by simpa using hj)⟩

theorem Qqu (hI : Inv A ⟨io, w, loc, getM M⟩) {x : AV} {v : Value} (hx : RelV ⟨io, w, loc, getM M⟩ x v) {off : Nat} (hp : (JC (getM M) off x).pre) :
    ∃ b o, v = .pointer (some ⟨b, o, none⟩) ∧ RelV ⟨io, w, loc, getM M⟩ (JC (getM M) off x).v (.pointer (some ⟨b, o + off, none⟩)) ∧ (JC (getM M) off x).ups = [] := by
  unfold JC at hp ⊢
  cases x <;> simp only [bad] at hp <;> try exact hp.elim
  case ptr o k =>
    have hx0 := hx
    simp only [RelV] at hx
    obtain ⟨_, obj, hv, h1, h2, h3⟩ := hx
    have h1 : getM M o = some obj := h1
    cases obj with
    | box ls =>
      obtain ⟨b, rfl, rfl⟩ := h3
      refine ⟨b, k, rfl, ?_, by simp [h1, ok1]⟩
      simp only [h1, ok1, RelV]
      exact ⟨rfl, .box ls, _, (by first | exact h1 | rfl), h2, b, rfl, rfl⟩
    | arr => simp [h1] at hp
    | gone => simp [h1] at hp
    | mp => simp [h1] at hp
  case elt o ver i k =>
    simp only [RelV] at hx
    obtain ⟨_, obj, hv, h1, h2, h3⟩ := hx
    have h1 : getM M o = some obj := h1
    cases obj with
    | box ls => simp [h1] at hp
    | gone => simp [h1] at hp
    | mp => simp [h1] at hp
    | arr e cv sz xs =>
      simp only [h1] at hp ⊢
      obtain ⟨h3a, h3b⟩ := h3
      obtain ⟨hi, g, n, cap, rfl, rfl⟩ := h3b hp
      refine ⟨g, i * sz + k, rfl, ?_, by trivial⟩
      simp only [RelV]
      exact ⟨rfl, .arr e cv sz xs, _, h1, h2, h3a, fun _ => ⟨hi, g, n, cap, rfl, by rw [Nat.add_assoc]⟩⟩
  case pp t ls =>
    simp only [RelV] at hx
    obtain ⟨hf, b, o, cs, rfl, h2, h3, h4⟩ := hx
    refine ⟨b, o, rfl, ?_, rfl⟩
    simp only [ok1, RelV]
    have hd : ∀ {a : List AV} (n : Nat), flatOk a = true → flatOk (a.drop n) = true := by
      intro a; induction a with
      | nil => intro n _; simp [flatOk]
      | cons y ys ih => intro n h1; cases n with
        | zero => simpa using h1
        | succ n => simp only [flatOk, Bool.and_eq_true, List.drop_succ_cons] at h1 ⊢; exact ih n h1.2
    exact ⟨hd off hf, b, o + off, cs.drop off, rfl, h2, h3.drop off, fun j c hj => by rw [Nat.add_assoc]; exact h4 (off + j) c (by simpa using hj)⟩

theorem Qhm {t n sz : Nat} (h : QoH P t n sz = true) (k : IntKind) {i : Int} {b off : Nat} (h0 : 0 ≤ i) (h1 : i < n) :
    (Instr.indexAt t (.pointer (some ⟨b, off, none⟩)) (.int k i)).run P w = .ok (.pointer (some ⟨b, off + i.toNat * sz, none⟩)) w := by
  unfold QoH at h
  split at h
  · rename_i m e hu
    simp only [Bool.and_eq_true, beq_iff_eq] at h
    obtain ⟨rfl, hs⟩ := h
    simp [Instr.indexAt, asIntOf, run_underlying hu, h0, h1, Xg hs, Vk, Instr.sureAddr]
  · cases h
theorem Qc9 {t sz : Nat} (h : Qhl P t sz = true) : ∃ e, P.underlying t = some (.slice e) ∧ Vj P e sz = true := by
  unfold Qhl at h; split at h
  · rename_i e he; exact ⟨e, he, h⟩
  · cases h

theorem Qev {t sz : Nat} (h : Qhl P t sz = true) (k : IntKind) {i : Int} {b off n cap : Nat} (h0 : 0 ≤ i) (h1 : i < n) :
    (Instr.indexAt t (.slice (some ⟨b, off, none⟩) n cap) (.int k i)).run P w = .ok (.pointer (some ⟨b, off + i.toNat * sz, none⟩)) w := by
  obtain ⟨e, he, hs⟩ := Qc9 h
  simp [Instr.indexAt, asIntOf, run_underlying he, h0, h1, Xg hs, Vk]

theorem QiH (hI : Inv A ⟨io, w, loc, getM M⟩) {x : AV} {v : Value} (hx : RelV ⟨io, w, loc, getM M⟩ x v) {t sz : Nat} (h : Qhl P t sz = true) {k : IntKind} {i : Int} (hp : (Qbl (getM M) sz i x).pre) :
    ∃ r, (Instr.indexAt t v (.int k i)).run P w = .ok r w ∧ RelV ⟨io, w, loc, getM M⟩ (Qbl (getM M) sz i x).v r ∧ (Qbl (getM M) sz i x).ups = [] := by
  unfold Qbl at hp ⊢
  cases x <;> simp only [bad] at hp <;> try exact hp.elim
  case sl tg sz' xs =>
    obtain ⟨rfl, h0, h1⟩ := hp
    simp only [RelV] at hx
    obtain ⟨hf, hx⟩ := hx
    rcases hx with ⟨rfl, _⟩ | ⟨b, off, cap, css, rfl, h2, h3, h4, h5⟩
    · simp at h1; omega
    · refine ⟨_, Qev h k h0 h1, ?_, rfl⟩
      have hlt : i.toNat < xs.length := by omega
      obtain ⟨r, hr, hrel⟩ := h4.get i.toNat [] hlt
      simp only [RelV]
      refine ⟨hf _ (by rw [List.getD_eq_getElem?_getD, List.getElem?_eq_getElem hlt]; simp), b, off + i.toNat * sz, r, rfl, h3, hrel, (h5 _ _ hr).2⟩
  case own o ver lo hi =>
    simp only [RelV] at hx
    obtain ⟨_, obj, hv, h1, h2, h3⟩ := hx
    have h1 : getM M o = some obj := h1
    have h2 : loc o = some hv := h2
    cases obj with
    | box ls => simp [h1] at hp
    | gone => simp [h1] at hp
    | mp => simp [h1] at hp
    | arr e cv sz' xs =>
      simp only [h1] at hp ⊢
      obtain ⟨rfl, hver, h0, hlt⟩ := hp
      obtain ⟨hlo, hhi, base, n, cap, rfl, hcap, rfl⟩ := h3.2 hver
      obtain ⟨hv', h4, css, h5, h6, h7, h8⟩ := hI.wf.obj o _ h1
      have h4 : loc o = some _ := h4
      rw [h2] at h4; cases h4
      rcases h7.2 with ⟨hq, hn⟩ | ⟨g, cap', cur, hq, _, hg, hnc, hcm, hcs, htake⟩
      · omega
      · simp only [Value.slice.injEq] at hq
        obtain ⟨rfl, rfl, rfl⟩ := hq
        have hcl : ¬ cap = lo := by omega
        refine ⟨.pointer (some ⟨g, lo * sz + i.toNat * sz, none⟩), ?_, ?_, by trivial⟩
        · have := Qev (P := P) (w := w) h k (b := g) (off := lo * sz) (n := hi - lo) (cap := cap - lo) h0 hlt
          simpa [hcl, Vk] using this
        · simp only [RelV]
          refine ⟨rfl, .arr e cv sz xs, _, h1, h2, h3.1, fun _ => ⟨by omega, g, _, cap, rfl, by rw [Nat.add_mul]; simp⟩⟩

theorem Qhn {C : Ctx} {ls : List AV} {v : Value} (hx : RelV C (.agg ls) v) {s f off : Nat} (h : QiC P s f off = true) (hp : off < ls.length) :
    ∃ r, (Instr.field s v f).run P w = .ok r w ∧ RelV C (ls.getD off .junk) r := by
  simp only [RelV] at hx
  obtain ⟨cs, rfl, hr⟩ := hx
  unfold QiC fieldAt? at h
  split at h
  · rename_i fd hfd
    split at hfd
    · rename_i fs hs
      simp only [Bool.and_eq_true, beq_iff_eq] at h
      obtain ⟨h1, h2⟩ := h
      subst h1
      obtain ⟨c, hc, hrel⟩ := hr.get fd.offset .junk hp
      exact ⟨c, by simp [Instr.field, run_underlying hs, hfd, asAgg, part, XM h2, hc], hrel⟩
    · cases hfd
  · cases h

theorem Qho {C : Ctx} {ls : List AV} {v : Value} (hx : RelV C (.agg ls) v) {s f off n : Nat} (h : QiD P s f off n = true) (hp : off + n ≤ ls.length) :
    ∃ r, (Instr.field s v f).run P w = .ok r w ∧ RelV C (.agg ((ls.drop off).take n)) r := by
  simp only [RelV] at hx
  obtain ⟨cs, rfl, hr⟩ := hx
  unfold QiD fieldAt? at h
  split at h
  · rename_i fd hfd
    split at hfd
    · rename_i fs hs
      simp only [Bool.and_eq_true, beq_iff_eq] at h
      obtain ⟨⟨h1, h2⟩, h3⟩ := h
      subst h1
      refine ⟨.agg ((cs.drop fd.offset).take n).toArray, ?_, by simp only [RelV]; exact ⟨_, rfl, (hr.drop _).take _⟩⟩
      simp [Instr.field, run_underlying hs, hfd, asAgg, part, V1 h2, Xg h3, List.extract_eq_take_drop]
    · cases hfd
  · cases h

end
end Go.Ve

namespace Go.Ve
set_option linter.unusedSimpArgs false
set_option linter.unusedVariables false
open Go.RowKit

theorem Gp (s : ByteArray) : s.size = s.toList.length := by rw [ByteArray.toList_eq]; simp

section
variable {P : Program} {A : A0} {io : Nat → Nat → Prop} {w : World} {loc : Nat → Option Value} {M : List (Nat × AObj)}

theorem QmP {t : Nat} (h : Za P t = true) (s : ByteArray) (k : IntKind) {i : Int} (h0 : 0 ≤ i) (h1 : i < s.toList.length) :
    (Instr.index t (.string s) (.int k i)).run P w = .ok (.int .u8 ((s.toList.getD i.toNat 0).toNat : Int)) w := by
  have hu : P.underlying t = some .string := by
    unfold Za at h; split at h
    · assumption
    · cases h
  have hlt : i.toNat < s.size := by rw [Gp]; omega
  have hb : s[i.toNat]? = some (s.toList.getD i.toNat 0) := by
    rw [ByteArray.toList_eq, List.getD_eq_getElem?_getD]
    have : s[i.toNat]? = s.data[i.toNat]? := by
      simp only [getElem?_def]
      rfl
    rw [this]
    have hlt' : i.toNat < s.data.size := hlt
    simp only [Array.getElem?_toList]
    rw [Array.getElem?_eq_getElem hlt']; rfl
  simp [Instr.index, asIntOf, run_underlying hu, h0, hb]

theorem Qgc (hG : globOk ⟨io, w, loc, getM M⟩) {E : List (Nat × AV)} {a : Act} (hE : ∀ k, RelV ⟨io, w, loc, getM M⟩ (getE E k) (a.tmps.getD k undef)) {x : Operand} {y : SX} (hx : okX x y = true) {n d : Int} (hn : Gk (getE E) d (some y) = some n) :
    ∃ k, a.eval x = .int k n := by
  have := KG hG hE hx
  simp only [Gk] at hn
  split at hn
  · rename_i k m hm
    rw [hm] at this
    simp only [RelV] at this
    cases hn
    exact ⟨k, this⟩
  · cases hn

theorem Qda (hG : globOk ⟨io, w, loc, getM M⟩) {E : List (Nat × AV)} {a : Act} (hE : ∀ k, RelV ⟨io, w, loc, getM M⟩ (getE E k) (a.tmps.getD k undef)) {lo hi : Option Operand} {lo' hi' : Option SX} (hlo : okO lo lo' = true) (hhi : okO hi hi' = true)
    {l h : Int} {len cap : Nat} (hl : Gk (getE E) 0 lo' = some l) (hh : Gk (getE E) len hi' = some h) (h0 : 0 ≤ l) (h1 : l ≤ h) (h2 : h ≤ len) (hc : len ≤ cap) (isS : Bool) :
    (Instr.sliceBounds isS len cap (lo.map a.eval) (hi.map a.eval) none).run P w = .ok (l.toNat, h.toNat, cap) w := by
  have hb : ∀ (k : IntKind) (i : Int) (y : Nat) (code : BoundsCode), 0 ≤ i → i ≤ y → (Instr.sliceBound (.int k i) y code).run P w = .ok i.toNat w := by
    intro k i y code h3 h4
    simp [Instr.sliceBound, asIntOf, h3, h4]
  cases hi with
  | none =>
    cases hi' with
    | some _ => simp [okO] at hhi
    | none =>
      simp only [Gk, Option.some.injEq] at hh
      subst hh
      cases lo with
      | none =>
        cases lo' with
        | some _ => simp [okO] at hlo
        | none =>
          simp only [Gk, Option.some.injEq] at hl
          subst hl
          simp [Instr.sliceBounds]
      | some x =>
        cases lo' with
        | none => simp [okO] at hlo
        | some y =>
          obtain ⟨k, hk⟩ := Qgc hG hE (by simpa [okO] using hlo) hl
          simp [Instr.sliceBounds, hk, hb k l len _ h0 h1]
  | some z =>
    cases hi' with
    | none => simp [okO] at hhi
    | some z' =>
      obtain ⟨k2, hk2⟩ := Qgc hG hE (by simpa [okO] using hhi) hh
      have hhn : h ≤ (cap : Int) := by omega
      cases lo with
      | none =>
        cases lo' with
        | some _ => simp [okO] at hlo
        | none =>
          simp only [Gk, Option.some.injEq] at hl
          subst hl
          simp [Instr.sliceBounds, hk2, hb k2 h cap _ (by omega) hhn]
      | some x =>
        cases lo' with
        | none => simp [okO] at hlo
        | some y =>
          obtain ⟨k, hk⟩ := Qgc hG hE (by simpa [okO] using hlo) hl
          simp [Instr.sliceBounds, hk, hk2, hb k2 h cap _ (by omega) hhn, hb k l h.toNat _ h0 (by omega)]

theorem QmQ {C : Ctx} {t sz : Nat} {xs : List (List AV)} {v : Value} (hx : RelV C (.sl t sz xs) v) {tt : Nat} (he : Qhl P tt sz = true) {lo hi : Option Value} {l h : Nat} (h1 : l ≤ h) (h2 : h ≤ xs.length)
    (hb : ∀ cap, xs.length ≤ cap → (Instr.sliceBounds true xs.length cap lo hi none).run P w = .ok (l, h, cap) w) :
    ∃ r, (Instr.sliceAt tt v lo hi none).run P w = .ok r w ∧ RelV C (.sl t sz ((xs.take h).drop l)) r := by
  obtain ⟨e, hu, hs⟩ := Qc9 he
  simp only [RelV] at hx
  obtain ⟨hf, hx⟩ := hx
  rcases hx with ⟨rfl, rfl | ⟨ht98, a, rfl⟩⟩ | ⟨b, off, cap, css, rfl, h3, h4, h5, h6⟩
  · have hh : h = 0 := by simpa using h2
    subst hh
    have hl : l = 0 := by omega
    subst hl
    have hb' := hb 0 (by simp)
    refine ⟨.slice none 0 0, ?_, by simp [RelV, nil0]⟩
    simp only [List.length_nil] at hb'
    simp [Instr.sliceAt, run_underlying hu, Instr.slice, hb', Xg hs]
  · have hh : h = 0 := by simpa using h2
    subst hh
    have hl : l = 0 := by omega
    subst hl
    have hb' := hb 0 (by simp)
    simp only [List.length_nil] at hb'
    refine ⟨.slice (some a) 0 0, ?_, by simp [RelV, nil0, ht98]⟩
    simp [Instr.sliceAt, run_underlying hu, Instr.slice, hb', Xg hs]
  · have hb' := hb cap h3
    refine ⟨_, by simp [Instr.sliceAt, run_underlying hu, Instr.slice, hb', Xg hs]; rfl, ?_⟩
    simp only [RelV]
    refine ⟨fun r hr => hf r (List.mem_of_mem_take (List.mem_of_mem_drop hr)), .inr ?_⟩
    have hll : ((xs.take h).drop l).length = h - l := by simp only [List.length_drop, List.length_take]; omega
    have hrows : ∀ off', (cap = l ∨ off' = off + l * sz) → rowsAt C.w b off' sz ((css.take h).drop l) := by
      intro off' ho i r hi
      have hir : css[l + i]? = some r := by
        rw [List.getElem?_drop, List.getElem?_take] at hi
        split at hi
        · exact hi
        · cases hi
      have hlt := (List.getElem?_eq_some_iff.1 hir).1
      have hil : l + i < h := by
        rw [List.getElem?_drop, List.getElem?_take] at hi
        split at hi
        · assumption
        · cases hi
      rcases ho with ho | rfl
      · omega
      · have := h6 (l + i) r hir
        rw [Nat.add_mul] at this
        rw [Nat.add_assoc]
        exact this
    by_cases hcl : cap = l
    · exact ⟨b, off, cap - l, (css.take h).drop l, by simp [hcl, hll], by rw [hll]; omega, h4, (h5.take h).drop l, hrows off (.inl hcl)⟩
    · exact ⟨b, off + l * sz, cap - l, (css.take h).drop l, by simp [hcl, hll, Vk], by rw [hll]; omega, h4, (h5.take h).drop l, hrows _ (.inr rfl)⟩

theorem QiI {C : Ctx} {o ver hi0 : Nat} {v : Value} (hx : RelV C (.own o ver 0 hi0) v) {e cv sz : Nat} {xs : List (List AV)} (hM : C.M o = some (.arr e cv sz xs)) (hver : ver = cv) {tt : Nat} (he : Qhl P tt sz = true) {lo hi : Option Value} {l h : Nat} (h1 : l ≤ h) (h2 : h ≤ hi0)
    (hb : ∀ cap, hi0 ≤ cap → (Instr.sliceBounds true hi0 cap lo hi none).run P w = .ok (l, h, cap) w) :
    ∃ r, (Instr.sliceAt tt v lo hi none).run P w = .ok r w ∧ RelV C (.own o ver l h) r := by
  obtain ⟨e', hu, hs⟩ := Qc9 he
  simp only [RelV] at hx
  obtain ⟨_, obj, hv, h3, h4, h5⟩ := hx
  rw [hM] at h3; cases h3
  obtain ⟨hlo, hhi, base, n, cap, rfl, hcap, rfl⟩ := h5.2 hver
  have hb' := hb cap hcap
  have hbase : (if cap = 0 then base else base.map (·.add (0 * sz))) = base := by
    split
    · rfl
    · cases base <;> simp [Addr.add]
  rw [hbase]
  refine ⟨.slice (if cap = l then base else base.map (·.add (l * sz))) (h - l) (cap - l), ?_, ?_⟩
  · simp [Instr.sliceAt, run_underlying hu, Instr.slice, hb', Xg hs]
  · simp only [RelV]
    exact ⟨rfl, .arr e cv sz xs, _, hM, h4, h5.1, fun _ => ⟨h1, by omega, base, n, cap, rfl, by omega, rfl⟩⟩

theorem QmR {t : Nat} (h : Za P t = true) (ty : TypeId) (s : ByteArray) : (Builtin.len_ #[t] ty #[.string s]).run P w = .ok (.int .i64 s.toList.length) w := by
  unfold Za at h; split at h
  · rename_i hu; rw [← Gp]; simp [Builtin.len_, run_underlying hu, goInt]
  · cases h
theorem Qd0 {t : Nat} (h : QfI P t = true) (ty : TypeId) (a : Option Addr) (n c : Nat) : (Builtin.len_ #[t] ty #[.slice a n c]).run P w = .ok (.int .i64 n) w := by
  unfold QfI at h; split at h
  · rename_i hu; simp [Builtin.len_, run_underlying hu, goInt]
  · cases h

end
end Go.Ve

namespace Go.Ve
set_option linter.unusedSimpArgs false
set_option linter.unusedVariables false
open Go.RowKit

def YU (M : List (Nat × AObj)) (ups : List (Nat × AObj)) : List (Nat × AObj) := ups.foldr (fun p M => Xx M p.1 p.2) M

section
variable {P : Program} {A : A0} {io : Nat → Nat → Prop} {w : World} {loc : Nat → Option Value} {M : List (Nat × AObj)}

theorem Qjo (hG : globOk ⟨io, w, loc, getM M⟩) {E : List (Nat × AV)} {a : Act} (hE : ∀ k, RelV ⟨io, w, loc, getM M⟩ (getE E k) (a.tmps.getD k undef)) : ∀ {ps : List (Nat × Operand)} {qs : List SX} {k : Nat}, Qog ps qs k = true →
    ps.length = qs.length ∧ ∀ j x y, ps[j]? = some x → qs[j]? = some y → x.1 = k + j ∧ RelV ⟨io, w, loc, getM M⟩ (ev (getE E) y) (a.eval x.2)
  | [], [], k, _ => ⟨rfl, fun j x y h => by simp at h⟩
  | [], _ :: _, k, h => by simp [Qog] at h
  | (i, x) :: ps, [], k, h => by simp [Qog] at h
  | (i, x) :: ps, y :: qs, k, h => by
    simp only [Qog, Bool.and_eq_true, beq_iff_eq] at h
    obtain ⟨h1, h2⟩ := Qjo hG hE h.2
    refine ⟨by simp [h1], fun j x' y' hx hy => ?_⟩
    cases j with
    | zero => simp at hx hy; subst hx; subst hy; exact ⟨by simpa using h.1.1, KG hG hE h.1.2⟩
    | succ j => have := h2 j x' y' (by simpa using hx) (by simpa using hy); exact ⟨by omega, this.2⟩

theorem Qew {t e sz n : Nat} (h : Qqt P t e sz n = true) : P.underlying t = some (.slice e) ∧ Vj P e sz = true ∧ 0 < sz ∧ n * sz ≤ 16777216 ∧ ∃ i z, P.info? e = some i ∧ i.zero = some z ∧ z.cells.size = sz := by
  unfold Qqt at h
  split at h
  · rename_i e' hu
    simp only [Bool.and_eq_true, beq_iff_eq, decide_eq_true_eq] at h
    obtain ⟨⟨⟨⟨rfl, h1⟩, h2⟩, h3⟩, h4⟩ := h
    split at h4
    · rename_i i hi
      split at h4
      · rename_i z hz; exact ⟨hu, h1, h2, h3, i, z, hi, hz, by simpa using h4⟩
      · cases h4
    · cases h4
  · cases h

/-- A slice literal: its row. -/
theorem Qk6 (hG : globOk ⟨io, w, loc, getM M⟩) {E : List (Nat × AV)} {a : Act} (hE : ∀ k, RelV ⟨io, w, loc, getM M⟩ (getE E k) (a.tmps.getD k undef)) {t e sz : Nat} {ps : Array (Nat × Operand)} {qs : List SX} (hB : Qqt P t e sz qs.length = true) (hps : Qog ps.toList qs 0 = true)
    (hp : ∀ q ∈ qs, (YL (ev (getE E) q)).length = sz ∧ (YL (ev (getE E) q)).all Y8 = true) :
    ∃ css, RelLL ⟨io, w, loc, getM M⟩ (qs.map fun q => YL (ev (getE E) q)) css ∧ (∀ r ∈ css, r.length = sz) ∧
      (Instr.buildSlice t qs.length (ps.map fun (i, x) => (i, a.eval x))).run P w = .ok (.slice (some ⟨w.heap.size, 0, none⟩) qs.length qs.length) (w.alloc (.cells css.flatten.toArray e)) := by
  obtain ⟨hu, hs, hpos, hle, i, z, hi, hz, hzs⟩ := Qew hB
  obtain ⟨hlen, hrel⟩ := Qjo hG hE hps
  let css := ps.toList.map fun x => (a.eval x.2).cells.toList
  have h1 : RelLL ⟨io, w, loc, getM M⟩ (qs.map fun q => YL (ev (getE E) q)) css := by
    have : ∀ (ps : List (Nat × Operand)) (qs : List SX), ps.length = qs.length → (∀ (j : Nat) (x : Nat × Operand) (y : SX), ps[j]? = some x → qs[j]? = some y → RelV ⟨io, w, loc, getM M⟩ (ev (getE E) y) (a.eval x.2)) → (∀ q ∈ qs, (YL (ev (getE E) q)).all Y8 = true) →
        RelLL ⟨io, w, loc, getM M⟩ (qs.map fun q => YL (ev (getE E) q)) (ps.map fun x => (a.eval x.2).cells.toList) := by
      intro ps
      induction ps with
      | nil => intro qs h _ _; cases qs with
        | nil => simp [RelLL]
        | cons _ _ => simp at h
      | cons x ps ih =>
        intro qs h hr hf
        cases qs with
        | nil => simp at h
        | cons y qs =>
          exact RelLL.cons (V8 (hr 0 x y rfl rfl) (hf y (by simp))).1 (ih qs (by simpa using h) (fun j x' y' hx hy => hr (j + 1) x' y' (by simpa using hx) (by simpa using hy)) (fun q hq => hf q (by simp [hq])))
    exact this ps.toList qs hlen (fun j x y hx hy => (hrel j x y hx hy).2) (fun q hq => (hp q hq).2)
  have h2 : ∀ r ∈ css, r.length = sz := by
    have hl2 : ∀ {xs : List (List AV)} {cs : List (List Value)}, RelLL ⟨io, w, loc, getM M⟩ xs cs → (∀ x ∈ xs, x.length = sz) → ∀ r ∈ cs, r.length = sz := by
      intro xs
      induction xs with
      | nil => intro cs h _ r hr; simp only [RelLL] at h; subst h; cases hr
      | cons x xs ih =>
        intro cs h hx r hr
        simp only [RelLL] at h
        obtain ⟨c, cs', rfl, h3, h4⟩ := h
        rcases List.mem_cons.1 hr with rfl | hr
        · rw [h3.length]; exact hx x (by simp)
        · exact ih h4 (fun y hy => hx y (by simp [hy])) r hr
    refine hl2 h1 (fun x hx => ?_)
    obtain ⟨q, hq, rfl⟩ := List.mem_map.1 hx
    exact (hp q hq).1
  refine ⟨css, h1, h2, ?_⟩
  -- the cells, filled
  let zc : Array Value := (Array.range (qs.length * sz)).map (z.cells[· % z.cells.size]!)
  have hfill : ∀ (ps : List (Nat × Operand)) (k : Nat) (cs : Array Value), (∀ j x, ps[j]? = some x → x.1 = k + j) → (∀ x ∈ ps, (a.eval x.2).cells.toList.length = sz) → cs.size = (k + ps.length) * sz →
      ∃ cs', Instr.fill (fun i => some (i * sz, sz)) cs (ps.map fun x => (x.1, a.eval x.2)) = some cs' ∧ cs'.toList = cs.toList.take (k * sz) ++ (ps.map fun x => (a.eval x.2).cells.toList).flatten := by
    intro ps
    induction ps with
    | nil => intro k cs _ _ hsz; exact ⟨cs, rfl, by simp [List.take_of_length_le, hsz]⟩
    | cons x ps ih =>
      intro k cs hk hl hsz
      have hx1 : x.1 = k := by simpa using hk 0 x rfl
      have hxl : (a.eval x.2).cells.size = sz := by simpa using hl x (by simp)
      have hsz' : cs.size = k * sz + sz + ps.length * sz := by rw [hsz, List.length_cons, Nat.add_mul, Nat.add_mul]; omega
      have hone := QdZ (C := ⟨io, w, loc, getM M⟩) (Pl := fun i => some (i * sz, sz)) [(x.1, a.eval x.2)] [(k * sz, sz, List.replicate sz .junk)] cs (List.replicate cs.size .junk)
        (by
          have : ∀ l : List Value, RelL ⟨io, w, loc, getM M⟩ (List.replicate l.length .junk) l := by
            intro l; induction l with
            | nil => simp [RelL]
            | cons y ys ih => rw [List.length_cons, List.replicate_succ]; exact RelL.cons (by simp [RelV]) ih
          simpa using this cs.toList) rfl
        (fun k' i' v' off' sz' new' hk1 hk2 => by
          cases k' with
          | zero =>
            simp at hk1 hk2
            obtain ⟨rfl, rfl⟩ := hk1
            obtain ⟨rfl, rfl, rfl⟩ := hk2
            refine ⟨by rw [hx1], ?_, by simp, by simp; omega⟩
            have : ∀ l : List Value, RelL ⟨io, w, loc, getM M⟩ (List.replicate l.length .junk) l := by
              intro l; induction l with
              | nil => simp [RelL]
              | cons y ys ih => rw [List.length_cons, List.replicate_succ]; exact RelL.cons (by simp [RelV]) ih
            have h5 := this (a.eval x.2).cells.toList
            rwa [hl x (by simp)] at h5
          | succ k' => simp at hk1)
      -- the step itself, by the fold's text
      have hstep : Instr.fill (fun i => some (i * sz, sz)) cs ((x.1, a.eval x.2) :: (ps.map fun x => (x.1, a.eval x.2))) =
          Instr.fill (fun i => some (i * sz, sz)) ((a.eval x.2).cells.zipIdx.foldl (fun cs (c : Value × Nat) => cs.setIfInBounds (k * sz + c.2) c.1) cs) (ps.map fun x => (x.1, a.eval x.2)) := by
        simp only [Instr.fill, hx1]
        rw [show (decide ((a.eval x.2).cells.size ≠ sz) || decide (k * sz + (a.eval x.2).cells.size > cs.size)) = false by simp; omega]
        rfl
      have hfold := Qjm (k * sz) (a.eval x.2).cells cs (by omega)
      obtain ⟨cs', h6, h7⟩ := ih (k + 1) ((a.eval x.2).cells.zipIdx.foldl (fun cs (c : Value × Nat) => cs.setIfInBounds (k * sz + c.2) c.1) cs)
        (fun j y hy => by have := hk (j + 1) y (by simpa using hy); omega) (fun y hy => hl y (by simp [hy]))
        (by
          have := congrArg List.length hfold
          simp only [Array.length_toList, List.length_append, List.length_take, List.length_drop] at this
          rw [List.length_cons] at hsz
          have e : (k + 1 + ps.length) * sz = (k + (ps.length + 1)) * sz := by congr 1; omega
          rw [e]; omega)
      refine ⟨cs', by rw [List.map_cons, hstep]; exact h6, ?_⟩
      rw [h7, hfold, List.map_cons, List.flatten_cons, ← List.append_assoc]
      congr 1
      rw [List.take_append, List.take_append]
      simp only [List.length_append, List.length_take, Array.length_toList, List.take_take]
      have e1 : min (k * sz) cs.size = k * sz := by omega
      have e2 : min ((k + 1) * sz) (k * sz) = k * sz := by rw [Nat.add_mul]; omega
      rw [e1, e2, hxl]
      have e3 : (k + 1) * sz - k * sz = sz := by rw [Nat.add_mul]; omega
      have e4 : (k + 1) * sz - (k * sz + sz) = 0 := by rw [Nat.add_mul]; omega
      rw [e3, e4, List.take_zero, List.append_nil, List.take_of_length_le (l := (a.eval x.2).cells.toList) (by simp; omega)]
  obtain ⟨cs', h3, h4⟩ := hfill ps.toList 0 zc (fun j x hx => by
      have hjq : j < qs.length := by have := (List.getElem?_eq_some_iff.1 hx).1; omega
      have := (hrel j x qs[j] hx (List.getElem?_eq_getElem hjq)).1; omega) (fun x hx => h2 _ (List.mem_map.2 ⟨x, hx, rfl⟩)) (by simp only [zc, Array.size_map, Array.size_range, Nat.zero_add]; rw [hlen])
  have hps' : (ps.map fun (i, x) => (i, a.eval x)).toList = ps.toList.map fun x => (x.1, a.eval x.2) := by simp
  have hcs' : cs' = css.flatten.toArray := by
    apply Array.toList_inj.1
    rw [h4]; simp [css]
  have hn : ¬ (qs.length * sz > 2 ^ 24) := by omega
  by_cases hz0 : qs.length * sz = 0
  · have hq : qs.length = 0 := by
      rcases Nat.mul_eq_zero.1 hz0 with h | h
      · exact h
      · omega
    have hp0 : ps = #[] := by
      apply Array.toList_inj.1
      exact List.eq_nil_of_length_eq_zero (by rw [hlen]; exact hq)
    subst hp0
    simp [Instr.buildSlice, run_underlying hu, Xg hs, hq, Instr.fill, newRow, css, Array.range_zero']
  · simp only [Instr.buildSlice, Sem.run_bind, run_underlying hu, Result.andThen_ok, Xg hs, if_neg hn, if_neg hz0, Sem.run_pure, hps', newRow, zeroValue, typeInfo, run_program, hi, hz]
    simp only [zc] at h3
    simp only [h3, hcs', Sem.run_bind, run_newObj, Result.andThen_ok, Sem.run_pure]
    rfl
end
end Go.Ve

namespace Go.Ve
set_option linter.unusedSimpArgs false
set_option linter.unusedVariables false
open Go.RowKit

section
variable {P : Program} {A : A0} {io : Nat → Nat → Prop} {w : World} {loc : Nat → Option Value} {M : List (Nat × AObj)}

theorem Qk7 (hG : globOk ⟨io, w, loc, getM M⟩) {E : List (Nat × AV)} {a : Act} (hE : ∀ k, RelV ⟨io, w, loc, getM M⟩ (getE E k) (a.tmps.getD k undef)) {t : Nat} {zs : List AV} {ps : Array (Nat × Operand)} {qs : List (Nat × Nat × SX)} (hB : Qk4 P t zs = true) (hps : UY P t zs.length ps.toList qs = true)
    (hp : ∀ q ∈ qs, (YL (ev (getE E) q.2.2)).length = q.2.1 ∧ (YL (ev (getE E) q.2.2)).all Y8 = true) :
    ∃ cs, (Instr.build t (ps.map fun (i, x) => (i, a.eval x))).run P w = .ok (.agg cs) w ∧ RelL ⟨io, w, loc, getM M⟩ (qs.foldl (fun ls p => YB ls p.1 (YL (ev (getE E) p.2.2))) zs) cs.toList := by
  unfold Qk4 at hB
  simp only [Bool.and_eq_true] at hB
  obtain ⟨hz, hu⟩ := hB
  obtain ⟨i, z, hi, hz, hzc, hzs⟩ := Qc8 hz
  split at hu
  · rename_i fs hu'
    -- the parts
    have key : ∀ (ps : List (Nat × Operand)) (qs : List (Nat × Nat × SX)), UY P t zs.length ps qs = true → (∀ q ∈ qs, (YL (ev (getE E) q.2.2)).length = q.2.1 ∧ (YL (ev (getE E) q.2.2)).all Y8 = true) →
        ps.length = qs.length ∧ ∀ (k j : Nat) (v : Value) (off sz : Nat) (new : List AV), (ps.map fun x => (x.1, a.eval x.2))[k]? = some (j, v) → (qs.map fun q => (q.1, q.2.1, YL (ev (getE E) q.2.2)))[k]? = some (off, sz, new) →
          (∃ f i, fs[j]? = some f ∧ P.info? f.type = some i ∧ f.offset = off ∧ i.size = sz) ∧ RelL ⟨io, w, loc, getM M⟩ new v.cells.toList ∧ new.length = sz ∧ off + sz ≤ zs.length := by
      intro ps
      induction ps with
      | nil => intro qs h _; cases qs with
        | nil => exact ⟨rfl, fun k j v off sz new h => by simp at h⟩
        | cons _ _ => simp [UY] at h
      | cons p ps ih =>
        intro qs h hq
        obtain ⟨j0, x0⟩ := p
        cases qs with
        | nil => simp [UY] at h
        | cons q qs =>
          obtain ⟨off0, n0, y0⟩ := q
          simp only [UY, Bool.and_eq_true] at h
          obtain ⟨⟨h1, h2⟩, h3⟩ := h
          obtain ⟨ih1, ih2⟩ := ih qs h3 (fun q hq' => hq q (by simp [hq']))
          refine ⟨by simp [ih1], fun k j v off sz new hk hk' => ?_⟩
          cases k with
          | zero =>
            simp at hk hk'
            obtain ⟨rfl, rfl⟩ := hk
            obtain ⟨rfl, rfl, rfl⟩ := hk'
            unfold fieldAt? at h1
            rw [hu'] at h1
            simp only at h1
            split at h1
            · rename_i fd hfd
              simp only [Bool.and_eq_true, beq_iff_eq, decide_eq_true_eq] at h1
              obtain ⟨⟨h4, h5⟩, h6⟩ := h1
              obtain ⟨i', hi', hs'⟩ := Qc7 h5
              have hq0 := hq (off0, n0, y0) (by simp)
              exact ⟨⟨fd, i', hfd, hi', h4, hs'⟩, (V8 (KG hG hE h2) hq0.2).1, hq0.1, h6⟩
            · rename_i hfd
              unfold Qgb at h1
              rw [hu'] at h1
              simp at h1
          | succ k => exact ih2 k j v off sz new (by simpa using hk) (by simpa using hk')
    obtain ⟨hlen, hall⟩ := key ps.toList qs hps hp
    -- the places
    have hmap : ∀ (l : List Field), l.all (fun f => (P.info? f.type).isSome) = true → ∃ r, (l.mapM fun f => (do pure (f.offset, ← sizeOf f.type) : Sem (Nat × Nat))).run P w = .ok r w ∧ ∀ (j : Nat) (f : Field) (i : TypeInfo), l[j]? = some f → P.info? f.type = some i → r[j]? = some (f.offset, i.size) := by
      intro l
      induction l with
      | nil => intro _; exact ⟨[], by simp, fun j f i h => by simp at h⟩
      | cons f fs ih =>
        intro h
        simp only [List.all_cons, Bool.and_eq_true] at h
        obtain ⟨r, h1, h2⟩ := ih h.2
        obtain ⟨i, hi⟩ := Option.isSome_iff_exists.1 h.1
        refine ⟨(f.offset, i.size) :: r, ?_, fun j f' i' hj hi' => ?_⟩
        · have hhead : (do pure (f.offset, ← sizeOf f.type) : Sem (Nat × Nat)).run P w = .ok (f.offset, i.size) w := by simp [sizeOf, typeInfo, hi]
          rw [List.mapM_cons]
          simp only [Sem.run_bind, hhead, Result.andThen_ok, h1, Sem.run_pure]
        · cases j with
          | zero => simp at hj; subst hj; rw [hi] at hi'; cases hi'; rfl
          | succ j => simpa using h2 j f' i' (by simpa using hj) hi'
    obtain ⟨pls, hm1, hm2⟩ := hmap fs.toList hu
    obtain ⟨cs, hf1, hf2⟩ := QdZ (C := ⟨io, w, loc, getM M⟩) (Pl := fun j => pls.toArray[j]?) (ps.toList.map fun x => (x.1, a.eval x.2)) (qs.map fun q => (q.1, q.2.1, YL (ev (getE E) q.2.2))) z.cells zs (Ze hzc).1 (by simp; simpa using hlen)
      (fun k j v off sz new hk hk' => by
        obtain ⟨⟨f, i, h1, h2, h3, h4⟩, h5⟩ := hall k j v off sz new hk hk'
        refine ⟨?_, h5⟩
        have := hm2 j f i (by simpa using h1) h2
        simp [this, h3, h4])
    refine ⟨cs, ?_, ?_⟩
    · have hps' : (ps.map fun (i, x) => (i, a.eval x)).toList = ps.toList.map fun x => (x.1, a.eval x.2) := by simp
      have hma : (fs.mapM fun f => (do pure (f.offset, ← sizeOf f.type) : Sem (Nat × Nat))).run P w = .ok pls.toArray w := by
        rw [Array.mapM_eq_mapM_toList]
        simp only [Sem.run_map, hm1, Result.andThen_ok]
      simp only [Instr.build, Sem.run_bind, zeroValue, typeInfo, run_program, Result.andThen_ok, hi, hz, Sem.run_pure, run_underlying hu', hma, hps', hf1]
    · have : ∀ (qs : List (Nat × Nat × SX)) (ls : List AV), qs.foldl (fun ls p => YB ls p.1 (YL (ev (getE E) p.2.2))) ls = (qs.map fun q => (q.1, q.2.1, YL (ev (getE E) q.2.2))).foldl (fun ls p => YB ls p.1 p.2.2) ls := by
        intro qs; induction qs with
        | nil => intro ls; rfl
        | cons q qs ih => intro ls; simp only [List.foldl_cons, List.map_cons]; exact ih _
      rw [this]; exact hf2
  · rename_i cnt e hu'
    have key : ∀ (ps : List (Nat × Operand)) (qs : List (Nat × Nat × SX)), UY P t zs.length ps qs = true → (∀ q ∈ qs, (YL (ev (getE E) q.2.2)).length = q.2.1 ∧ (YL (ev (getE E) q.2.2)).all Y8 = true) →
        ps.length = qs.length ∧ ∀ (k j : Nat) (v : Value) (off sz : Nat) (new : List AV), (ps.map fun x => (x.1, a.eval x.2))[k]? = some (j, v) → (qs.map fun q => (q.1, q.2.1, YL (ev (getE E) q.2.2)))[k]? = some (off, sz, new) →
          (∃ i, P.info? e = some i ∧ off = j * sz ∧ i.size = sz) ∧ RelL ⟨io, w, loc, getM M⟩ new v.cells.toList ∧ new.length = sz ∧ off + sz ≤ zs.length := by
      intro ps
      induction ps with
      | nil => intro qs h _; cases qs with
        | nil => exact ⟨rfl, fun k j v off sz new h => by simp at h⟩
        | cons _ _ => simp [UY] at h
      | cons p ps ih =>
        intro qs h hq
        obtain ⟨j0, x0⟩ := p
        cases qs with
        | nil => simp [UY] at h
        | cons q qs =>
          obtain ⟨off0, n0, y0⟩ := q
          simp only [UY, Bool.and_eq_true] at h
          obtain ⟨⟨h1, h2⟩, h3⟩ := h
          obtain ⟨ih1, ih2⟩ := ih qs h3 (fun q hq' => hq q (by simp [hq']))
          refine ⟨by simp [ih1], fun k j v off sz new hk hk' => ?_⟩
          cases k with
          | zero =>
            simp at hk hk'
            obtain ⟨rfl, rfl⟩ := hk
            obtain ⟨rfl, rfl, rfl⟩ := hk'
            unfold fieldAt? at h1
            rw [hu'] at h1
            simp only [Qgb, hu', Bool.and_eq_true, beq_iff_eq, decide_eq_true_eq] at h1
            obtain ⟨⟨h4, h5⟩, h6⟩ := h1
            obtain ⟨i', hi', hs'⟩ := Qc7 h5
            have hq0 := hq (off0, n0, y0) (by simp)
            exact ⟨⟨i', hi', h4, hs'⟩, (V8 (KG hG hE h2) hq0.2).1, hq0.1, h6⟩
          | succ k => exact ih2 k j v off sz new (by simpa using hk) (by simpa using hk')
    obtain ⟨hlen, hall⟩ := key ps.toList qs hps hp
    have fin : ∀ (qs : List (Nat × Nat × SX)) (ls : List AV), qs.foldl (fun ls p => YB ls p.1 (YL (ev (getE E) p.2.2))) ls = (qs.map fun q => (q.1, q.2.1, YL (ev (getE E) q.2.2))).foldl (fun ls p => YB ls p.1 p.2.2) ls := by
      intro qs; induction qs with
      | nil => intro ls; rfl
      | cons q qs ih => intro ls; simp only [List.foldl_cons, List.map_cons]; exact ih _
    obtain ⟨ie, hinf⟩ := Option.isSome_iff_exists.1 hu
    obtain ⟨cs, hf1, hf2⟩ := QdZ (C := ⟨io, w, loc, getM M⟩) (Pl := fun j => some (j * ie.size, ie.size)) (ps.toList.map fun x => (x.1, a.eval x.2)) (qs.map fun q => (q.1, q.2.1, YL (ev (getE E) q.2.2))) z.cells zs (Ze hzc).1 (by simp; simpa using hlen)
      (fun k j v off sz new hk hk' => by
        obtain ⟨⟨i', h1, h2, h3⟩, h5⟩ := hall k j v off sz new hk hk'
        rw [hinf] at h1; cases h1
        exact ⟨by rw [h3, h2], h5⟩)
    refine ⟨cs, ?_, by rw [fin]; exact hf2⟩
    have hps' : (ps.map fun (i, x) => (i, a.eval x)).toList = ps.toList.map fun x => (x.1, a.eval x.2) := by simp
    have hse : (sizeOf e).run P w = .ok ie.size w := by simp [sizeOf, typeInfo, hinf]
    simp only [Instr.build, Sem.run_bind, zeroValue, typeInfo, run_program, Result.andThen_ok, hi, hz, Sem.run_pure, run_underlying hu', hse, hps', hf1]
  · cases hu
end
end Go.Ve

namespace Go.Ve
set_option linter.unusedSimpArgs false
set_option linter.unusedVariables false
open Go.RowKit
open Go.Maps (Keyed)

/-! ## maps of the call's own -/
theorem QfK {C : Ctx} : ∀ {xs ys : List AV} {cs ds : List Value}, (∀ y ∈ xs, ∃ m, y = .int .i64 m ∧ (Lit.int .i64 m).wf = true) → (∀ y ∈ ys, ∃ m, y = .int .i64 m ∧ (Lit.int .i64 m).wf = true) →
    RelL C xs cs → RelL C ys ds → (Qdu xs ys = true ↔ cs = ds)
  | [], [], cs, ds, _, _, h, k => by simp only [RelL] at h k; subst h; subst k; simp [Qdu]
  | [], y :: ys, cs, ds, _, _, h, k => by
    simp only [RelL] at h k; obtain ⟨c, cs', rfl, _⟩ := k; subst h; simp [Qdu]
  | x :: xs, [], cs, ds, h1, _, h, k => by
    simp only [RelL] at h k; obtain ⟨c, cs', rfl, _⟩ := h; subst k
    obtain ⟨m, rfl, _⟩ := h1 x (by simp)
    simp [Qdu]
  | x :: xs, y :: ys, cs, ds, h1, h2, h, k => by
    simp only [RelL] at h k
    obtain ⟨c, cs', rfl, hc, h⟩ := h
    obtain ⟨d, ds', rfl, hd, k⟩ := k
    obtain ⟨m, rfl, _⟩ := h1 x (by simp)
    obtain ⟨n, rfl, _⟩ := h2 y (by simp)
    simp only [RelV] at hc hd
    subst hc; subst hd
    have := QfK (fun y hy => h1 y (by simp [hy])) (fun z hz => h2 z (by simp [hz])) h k
    simp [Qdu, this]
theorem Qb4 {C : Ctx} {kk : Nat} {x y : AV} {u v : Value} (hx : Qiw kk x) (hy : Qiw kk y) (hu : RelV C x u) (hv : RelV C y v) : Uh x y = true ↔ u = v := by
  cases kk with
  | zero =>
    obtain ⟨s, rfl, _⟩ := hx
    obtain ⟨t, rfl, _⟩ := hy
    simp only [RelV] at hu hv
    subst hu; subst hv
    simp only [Uh, beq_iff_eq, Value.string.injEq]
    constructor
    · intro h
      rw [ByteArray.toList_eq, ByteArray.toList_eq] at h
      have := Array.toList_inj.1 h
      cases s; cases t; simp_all
    · intro h; rw [h]
  | succ n =>
    obtain ⟨xs, rfl, _, h1⟩ := hx
    obtain ⟨ys, rfl, _, h2⟩ := hy
    simp only [RelV] at hu hv
    obtain ⟨cs, rfl, h3⟩ := hu
    obtain ⟨ds, rfl, h4⟩ := hv
    simp only [Uh, QfK h1 h2 h3 h4, Value.agg.injEq]
    constructor
    · intro h; rw [h]
    · intro h; simpa using h

theorem Qa2 {P : Program} {C : Ctx} {k : TypeId} {kk : Nat} {x : AV} {v : Value} (h : QiE P k kk = true) (hx : Qiw kk x) (hr : RelV C x v) : ∃ l, keyOf P k v = some l := by
  cases kk with
  | zero =>
    obtain ⟨s, rfl, hs⟩ := hx
    simp only [RelV] at hr; subst hr
    have hk : P.underlying k = some .string := by
      have h : Za P k = true := h
      unfold Za at h; split at h
      · assumption
      · cases h
    exact ⟨_, WideMaps.keyOf_string_mk hk hs⟩
  | succ n =>
    obtain ⟨ls, rfl, hl, hi⟩ := hx
    simp only [RelV] at hr
    obtain ⟨cs, rfl, hr⟩ := hr
    simp only [QiE, Bool.and_eq_true, decide_eq_true_eq] at h
    obtain ⟨h, hsz⟩ := h
    split at h
    · rename_i m e hk
      simp only [Bool.and_eq_true, beq_iff_eq] at h
      obtain ⟨⟨⟨rfl, he⟩, hck⟩, hce⟩ := h
      have he : P.underlying e = some (.int .i64) := by
        unfold Qqs at he; split at he
        · rename_i hu; rw [hu]; simp at he; rw [← he]
        · cases he
      obtain ⟨s, hs⟩ : ∃ s, P.types.size = s + 1 := ⟨P.types.size - 1, by omega⟩
      have hkt : P.keyType k = true := by
        unfold Program.keyType
        rw [hs]
        simp [Program.keyTypeAt, hk, he]
      have hcl : cs.length = n + 1 := by rw [hr.length]; exact hl
      unfold keyOf
      rw [hk]
      simp only [hkt, Value.formed, hk, Value.cells, List.size_toArray, hcl, hck, beq_self_eq_true, Bool.and_self, if_true]
      have hm : ∀ l : List Nat, (∀ i ∈ l, i < n + 1) → ∃ r, (l.mapM fun i => P.keyLits (s + 1) e ((cs.drop (i * P.cellsOf e)).take (P.cellsOf e))) = some r := by
        intro l
        induction l with
        | nil => intro _; exact ⟨[], by simp⟩
        | cons i l ih =>
          intro hil
          obtain ⟨r, hr2⟩ := ih fun j hj => hil j (by simp [hj])
          have hii := hil i (by simp)
          obtain ⟨c, hc1, hc2⟩ := hr.get i .junk (by omega)
          have hmem : ls.getD i .junk ∈ ls := by
            rw [List.getD_eq_getElem?_getD, List.getElem?_eq_getElem (by omega)]; simp
          obtain ⟨q, hq1, hq2⟩ := hi _ hmem
          rw [hq1] at hc2
          simp only [RelV] at hc2
          subst hc2
          have e1 : (cs.drop (i * P.cellsOf e)).take (P.cellsOf e) = [.int .i64 q] := by
            rw [hce, Nat.mul_one]
            have hlt : i < cs.length := by omega
            rw [List.drop_eq_getElem_cons hlt]
            have : cs[i] = .int .i64 q := by
              have := List.getElem?_eq_getElem hlt
              rw [hc1] at this; simpa using this.symm
            simp [this]
          refine ⟨[.int .i64 q] :: r, ?_⟩
          have e2 : P.keyLits (s + 1) e [.int .i64 q] = some [.int .i64 q] := by simp [Program.keyLits, he, hq2]
          rw [List.mapM_cons, e1, e2, hr2]
          rfl
      obtain ⟨r, hr2⟩ := hm (List.range (n + 1)) fun i hi => by simpa using hi
      have hkl : ∃ l, P.keyLits (P.types.size + 1) k cs = some l := by
        rw [hs]
        refine ⟨r.flatten, ?_⟩
        unfold Program.keyLits
        rw [hk]
        simp only [hcl, hck, if_true, hr2, Option.map_some]
      obtain ⟨l, hkl⟩ := hkl
      exact ⟨_, by simp [hkl]; rfl⟩
    · cases h

theorem ZG {P : Program} {k : TypeId} {kk : Nat} (h : QiE P k kk = true) : Keyed P k := by
  cases kk with
  | zero =>
    have hk : P.underlying k = some .string := by
      have h : Za P k = true := h
      unfold Za at h; split at h
      · assumption
      · cases h
    exact Maps.string_keyed hk
  | succ n =>
    simp only [QiE, Bool.and_eq_true, decide_eq_true_eq] at h
    obtain ⟨h, hsz⟩ := h
    split at h
    · rename_i m e hk
      simp only [Bool.and_eq_true, beq_iff_eq] at h
      obtain ⟨⟨⟨rfl, he⟩, hck⟩, hce⟩ := h
      have he : P.underlying e = some (.int .i64) := by
        unfold Qqs at he; split at he
        · rename_i hu; rw [hu]; simp at he; rw [← he]
        · cases he
      exact Keyed.of_law (deep_law (m := 2) (by decide) (by simp [Program.keyTypeAt, hk, he]) (by simp [Program.tiled, hk, he, hck, hce]) (by simp [hk]))
    · cases h

theorem Qjp {es : List (AV × AV)} {k x z : AV} (h : ∀ e ∈ es, Uh e.1 k = false) : QmM es k = false ∧ Qba es k z = z ∧ W0 es k x = es ++ [(k, x)] := by
  induction es with
  | nil => exact ⟨rfl, rfl, rfl⟩
  | cons e es ih =>
    obtain ⟨a, b⟩ := e
    obtain ⟨h1, h2, h3⟩ := ih fun e he => h e (by simp [he])
    have h0 := h (a, b) (by simp)
    simp only at h0
    simp [QmM, Qba, W0, h0, h1, h2, h3]
theorem Qoi {es : List (AV × AV)} {k x z a b : AV} {j : Nat} (hj : es[j]? = some (a, b)) (hk : Uh a k = true) (h : ∀ i e, i < j → es[i]? = some e → Uh e.1 k = false) : QmM es k = true ∧ Qba es k z = b ∧ W0 es k x = es.set j (a, x) := by
  induction es generalizing j with
  | nil => simp at hj
  | cons e es ih =>
    cases j with
    | zero => simp at hj; subst hj; simp [QmM, Qba, W0, hk]
    | succ j =>
      obtain ⟨c, d⟩ := e
      have h0 := h 0 (c, d) (by omega) rfl
      simp only at h0
      obtain ⟨h1, h2, h3⟩ := ih (by simpa using hj) fun i e hi he => h (i + 1) e (by omega) (by simpa using he)
      simp [QmM, Qba, W0, h0, h1, h2, h3]

section
variable {P : Program} {A : A0} {io : Nat → Nat → Prop} {w : World} {loc : Nat → Option Value} {M : List (Nat × AObj)}

theorem Qhp {C : Ctx} {xs : List AV} {vs : List Value} (h : RelL C xs vs) {i : Nat} {x : AV} {v : Value} (hx : xs[i]? = some x) (hv : vs[i]? = some v) : RelV C x v := by
  obtain ⟨c, h1, h2⟩ := h.get i .junk (List.getElem?_eq_some_iff.1 hx).1
  rw [hv] at h1; cases h1
  rwa [List.getD_eq_getElem?_getD, hx] at h2

/-- Which entry bears a key. -/
theorem Qjq {C : Ctx} {es : List (AV × AV)} {ents : Array MapEntry} {kk : Nat} {k : TypeId} (hK : QiE P k kk = true) (h1 : RelL C (es.map (·.1)) (ents.toList.map (·.key))) (h3 : ∀ e ∈ es, Qiw kk e.1)
    (h4 : es.Pairwise fun e f => Uh e.1 f.1 = false) {x : AV} {v : Value} (hx : Qiw kk x) (hr : RelV C x v) (w : World) :
    ((Instr.findKey k v ents.toList).run P w = .ok none w ∧ ∀ e ∈ es, Uh e.1 x = false) ∨
    ∃ j e a b, (Instr.findKey k v ents.toList).run P w = .ok (some (j, e.val)) w ∧ ents.toList[j]? = some e ∧ e.key = v ∧ es[j]? = some (a, b) ∧ Uh a x = true ∧ ∀ i f, i < j → es[i]? = some f → Uh f.1 x = false := by
  have hlen : es.length = ents.toList.length := by have := h1.length; simpa using this.symm
  have pair : ∀ {i : Nat} {e : MapEntry} {f : AV × AV}, ents.toList[i]? = some e → es[i]? = some f → Qiw kk f.1 ∧ RelV C f.1 e.key := by
    intro i e f he hf
    exact ⟨h3 f (List.mem_of_getElem? hf), Qhp h1 (i := i) (by simp [hf]) (by rw [List.getElem?_map, he]; rfl)⟩
  obtain ⟨lx, hlx⟩ := Qa2 hK hx hr
  have hkeys : ∀ e ∈ ents.toList, ∃ l, keyOf P k e.key = some l := by
    intro e he
    obtain ⟨i, hi⟩ := List.mem_iff_getElem?.1 he
    have hlt : i < es.length := by rw [hlen]; exact (List.getElem?_eq_some_iff.1 hi).1
    obtain ⟨p1, p2⟩ := pair hi (List.getElem?_eq_getElem hlt)
    exact Qa2 hK p1 p2
  rcases (ZG hK).find w hlx ents.toList hkeys with ⟨f1, f2⟩ | ⟨j, e, f1, f2, f3⟩
  · refine .inl ⟨f1, fun f hf => ?_⟩
    obtain ⟨i, hi⟩ := List.mem_iff_getElem?.1 hf
    have hlt : i < ents.toList.length := by rw [← hlen]; exact (List.getElem?_eq_some_iff.1 hi).1
    obtain ⟨p1, p2⟩ := pair (List.getElem?_eq_getElem hlt) hi
    have hne := f2 _ (List.getElem_mem hlt)
    cases hq : Uh f.1 x with
    | false => rfl
    | true => exact absurd ((Qb4 p1 hx p2 hr).1 hq) hne
  · have hlt : j < es.length := by rw [hlen]; exact (List.getElem?_eq_some_iff.1 f2).1
    have hj := List.getElem?_eq_getElem hlt
    obtain ⟨p1, p2⟩ := pair f2 hj
    refine .inr ⟨j, e, es[j].1, es[j].2, f1, f2, f3, hj, (Qb4 p1 hx p2 hr).2 f3, fun i f hi hf => ?_⟩
    have hlt2 : i < ents.toList.length := by omega
    obtain ⟨q1, q2⟩ := pair (List.getElem?_eq_getElem hlt2) hf
    cases hq : Uh f.1 x with
    | false => rfl
    | true =>
      have e1 := (Qb4 q1 hx q2 hr).1 hq
      have e2 : Uh f.1 es[j].1 = true := (Qb4 q1 p1 q2 p2).2 (e1.trans f3.symm)
      have hil : i < es.length := by omega
      have := List.pairwise_iff_getElem.1 h4 i j hil hlt hi
      have hfe : es[i] = f := by have := List.getElem?_eq_getElem hil; rw [hf] at this; simpa using this.symm
      rw [hfe, e2] at this; cases this

theorem QiJ (hI : Inv A ⟨io, w, loc, getM M⟩) {o kk : Nat} (ho : getM M o = none) :
    Inv A ⟨io, w.alloc (.map #[] 0), ZA loc o (.map (some w.heap.size)), getM (Xx M o (.mp kk []))⟩ ∧
    Ext ⟨io, w, loc, getM M⟩ ⟨io, w.alloc (.map #[] 0), ZA loc o (.map (some w.heap.size)), getM (Xx M o (.mp kk []))⟩ ∧
    RelV ⟨io, w.alloc (.map #[] 0), ZA loc o (.map (some w.heap.size)), getM (Xx M o (.mp kk []))⟩ (.ptr o 0) (.map (some w.heap.size)) := by
  have key := Inv.upd (A := A) (C := ⟨io, w, loc, getM M⟩) hI (w' := w.alloc (.map #[] 0)) (o := o) (obj' := .mp kk []) (hv' := .map (some w.heap.size))
    (Grow.alloc w _ _) (fun b hb => .inl (by simp [blkOf] at hb; subst hb; exact Nat.le_refl _)) (fun obj hv h _ => by have h : getM M o = some obj := h; rw [ho] at h; cases h)
    (fun hext => ⟨w.heap.size, #[], 0, rfl, heap_alloc_new w _, by simp [RelL], by simp [RelL], by simp, by simp⟩)
  rw [Xd]
  refine ⟨key.1, key.2, ?_⟩
  simp only [RelV]
  exact ⟨rfl, .mp kk [], .map (some w.heap.size), by simp [ZA], by simp [ZA], w.heap.size, rfl, rfl, rfl⟩

theorem Qhq {t : TypeId} {kk : Nat} (h : Qoh P t kk = true) : ∃ k e, P.underlying t = some (.map k e) ∧ QiE P k (kk % 1000) = true := by
  unfold Qoh at h
  split at h
  · rename_i k e hu; exact ⟨k, e, hu, h⟩
  · cases h
theorem QoI {C : Ctx} {zv : Value} {z : AV} (h : zvB zv z = true) : RelV C z zv := by
  unfold zvB at h
  split at h
  · simp only [Bool.and_eq_true] at h
    simp only [RelV]
    exact ⟨_, by simp, (Ze h.1).1⟩
  · simp only [Bool.and_eq_true] at h
    exact Qbx h.1
theorem Qkf {P : Program} {t : TypeId} {z : AV} {k e : TypeId} (ht : P.underlying t = some (.map k e)) (h : QmO P t z = true) (w : World) : ∃ zv, (zeroValue e).run P w = .ok zv w ∧ ∀ C : Ctx, RelV C z zv := by
  unfold QmO at h
  rw [ht] at h
  simp only at h
  split at h
  · rename_i i hi
    split at h
    · rename_i zv hz
      exact ⟨zv, by simp [zeroValue, typeInfo, hi, hz], fun C => QoI h⟩
    · cases h
  · cases h

theorem Qkg (hI : Inv A ⟨io, w, loc, getM M⟩) {m k z : AV} {mv kv : Value} (hm : RelV ⟨io, w, loc, getM M⟩ m mv) (hk : RelV ⟨io, w, loc, getM M⟩ k kv) {t : TypeId} (ok : Bool)
    {kk' : Nat} (ht : Qoh P t kk' = true) (hz : QmO P t z = true) (hp : (G1 (getM M) ok kk' z k m).pre) :
    ∃ r, (Instr.lookup t mv kv ok).run P w = .ok r w ∧ RelV ⟨io, w, loc, getM M⟩ (G1 (getM M) ok kk' z k m).v r ∧ (G1 (getM M) ok kk' z k m).ups = [] := by
  unfold G1 at hp ⊢
  cases m <;> simp only [bad] at hp <;> try exact hp.elim
  rename_i o off
  split at hp <;> rename_i hM <;> try exact hp.elim
  rename_i kk es
  simp only [hM]
  obtain ⟨hkk, hp⟩ := hp
  subst hkk
  obtain ⟨kt, e, hu, hK⟩ := Qhq ht
  simp only [RelV] at hm
  obtain ⟨_, obj, hv, h1, h2, h3⟩ := hm
  have h1 : getM M o = some obj := h1
  rw [hM] at h1; cases h1
  obtain ⟨b, rfl, rfl, _⟩ := h3
  obtain ⟨hv', h4, b', ents, clock, h5, h6, h7, h8, h9, h10⟩ := hI.wf.obj o _ hM
  have h4 : loc o = some _ := h4
  have h2 : loc o = some _ := h2
  rw [h2] at h4; cases h4
  cases h5
  have h6 : w.heap[b]? = _ := h6
  obtain ⟨zv, hz1, hz2⟩ := Qkf hu hz w
  obtain ⟨lx, hlx⟩ := Qa2 hK hp hk
  rcases Qjq hK h7 (fun e he => (h9 e he).1) h10 hp hk w with ⟨f1, f2⟩ | ⟨j, en, a, bb, f1, f2, f3, f4, f5, f6⟩
  · obtain ⟨g1, g2, _⟩ := Qjp (x := .junk) (z := z) f2
    refine ⟨if ok then .tuple #[zv, .bool false] else zv, by simp [Instr.lookup, run_underlying hu, MapKept.run_getObj_map h6, (ZG hK).check w _ hlx, f1, hz1, Result.andThen], ?_, by trivial⟩
    cases ok
    · simp only [g2]; exact hz2 _
    · simp only [g1, g2, if_true, RelV]
      exact ⟨[zv, .bool false], rfl, RelL.cons (hz2 _) (RelL.cons (by simp [RelV]) RelL.nil)⟩
  · obtain ⟨g1, g2, _⟩ := Qoi (x := .junk) (z := z) f4 f5 f6
    have hval : RelV ⟨io, w, loc, getM M⟩ bb en.val := Qhp h8 (i := j) (by simp [f4]) (by rw [List.getElem?_map, f2]; rfl)
    refine ⟨if ok then .tuple #[en.val, .bool true] else en.val, by simp [Instr.lookup, run_underlying hu, MapKept.run_getObj_map h6, (ZG hK).check w _ hlx, f1, Result.andThen], ?_, by trivial⟩
    cases ok
    · simp only [g2]; exact hval
    · simp only [g1, g2, if_true, RelV]
      exact ⟨[en.val, .bool true], rfl, RelL.cons hval (RelL.cons (by simp [RelV]) RelL.nil)⟩

theorem QfL (hI : Inv A ⟨io, w, loc, getM M⟩) {m k x : AV} {mv kv xv : Value} (hm : RelV ⟨io, w, loc, getM M⟩ m mv) (hk : RelV ⟨io, w, loc, getM M⟩ k kv) (hx : RelV ⟨io, w, loc, getM M⟩ x xv) {t : TypeId}
    {kk' : Nat} (ht : Qoh P t kk' = true) (hp : (G2 (getM M) kk' k x m).pre) :
    ∃ w' loc', (Instr.mapUpdate t mv kv xv).run P w = .ok () w' ∧ Inv A ⟨io, w', loc', getM (YU M (G2 (getM M) kk' k x m).ups)⟩ ∧ Ext ⟨io, w, loc, getM M⟩ ⟨io, w', loc', getM (YU M (G2 (getM M) kk' k x m).ups)⟩ ∧ (G2 (getM M) kk' k x m).v = .junk := by
  unfold G2 at hp ⊢
  cases m <;> simp only [bad] at hp <;> try exact hp.elim
  rename_i o off
  split at hp <;> rename_i hM <;> try exact hp.elim
  rename_i kk es
  simp only [hM]
  obtain ⟨hkk, hp, hnx⟩ := hp
  subst hkk
  obtain ⟨kt, e, hu, hK⟩ := Qhq ht
  simp only [RelV] at hm
  obtain ⟨_, obj, hv, h1, h2, h3⟩ := hm
  have h1 : getM M o = some obj := h1
  rw [hM] at h1; cases h1
  obtain ⟨b, rfl, rfl, _⟩ := h3
  obtain ⟨hv', h4, b', ents, clock, h5, h6, h7, h8, h9, h10⟩ := hI.wf.obj o _ hM
  have h4 : loc o = some _ := h4
  have h2 : loc o = some _ := h2
  rw [h2] at h4; cases h4
  cases h5
  have h6 : w.heap[b]? = _ := h6
  obtain ⟨lx, hlx⟩ := Qa2 hK hp hk
  -- the new world, whatever the entries
  have done : ∀ (ents' : Array MapEntry) (clock' : Nat) (es' : List (AV × AV)),
      (∀ C' : Ctx, Ext ⟨io, w, loc, getM M⟩ C' → RelL C' (es'.map (·.1)) (ents'.toList.map (·.key)) ∧ RelL C' (es'.map (·.2)) (ents'.toList.map (·.val))) →
      (∀ f ∈ es', Qiw (kk % 1000) f.1 ∧ (1000 ≤ kk ∨ noref f.2 = true)) → (es'.Pairwise fun e f => Uh e.1 f.1 = false) →
      ∃ loc', Inv A ⟨io, ChangeMaps.setBlock w b (.map ents' clock'), loc', getM (Xx M o (.mp kk es'))⟩ ∧ Ext ⟨io, w, loc, getM M⟩ ⟨io, ChangeMaps.setBlock w b (.map ents' clock'), loc', getM (Xx M o (.mp kk es'))⟩ := by
    intro ents' clock' es' e1 e2 e3
    have key := Inv.upd (A := A) (C := ⟨io, w, loc, getM M⟩) hI (w' := ChangeMaps.setBlock w b (.map ents' clock')) (o := o) (obj' := .mp kk es') (hv' := .map (some b))
      (⟨rfl, rfl, rfl, by simp [ChangeMaps.setBlock], fun i _ hi => ChangeMaps.heap_setBlock_other h6 _ (fun e => hi (by show some i = (loc o).bind blkOf; rw [h2]; simp [blkOf, e]))⟩)
      (fun b' hb => .inr ⟨_, h2, hb⟩) (fun obj hv h h' => by
        have h : getM M o = some obj := h
        have h' : loc o = some hv := h'
        rw [hM] at h; cases h; rw [h2] at h'; cases h'; rfl)
      (fun hext => ⟨b, ents', clock', rfl, ChangeMaps.heap_setBlock_same h6 _, (e1 _ hext).1, (e1 _ hext).2, e2, e3⟩)
    rw [Xd]
    exact ⟨_, key.1, key.2⟩
  have memP : ∀ {i : Nat} {f : AV × AV}, es[i]? = some f → f ∈ es := fun h => List.mem_of_getElem? h
  rcases Qjq hK h7 (fun e he => (h9 e he).1) h10 hp hk w with ⟨f1, f2⟩ | ⟨j, en, a, bb, f1, f2, f3, f4, f5, f6⟩
  · obtain ⟨_, _, g3⟩ := Qjp (x := x) (z := .junk) f2
    obtain ⟨loc', d1, d2⟩ := done (ents.push ⟨kv, xv, clock⟩) (clock + 1) (es ++ [(k, x)]) (fun C' hext => by
        simp only [List.map_append, List.map_cons, List.map_nil, Array.toList_push]
        exact ⟨(h7.mono hext).append (RelL.cons (hk.mono hext) RelL.nil), (h8.mono hext).append (RelL.cons (hx.mono hext) RelL.nil)⟩)
      (fun f hf => by
        rcases List.mem_append.1 hf with hf | hf
        · exact h9 f hf
        · rw [List.mem_singleton.1 hf]; exact ⟨hp, hnx⟩)
      (List.pairwise_append.2 ⟨h10, by simp, fun e he f hf => by rw [List.mem_singleton.1 hf]; exact f2 e he⟩)
    refine ⟨_, loc', ?_, by simpa only [g3, YU, List.foldr] using d1, by simpa only [g3, YU, List.foldr] using d2, by trivial⟩
    simp [Instr.mapUpdate, run_underlying hu, MapKept.run_getObj_map h6, (ZG hK).check w false hlx, f1, MapKept.run_setObj_map _ h6, Result.andThen, ChangeMaps.setBlock]
  · obtain ⟨_, _, g3⟩ := Qoi (x := x) (z := .junk) f4 f5 f6
    have hje : ents[j]? = some en := by simpa using f2
    obtain ⟨loc', d1, d2⟩ := done (ents.modify j fun e => { e with key := kv, val := xv }) clock (es.set j (a, x)) (fun C' hext => by
        have hjl : j < ents.size := (Array.getElem?_eq_some_iff.1 hje).1
        have e1 : (ents.modify j fun e => { e with key := kv, val := xv }).toList.map (·.key) = ents.toList.map (·.key) := by
          refine List.ext_getElem? fun i => ?_
          simp only [List.getElem?_map, Array.getElem?_toList, Array.getElem?_modify]
          split
          · rename_i e; subst e; rw [hje]; simp [f3]
          · rfl
        have e2 : (ents.modify j fun e => { e with key := kv, val := xv }).toList.map (·.val) = (ents.toList.map (·.val)).set j xv := by
          refine List.ext_getElem? fun i => ?_
          simp only [List.getElem?_map, Array.getElem?_toList, Array.getElem?_modify, List.getElem?_set, List.length_map, Array.length_toList]
          split
          · rename_i e; subst e; rw [hje]; simp [hjl]
          · rfl
        have e3 : (es.set j (a, x)).map (·.1) = es.map (·.1) := by
          refine List.ext_getElem? fun i => ?_
          simp only [List.getElem?_map, List.getElem?_set]
          split
          · rename_i e; subst e
            split
            · rw [f4]; rfl
            · rename_i hn; rw [List.getElem?_eq_none (by omega)]
              try rfl
          · rfl
        have e4 : (es.set j (a, x)).map (·.2) = (es.map (·.2)).set j x := by rw [List.map_set]
        rw [e1, e2, e3, e4]
        refine ⟨h7.mono hext, ?_⟩
        have hset : ∀ (xs : List AV) (vs : List Value) (C : Ctx) (i : Nat) (y : AV) (u : Value), RelL C xs vs → RelV C y u → RelL C (xs.set i y) (vs.set i u) := by
          intro xs
          induction xs with
          | nil => intro vs C i y u h _; simp only [RelL] at h; subst h; simp [RelL]
          | cons z zs ih =>
            intro vs C i y u h hy
            simp only [RelL] at h
            obtain ⟨c', cs', rfl, h10, h11⟩ := h
            cases i with
            | zero => exact RelL.cons hy h11
            | succ i => simp only [List.set_cons_succ]; exact RelL.cons h10 (ih cs' C i y u h11 hy)
        exact hset _ _ _ _ _ _ (h8.mono hext) (hx.mono hext))
      (fun f hf => by
        rcases List.mem_or_eq_of_mem_set hf with hf | rfl
        · exact h9 f hf
        · exact ⟨(h9 (a, bb) (memP f4)).1, hnx⟩)
      (by
        rw [List.pairwise_iff_getElem] at h10 ⊢
        intro p q hpl hql hpq
        simp only [List.length_set] at hpl hql
        have old : ∀ i (hi : i < es.length), ((es.set j (a, x))[i]'(by simpa using hi)).1 = es[i].1 := by
          intro i hi
          rw [List.getElem_set]
          split
          · rename_i e; subst e
            have := List.getElem?_eq_getElem hi; rw [f4] at this; simp at this; rw [← this]
          · rfl
        rw [old p hpl, old q hql]
        exact h10 p q hpl hql hpq)
    refine ⟨_, loc', ?_, by simpa only [g3, YU, List.foldr] using d1, by simpa only [g3, YU, List.foldr] using d2, by trivial⟩
    have hst := (ZG hK).stays w hlx
    simp [Instr.mapUpdate, run_underlying hu, MapKept.run_getObj_map h6, (ZG hK).check w false hlx, f1, hje, f3, hst, MapKept.run_setObj_map _ h6, Result.andThen, ChangeMaps.setBlock]

theorem Qk8 {C : Ctx} {ls : List AV} {v : Value} (hx : RelV C (.agg ls) v) {t n : Nat} (h : QoF P t n = true) {k : IntKind} {i : Int} (hl : ls.length = n) (h0 : 0 ≤ i) (h1 : i < n) :
    ∃ r, (Instr.index t v (.int k i)).run P w = .ok r w ∧ RelV C (ls.getD i.toNat .junk) r := by
  simp only [RelV] at hx
  obtain ⟨cs, rfl, hr⟩ := hx
  unfold QoF at h
  split at h
  · rename_i m e hu
    simp only [Bool.and_eq_true, beq_iff_eq] at h
    obtain ⟨⟨rfl, h2⟩, h3⟩ := h
    obtain ⟨c, hc, hrel⟩ := hr.get i.toNat .junk (by omega)
    refine ⟨c, ?_, hrel⟩
    simp [Instr.index, asIntOf, run_underlying hu, h0, h1, Xg h3, part, XM h2, hc]
  · cases h
theorem Qkh {C : Ctx} {ls : List AV} {v : Value} (hx : RelV C (.agg ls) v) {t n sz : Nat} (h : QoG P t n sz = true) {k : IntKind} {i : Int} (hl : ls.length = n * sz) (h0 : 0 ≤ i) (h1 : i < n) :
    ∃ r, (Instr.index t v (.int k i)).run P w = .ok r w ∧ RelV C (.agg ((ls.drop (i.toNat * sz)).take sz)) r := by
  simp only [RelV] at hx
  obtain ⟨cs, rfl, hr⟩ := hx
  unfold QoG at h
  split at h
  · rename_i m e hu
    simp only [Bool.and_eq_true, beq_iff_eq] at h
    obtain ⟨⟨rfl, h2⟩, h3⟩ := h
    refine ⟨.agg ((cs.drop (i.toNat * sz)).take sz).toArray, ?_, by simp only [RelV]; exact ⟨_, rfl, (hr.drop _).take _⟩⟩
    simp [Instr.index, asIntOf, run_underlying hu, h0, h1, Xg h3, part, V1 h2, List.extract_eq_take_drop]
  · cases h
end
end Go.Ve

namespace Go.Ve
set_option linter.unusedSimpArgs false
set_option linter.unusedVariables false
open Go.RowKit

section
variable {P : Program} {A : A0} {io : Nat → Nat → Prop} {w : World} {loc : Nat → Option Value} {M : List (Nat × AObj)}

theorem Qk9 (z : Array Value) (sz : Nat) (hz : z.size = sz) (hpos : 0 < sz) : ∀ n, (madeCells z (n * sz)).toList = (List.replicate n z.toList).flatten := by
  intro n
  have hl : ∀ r ∈ List.replicate n z.toList, r.length = sz := fun r hr => by rw [(List.mem_replicate.1 hr).2]; simpa using hz
  apply List.ext_getElem?
  intro k
  by_cases hk : k < n * sz
  · have e : k = (k / sz) * sz + k % sz := by rw [Nat.mul_comm]; exact (Nat.div_add_mod k sz).symm
    have hd : k / sz < n := (Nat.div_lt_iff_lt_mul hpos).2 hk
    have hm : k % sz < sz := Nat.mod_lt _ hpos
    rw [e, WK hl _ _ hm, List.getElem?_replicate, if_pos hd]
    rw [← e]
    have hmz : k % z.size < z.size := by rw [hz]; exact hm
    simp [madeCells, hk, hz, hm]
  · have h1 : (madeCells z (n * sz)).toList.length ≤ k := by simp [size_madeCells]; omega
    have h2 : (List.replicate n z.toList).flatten.length ≤ k := by rw [XN hl]; simp; omega
    rw [List.getElem?_eq_none h1, List.getElem?_eq_none h2]

theorem QmS {t e sz : Nat} {zs : List AV} (h : mkB P t e sz zs = true) : P.underlying t = some (.slice e) ∧ sz = zs.length ∧ ∃ i z, P.info? e = some i ∧ i.zero = some z ∧ UL z.cells.toList zs = true ∧ i.size = sz ∧ i.bytes ≤ 65536 ∧ 0 < sz := by
  unfold mkB at h
  split at h
  · rename_i e' hu
    simp only [Bool.and_eq_true, beq_iff_eq] at h
    obtain ⟨⟨⟨rfl, hz⟩, hs⟩, hb⟩ := h
    obtain ⟨i, z, hi, hz1, hz2, hz3⟩ := Qc8 hz
    rw [hi] at hb
    simp only [Bool.and_eq_true, decide_eq_true_eq] at hb
    exact ⟨hu, hs, i, z, hi, hz1, hz2, by omega, hb.1, by omega⟩
  · cases h

theorem Qam {C : Ctx} {x : List AV} {v : List Value} (h : RelL C x v) : ∀ n, RelLL C (List.replicate n x) (List.replicate n v)
  | 0 => by simp [RelLL]
  | n + 1 => by rw [List.replicate_succ, List.replicate_succ]; exact RelLL.cons h (Qam h n)

theorem ZU {o : Oper} {a : Act} {C : Ctx} {M' : List (Nat × AObj)} {v' : AV} {s : Sem Value} (he : execOp a.eval o = (do pure (.value (← s)))) {v : Value} {w' : World} {loc' : Nat → Option Value} (hr : s.run P w = .ok v w')
    (hI : Inv A ⟨C.io, w', loc', getM M'⟩) (hx : Ext C ⟨C.io, w', loc', getM M'⟩) (hv : RelV ⟨C.io, w', loc', getM M'⟩ v' v) : OpTo A C M' v' ((execOp a.eval o).run P w) := by
  refine ⟨v, w', loc', .inl ?_, hI, hx, hv⟩
  rw [he]; simp [hr]

theorem Qb5 {o : Oper} {op : BinOp} {t ty : TypeId} {x y : Operand} (ho : o.op = .binOp op t x y ty) (a : Act) :
    execOp a.eval o = (do pure (.value (← (do eqGuard op t x y (a.eval x) (a.eval y); binOp op t (a.eval x) (a.eval y) : Sem Value)))) := by
  unfold execOp; simp only [ho]

theorem QmT (k : IntKind) (m n : Int) (ty : TypeId) (ts : Array TypeId) : (Builtin.max_ ts ty #[.int k m, .int k n]).run P w = .ok (.int k (if n > m then n else m)) w := by
  simp [Builtin.max_, Builtin.max2]
theorem QmU (k : IntKind) (m n : Int) (ty : TypeId) (ts : Array TypeId) : (Builtin.min_ ts ty #[.int k m, .int k n]).run P w = .ok (.int k (if n < m then n else m)) w := by
  simp [Builtin.min_, Builtin.min2]

theorem UR {o : Oper} {c : Call} {b : Builtin} (ho : o.op = .call c) (hc : c.callee = .builtin b) (a : Act) :
    ∃ consts, (execOp a.eval o).run P w = (builtin b c.argTypes o.type consts (c.args.map a.eval)).run P w := by
  refine ⟨(c.args.map fun | .const _ => true | _ => false), ?_⟩
  unfold execOp
  simp only [ho, resolve, hc, Sem.run_bind, Sem.run_pure, Result.andThen_ok, invoke]
  rfl

theorem Qb6 (hI : Inv A ⟨io, w, loc, getM M⟩) {o ver hi : Nat} {v : Value} (hx : RelV ⟨io, w, loc, getM M⟩ (.own o ver 0 hi) v) {e cv sz : Nat} {xs : List (List AV)} (hM : getM M o = some (.arr e cv sz xs)) (hver : ver = cv) (ho : 100 ≤ o % 1000) (hef : e < 1000000) :
    Inv A ⟨io, w, ZA loc o (.tuple #[]), getM (Xx M o .gone)⟩ ∧ Ext ⟨io, w, loc, getM M⟩ ⟨io, w, ZA loc o (.tuple #[]), getM (Xx M o .gone)⟩ ∧
    RelV ⟨io, w, ZA loc o (.tuple #[]), getM (Xx M o .gone)⟩ (.sl 0 sz (xs.take hi)) v := by
  have hx0 := hx
  simp only [RelV] at hx
  obtain ⟨_, obj, hv, h1, h2, h3⟩ := hx
  have h1 : getM M o = some obj := h1
  have h2 : loc o = some hv := h2
  rw [hM] at h1; cases h1
  obtain ⟨hlo, hhi, base, n, cap, rfl, hcap, hv⟩ := h3.2 hver
  obtain ⟨hv', h4, css, h5, h6, h7, h8⟩ := hI.wf.obj o _ hM
  have h4 : loc o = some _ := h4
  rw [h2] at h4; cases h4
  have key := Inv.upd (A := A) (C := ⟨io, w, loc, getM M⟩) hI (w' := w) (o := o) (obj' := .gone) (hv' := .tuple #[]) (Grow.refl _ _) (fun b hb => by simp [blkOf] at hb)
    (fun obj hv _ _ => by cases obj <;> simp [objLe]) (fun _ => rfl)
  rw [Xd]
  refine ⟨key.1, key.2, ?_⟩
  simp only [RelV]
  refine ⟨fun r hr => by have := h8 r (List.mem_of_mem_take hr); rwa [rowB.flat hef] at this, ?_⟩
  have hll : (xs.take hi).length = hi := by rw [List.length_take]; omega
  rcases h7.2 with ⟨hq, hn⟩ | ⟨g, cap', cur, hq, _, hg, hnc, hcm, hcs, htake⟩
  · simp only [Value.slice.injEq] at hq
    obtain ⟨rfl, rfl, rfl⟩ := hq
    have hh : hi = 0 := by omega
    subst hh
    left
    refine ⟨by simp, ?_⟩
    rw [hv]; simp
  · simp only [Value.slice.injEq] at hq
    obtain ⟨rfl, rfl, rfl⟩ := hq
    right
    refine ⟨g, 0, cap, css.take hi, ?_, by rw [hll]; exact hcap, ?_, (h5.mono key.2).take hi, fun i r hi' => ?_⟩
    · rw [hv, hll]; simp [Addr.add]
    · refine ⟨?_, (Array.getElem?_eq_some_iff.1 hg).1, ?_⟩
      · rcases hI.new o _ g h2 rfl with h9 | h9
        · have := hI.fresh.1 g h9; rw [← hI.io] at this; exact this
        · have := hI.np; have := hI.oldnp o g h9; omega
      · rintro ⟨o', v', h9, h10⟩
        simp only [ZA] at h9
        split at h9
        · cases h9; simp [blkOf] at h10
        · rename_i hne
          exact hne (hI.wf.inj o' o v' _ g h9 h2 h10 rfl)
    · have hir : css[i]? = some r := by
        rw [List.getElem?_take] at hi'
        split at hi'
        · exact hi'
        · cases hi'
      have hlt := (List.getElem?_eq_some_iff.1 hir).1
      have hlx : i < xs.length := by have := h5.length; omega
      have := Qf8 (C := ⟨io, w, loc, getM M⟩) (ver := 0) (e := e) ⟨css, h5, h6, h7, h8⟩ rfl hlx
      refine ⟨h6 r (List.mem_of_getElem? hir), fun j c hj => ?_⟩
      have hjs : j < sz := by have := (List.getElem?_eq_some_iff.1 hj).1; have := h6 r (List.mem_of_getElem? hir); omega
      have hb : i * sz + j < xs.length * sz := by
        calc i * sz + j < i * sz + sz := by omega
          _ = (i + 1) * sz := by rw [Nat.add_mul i]; omega
          _ ≤ xs.length * sz := Nat.mul_le_mul_right _ hlx
      have e0 : 0 + i * sz + j = i * sz + j := by omega
      rw [e0, h7.cellAt _ hb, WK h6 i j hjs, hir]
      exact hj

theorem Qqv {l : Array Operand} {y : SX} (h : (match l.toList with | [x] => okX x y | _ => false) = true) : ∃ x, l = #[x] ∧ okX x y = true := by
  split at h
  · rename_i x hx; exact ⟨x, Array.toList_inj.1 (by simpa using hx), h⟩
  · cases h
theorem QmV {l : Array Operand} {y z : SX} (h : (match l.toList with | [a, b] => okX a y && okX b z | _ => false) = true) : ∃ a b, l = #[a, b] ∧ okX a y = true ∧ okX b z = true := by
  split at h
  · rename_i a b hx; simp only [Bool.and_eq_true] at h; exact ⟨a, b, Array.toList_inj.1 (by simpa using hx), h.1, h.2⟩
  · cases h
theorem Qoj {l : Array TypeId} {f : TypeId → Bool} (h : (match l.toList with | [t] => f t | _ => false) = true) : ∃ t, l = #[t] ∧ f t = true := by
  split at h
  · rename_i x hx; exact ⟨x, Array.toList_inj.1 (by simpa using hx), h⟩
  · cases h
theorem Qok {l : Array TypeId} {f : TypeId → Bool} (h : (match l.toList with | [t, t'] => t == t' && f t | _ => false) = true) : ∃ t, l = #[t, t] ∧ f t = true := by
  split at h
  · rename_i x y hx
    simp only [Bool.and_eq_true, beq_iff_eq] at h
    obtain ⟨rfl, h⟩ := h
    exact ⟨x, Array.toList_inj.1 (by simpa using hx), h⟩
  · cases h

theorem QfM {C : Ctx} (hG : globOk C) {E : List (Nat × AV)} {a : Act} (hE : ∀ k, RelV C (getE E k) (a.tmps.getD k undef)) : ∀ {l : List Operand} {ys : List SX}, QfJ l ys = true → RelL C (ys.map (ev (getE E))) (l.map a.eval)
  | [], [], _ => by simp [RelL]
  | [], y :: ys, h => by simp [QfJ] at h
  | x :: l, [], h => by simp [QfJ] at h
  | x :: l, y :: ys, h => by
    simp only [QfJ, Bool.and_eq_true] at h
    simp only [List.map_cons, RelL]
    exact ⟨_, _, rfl, KG hG hE h.1, QfM hG hE h.2⟩
theorem Qki (ns : List Int) : ∀ s : ByteArray, (ns.foldl (fun r n => r.push (UInt8.ofNat n.toNat)) s).data = s.data ++ (ns.map fun n => UInt8.ofNat n.toNat).toArray := by
  induction ns with
  | nil => intro s; simp
  | cons n ns ih => intro s; simp only [List.foldl_cons]; rw [ih]; simp [ByteArray.push]
theorem Qhr {C : Ctx} : ∀ {xs : List (List AV)} {css : List (List Value)}, RelLL C xs css → xs.all Qhh = true → ∃ ns : List Int, css.flatten = ns.map (Value.int .u8) ∧ xs.map Qjj = ns.map fun n => UInt8.ofNat n.toNat
  | [], css, h, _ => by simp only [RelLL] at h; subst h; exact ⟨[], rfl, rfl⟩
  | x :: xs, css, h, hb => by
    simp only [RelLL] at h
    obtain ⟨c, cs, rfl, h1, h2⟩ := h
    simp only [List.all_cons, Bool.and_eq_true] at hb
    obtain ⟨ns, h3, h4⟩ := Qhr h2 hb.2
    have hx := hb.1
    unfold Qhh at hx
    split at hx
    · rename_i n
      simp only [RelL, RelV] at h1
      obtain ⟨v, vs, rfl, rfl, rfl⟩ := h1
      exact ⟨n :: ns, by simp [h3], by simp [h4, Qjj]⟩
    · cases hx
theorem QiK {t : Nat} (h : Qk5 P t = true) : ∃ e, P.underlying t = some (.slice e) ∧ P.underlying e = some (.int .u8) := by
  unfold Qk5 at h
  split at h
  · rename_i e he
    split at h
    · rename_i h2; exact ⟨e, he, h2⟩
    · cases h
  · cases h
theorem QoJ {t : TypeId} (h : QfI P t = true) (neg : Bool) (x y : Operand) (b : Addr) (m c : Nat) :
    (do eqGuard (if neg then .neq else .eql) t x y (.slice (some b) m c) (.slice none 0 0); binOp (if neg then .neq else .eql) t (.slice (some b) m c) (.slice none 0 0) : Sem Value).run P w = .ok (.bool neg) w := by
  unfold QfI at h; split at h
  · rename_i hu
    have he : (Op.equalIn (9999 + 1) t (.slice (some b) m c) (.slice none 0 0)).run P w = .ok false w := by
      unfold Op.equalIn; simp [run_underlying hu]
    have he : (Op.equal t (.slice (some b) m c) (.slice none 0 0)).run P w = .ok false w := he
    cases neg <;> simp [eqGuard, binOp, he]
  · cases h
theorem QfN (hI : Inv A ⟨io, w, loc, getM M⟩) {E : List (Nat × AV)} {a : Act} (hE : ∀ k, RelV ⟨io, w, loc, getM M⟩ (getE E k) (a.tmps.getD k undef)) {o : Oper} {c : Call} {t ob e sz : Nat} {cs : Array Bool} {x y : Operand} {x' : SX} {R : Prop × List (List AV)}
    (he : (execOp a.eval o).run P w = (builtin .append c.argTypes o.type cs (c.args.map a.eval)).run P w) (hat : c.argTypes = #[t, t]) (haa : c.args.map a.eval = #[a.eval x, a.eval y]) (hB : Qqm P t (e % 1000000) sz = true) (h2 : okX x x' = true)
    (hR : R.1 → ∃ css, RelLL ⟨io, w, loc, getM M⟩ R.2 css ∧ (∀ r ∈ css, r.length = sz) ∧ (∀ r ∈ R.2, rowB e r = true) ∧ srcA w css (a.eval y)) (hp : (Yw (getE E) (getM M) ob e sz x' R).pre) :
    OpTo A ⟨io, w, loc, getM M⟩ (YU M (Yw (getE E) (getM M) ob e sz x' R).ups) (Yw (getE E) (getM M) ob e sz x' R).v ((execOp a.eval o).run P w) := by
  have hx := KG hI.wf.glob hE h2
  simp only [Yw] at hp ⊢
  split at hp
  rotate_left
  · rename_i kx
    split at hp <;> rename_i hz <;> try exact hp.elim
    rename_i ob' ver lo hi
    split at hp <;> rename_i hM <;> try exact hp.elim
    rename_i e' cv sz' xs
    obtain ⟨rfl, rfl, rfl, h3, rfl, h4, h5⟩ := hp
    simp only [ev] at hx
    obtain ⟨css, h6, h7, h8, h9⟩ := hR h4
    rw [hz] at hx
    simp only [RelV] at hx
    obtain ⟨_, obj, hv, h10, h11, h12⟩ := hx
    have h10 : getM M ob = some obj := h10
    have h11 : loc ob = some hv := h11
    rw [hM] at h10; cases h10
    obtain ⟨hlo, hhi, base, n, cap, rfl, hcap, hxv⟩ := h12.2 h3
    obtain ⟨hv', h13, css0, h14, h15, h16, h17⟩ := hI.wf.obj ob _ hM
    have h13 : loc ob = some _ := h13
    rw [h11] at h13; cases h13
    have hone : ∀ u ∈ css.flatten, u.oneCell' = true := by
      rcases h9 with ⟨rfl, _⟩ | ⟨_, _, _, _, _, h⟩
      · simp
      · exact h
    have hcl := h6.length
    have hpre : w.ownsRow 0 (e % 1000000) sz (a.eval x) hi (css0.take hi).flatten ∧ (blkOf (a.eval x) = blkOf (.slice base n cap)) := by
      rcases h16.2 with ⟨hq, hn⟩ | ⟨g, cap', cur, hq, _⟩
      · simp only [Value.slice.injEq] at hq
        obtain ⟨rfl, rfl, rfl⟩ := hq
        have hh : hi = 0 := by omega
        subst hh
        rw [hxv]
        simp only [List.take_zero, List.flatten_nil]
        exact ⟨World.ownsRow_nil w 0 (e % 1000000) sz, rfl⟩
      · simp only [Value.slice.injEq] at hq
        obtain ⟨rfl, rfl, rfl⟩ := hq
        have := Qfu h16 hhi
        rw [Qdw h15] at this
        have hxe : a.eval x = .slice (some ⟨g, 0, none⟩) hi cap := by rw [hxv]; simp [Addr.add]
        rw [hxe]; exact ⟨this, rfl⟩
    obtain ⟨v', w', h18, h19, h20, h21⟩ := Qk0 (P := P) (ty := o.type) hB hpre.1 h7 hone h9 (by rw [hcl]; exact h5)
    have hrel := (h14.take hi).append h6
    have hfl : (css0.take hi).flatten ++ css.flatten = (css0.take hi ++ css).flatten := by simp
    have hlen : (xs.take hi ++ R.2).length = hi + css.length := by
      rw [List.length_append, List.length_take, hcl]; omega
    have hlen2 : hi + R.2.length = (xs.take hi ++ R.2).length := by
      rw [hlen, hcl]
    have hrowl : ∀ r ∈ css0.take hi ++ css, r.length = sz := by
      intro r hr
      rcases List.mem_append.1 hr with h | h
      · exact h15 r (List.mem_of_mem_take h)
      · exact h7 r h
    have hrowf : ∀ r ∈ xs.take hi ++ R.2, rowB e r = true := by
      intro r hr
      rcases List.mem_append.1 hr with h | h
      · exact h17 r (List.mem_of_mem_take h)
      · exact h8 r h
    obtain ⟨h22, h23, h24⟩ := Qet (A := A) hI (o := ob) (obj0 := some (.arr e cv sz xs)) hM (e := e) (ver := cv + 1) (sz := sz) (by intro _ _ _ _ h; cases h; omega) (by simp) (by simp) (w' := w') (hv' := v')
      (by simpa [h11, hpre.2] using h20) (fun b hb => (h21 b hb).imp id (fun h => ⟨_, h11, by rw [← hpre.2]; exact h⟩)) hrel
      hrowl (by rw [hlen, ← hfl]; exact h19) hrowf
    try simp only [hM]
    rw [hlen2]
    refine ⟨v', w', _, .inl ?_, h22, h23, h24⟩
    rw [he, hat, haa]; simp only [builtin, Sem.run_bind, h18, Result.andThen_ok, Sem.run_pure]
  · exact hp.elim
  · rename_i tg sz' xs
    obtain ⟨rfl, h3, h4, h5⟩ := hp
    obtain ⟨css, h6, h7, h8, h9⟩ := hR h4
    have hxv : a.eval x = .slice none 0 0 := by
      cases x with
      | const v =>
        simp only [okX] at h2
        cases v with
        | slice a' n c =>
          cases a' with
          | none =>
            simp [Qal] at h2
            obtain ⟨rfl, rfl⟩ := h2
            rfl
          | some a' => simp [Qal] at h2
        | _ => simp [Qal] at h2
      | tmp k => simp [okX] at h2
      | func f => simp [okX] at h2
      | global g => simp [okX] at h2
    have hone : ∀ u ∈ css.flatten, u.oneCell' = true := by
      rcases h9 with ⟨rfl, _⟩ | ⟨_, _, _, _, _, h⟩
      · simp
      · exact h
    have hcl := h6.length
    obtain ⟨v', w', h18, h19, h20, h21⟩ := Qk0 (P := P) (ty := o.type) hB (World.ownsRow_nil w 0 (e % 1000000) sz) h7 hone h9 (by rw [hcl]; omega)
    have hlo : loc ob = none := by
      cases hl : loc ob with
      | none => rfl
      | some v =>
        obtain ⟨obj, h⟩ := hI.wf.dom ob v hl
        have h : getM M ob = some obj := h
        rw [h3] at h; cases h
    simp only [Nat.zero_add, List.nil_append] at h19
    obtain ⟨h22, h23, h24⟩ := Qet (A := A) hI (o := ob) (obj0 := none) h3 (e := e) (ver := 0) (sz := sz) (by simp) (by simp) (by simp) (w' := w') (hv' := v')
      (by simpa [hlo, blkOf] using h20) (fun b hb => (h21 b hb).imp id (fun h => by simp [blkOf] at h)) h6 h7 (by rw [← hcl]; exact h19) h8
    refine ⟨v', w', _, .inl ?_, h22, h23, h24⟩
    rw [he, hat, haa, hxv]; simp only [builtin, Sem.run_bind, h18, Result.andThen_ok, Sem.run_pure]
/-- EVERY OPERATION DOES WHAT 'eff' SAYS. -/
theorem QmW (hI : Inv A ⟨io, w, loc, getM M⟩) {E : List (Nat × AV)} {a : Act} (hE : ∀ k, RelV ⟨io, w, loc, getM M⟩ (getE E k) (a.tmps.getD k undef)) {o : Oper} {s : SOp} (hok : Qri P o s = true) (hp : (eff s (getE E) (getM M)).pre) :
    OpTo A ⟨io, w, loc, getM M⟩ (YU M (eff s (getE E) (getM M)).ups) (eff s (getE E) (getM M)).v ((execOp a.eval o).run P w) := by
  have pure1 : ∀ {sm : Sem Value} {v : Value} {v' : AV} {u : List (Nat × AObj)}, execOp a.eval o = (do pure (.value (← sm))) → sm.run P w = .ok v w → RelV ⟨io, w, loc, getM M⟩ v' v → u = [] → OpTo A ⟨io, w, loc, getM M⟩ (YU M u) v' ((execOp a.eval o).run P w) := by
    intro sm v v' u he hr hv hu
    subst hu
    exact ZU (C := ⟨io, w, loc, getM M⟩) he hr hI (Ext.refl _) hv
  unfold Qri at hok
  generalize ho : o.op = op at hok
  split at hok
  case _ x y => -- move
    exact pure1 (sm := pure (a.eval x)) (by unfold execOp; simp only [ho]; rfl) rfl (KG hI.wf.glob hE hok) rfl
  case _ x y => -- assign
    exact pure1 (sm := pure (a.eval x)) (by unfold execOp; simp only [ho]; rfl) rfl (KG hI.wf.glob hE hok) rfl
  case _ x y => -- move, frozen
    have hx := KG hI.wf.glob hE hok
    simp only [eff] at hp ⊢
    split at hp <;> rename_i hy <;> try exact hp.elim
    rename_i ob ver lo hi
    split at hp <;> rename_i hM <;> try exact hp.elim
    obtain ⟨h1, h2, h3, hef⟩ := hp
    subst h3
    rw [hy] at hx
    simp only [hM]
    obtain ⟨h4, h5, h6⟩ := Qb6 hI hx hM h2 h1 hef
    exact ZU (s := pure (a.eval x)) (C := ⟨io, w, loc, getM M⟩) (by unfold execOp; simp only [ho]; rfl) rfl h4 h5 h6
  case _ x y => -- assign, frozen
    have hx := KG hI.wf.glob hE hok
    simp only [eff] at hp ⊢
    split at hp <;> rename_i hy <;> try exact hp.elim
    rename_i ob ver lo hi
    split at hp <;> rename_i hM <;> try exact hp.elim
    obtain ⟨h1, h2, h3, hef⟩ := hp
    subst h3
    rw [hy] at hx
    simp only [hM]
    obtain ⟨h4, h5, h6⟩ := Qb6 hI hx hM h2 h1 hef
    exact ZU (s := pure (a.eval x)) (C := ⟨io, w, loc, getM M⟩) (by unfold execOp; simp only [ho]; rfl) rfl h4 h5 h6
  case _ ob e sz => -- a nil row
    obtain ⟨h4, h5, h6⟩ := Qet (A := A) hI (o := ob) (obj0 := none) hp (e := e) (ver := 0) (sz := sz) (by simp) (by simp) (by simp) (w' := w) (hv' := .slice none 0 0) (xs := []) (css := []) (Grow.refl _ _) (fun b hb => by simp [blkOf] at hb) (by simp [RelLL]) (by simp) (World.ownsRow_nil w 0 (e % 1000000) sz) (by simp)
    exact ZU (s := pure (.slice none 0 0)) (C := ⟨io, w, loc, getM M⟩) (by unfold execOp; simp only [ho]; rfl) rfl h4 h5 h6
  case _ ob e sz => -- a nil row
    obtain ⟨h4, h5, h6⟩ := Qet (A := A) hI (o := ob) (obj0 := none) hp (e := e) (ver := 0) (sz := sz) (by simp) (by simp) (by simp) (w' := w) (hv' := .slice none 0 0) (xs := []) (css := []) (Grow.refl _ _) (fun b hb => by simp [blkOf] at hb) (by simp [RelLL]) (by simp) (World.ownsRow_nil w 0 (e % 1000000) sz) (by simp)
    exact ZU (s := pure (.slice none 0 0)) (C := ⟨io, w, loc, getM M⟩) (by unfold execOp; simp only [ho]; rfl) rfl h4 h5 h6
  case _ c x y c' x' y' => -- pick
    simp only [Bool.and_eq_true] at hok
    have hc := KG hI.wf.glob hE hok.1.1
    simp only [eff] at hp ⊢
    split at hp <;> rename_i hy <;> try exact hp.elim
    · rw [hy] at hc; simp only [RelV] at hc
      exact OpTo.pure hI (v := a.eval x) (by unfold execOp; simp only [ho]; simp [hc, asBool]) (KG hI.wf.glob hE hok.1.2)
    · rw [hy] at hc; simp only [RelV] at hc
      exact OpTo.pure hI (v := a.eval y) (by unfold execOp; simp only [ho]; simp [hc, asBool]) (KG hI.wf.glob hE hok.2)
  case _ op t x y ty op' x' y' => -- bin
    simp only [Bool.and_eq_true, beq_iff_eq] at hok
    obtain ⟨⟨rfl, h1⟩, h2⟩ := hok
    obtain ⟨r, h3, h4, h5⟩ := Qhi (P := P) (w := w) (KG hI.wf.glob hE h1) (KG hI.wf.glob hE h2) hp t x y
    exact pure1 (Qb5 ho a) h3 h4 h5
  case _ op t x y ty op' x' y' => -- binN
    simp only [Bool.and_eq_true, beq_iff_eq] at hok
    obtain ⟨⟨rfl, h1⟩, h2⟩ := hok
    obtain ⟨r, h3, h4, h5⟩ := Qga (P := P) (w := w) (KG hI.wf.glob hE h1) (KG hI.wf.glob hE h2) hp t x y
    exact pure1 (Qb5 ho a) h3 h4 h5
  case _ op t x y ty neg x' y' => -- eqB
    simp only [Bool.and_eq_true, beq_iff_eq] at hok
    obtain ⟨⟨⟨rfl, h0⟩, h1⟩, h2⟩ := hok
    have hx := KG hI.wf.glob hE h1
    have hy := KG hI.wf.glob hE h2
    simp only [eff] at hp ⊢
    split at hp <;> rename_i hz1 hz2 <;> try exact hp.elim
    rw [hz1] at hx; rw [hz2] at hy
    have hu : P.underlying t = some .bool := by
      unfold Qqr at h0; split at h0
      · assumption
      · cases h0
    exact pure1 (Qb5 ho a) (Qk2 hx hy hu neg x y) (by simp [ok1, RelV]) rfl
  case _ op t x y ty neg ks x' y' => -- eqS
    simp only [Bool.and_eq_true, beq_iff_eq] at hok
    obtain ⟨⟨⟨rfl, h0⟩, h1⟩, h2⟩ := hok
    have hx := KG hI.wf.glob hE h1
    have hy := KG hI.wf.glob hE h2
    simp only [eff] at hp ⊢
    split at hp <;> rename_i hz1 hz2 <;> try exact hp.elim
    rw [hz1] at hx; rw [hz2] at hy
    split at hp <;> rename_i hr <;> try exact hp.elim
    try simp only [hr]
    exact pure1 (Qb5 ho a) (Qk3 hx hy h0 hr neg x y) (by simp [ok1, RelV]) rfl
  case _ t x x' => -- neg
    have hx := KG hI.wf.glob hE hok
    simp only [eff] at hp ⊢
    split at hp <;> rename_i hy <;> try exact hp.elim
    rw [hy] at hx; simp only [RelV] at hx
    exact pure1 (sm := Op.unary .neg (a.eval x)) (by unfold execOp; simp only [ho]) (by rw [hx]; simp [Op.unary, Op.intArith]; rfl) (by simp [ok1, RelV]) rfl
  case _ t x x' => -- not
    have hx := KG hI.wf.glob hE hok
    simp only [eff] at hp ⊢
    split at hp <;> rename_i hy <;> try exact hp.elim
    rw [hy] at hx; simp only [RelV] at hx
    exact pure1 (sm := Op.unary .not (a.eval x)) (by unfold execOp; simp only [ho]) (by rw [hx]; simp [Op.unary]; rfl) (by simp [ok1, RelV]) rfl
  case _ src dst x k x' => -- convert
    simp only [Bool.and_eq_true] at hok
    obtain ⟨⟨h0, h0'⟩, h1⟩ := hok
    have hx := KG hI.wf.glob hE h1
    simp only [eff] at hp ⊢
    split at hp <;> rename_i hy <;> try exact hp.elim
    rw [hy] at hx; simp only [RelV] at hx
    have hd : P.underlying dst = some (.int k) := by
      unfold Qqs at h0; split at h0
      · rename_i hu; rw [hu]; simp at h0; rw [h0]
      · cases h0
    split at h0' <;> rename_i hs <;> try cases h0'
    exact pure1 (sm := convert src dst (a.eval x)) (by unfold execOp; simp only [ho]) (by rw [hx]; simp [convert, run_underlying hs, run_underlying hd, Conv.intToInt]; rfl) (by simp [ok1, RelV]) rfl
  case _ t ob zs => -- alloc
    obtain ⟨i, z, hi, hz, hzc, hzs⟩ := Qc8 hok
    obtain ⟨h1, h2, h3⟩ := Ze (C := ⟨io, w, loc, getM M⟩) hzc
    obtain ⟨h4, h5, h6⟩ := Qof hI hp h1 h3 t
    refine ZU (s := Instr.alloc t true (.tuple #[])) (C := ⟨io, w, loc, getM M⟩) (by unfold execOp; simp only [ho]) ?_ h4 h5 h6
    simp [Instr.alloc, zeroValue, typeInfo, hi, hz, newVar, newRow]
  case _ t x ob x' => -- box
    have hx := KG hI.wf.glob hE hok
    simp only [eff] at hp ⊢
    obtain ⟨h1, h2⟩ := V8 hx hp.2
    obtain ⟨h4, h5, h6⟩ := Qof hI hp.1 h1 hp.2 t
    refine ZU (s := Instr.box t (a.eval x)) (C := ⟨io, w, loc, getM M⟩) (by unfold execOp; simp only [ho]) ?_ h4 h5 h6
    simp [Instr.box, newVar, newRow]
  case _ t x x' => -- load1
    simp only [Bool.and_eq_true] at hok
    obtain ⟨c, h1, h2, h3⟩ := Qer (P := P) hI (KG hI.wf.glob hE hok.2) hok.1 hp
    exact pure1 (sm := Instr.loadAt t (a.eval x)) (by unfold execOp; simp only [ho]) h1 h2 h3
  case _ t x n x' => -- loadN
    simp only [Bool.and_eq_true] at hok
    obtain ⟨c, h1, h2, h3⟩ := Qes (P := P) hI (KG hI.wf.glob hE hok.2) hok.1.1 hok.1.2 hp
    exact pure1 (sm := Instr.loadAt t (a.eval x)) (by unfold execOp; simp only [ho]) h1 h2 h3
  case _ t x y n x' y' => -- store
    simp only [Bool.and_eq_true] at hok
    obtain ⟨⟨h0, h1⟩, h2⟩ := hok
    have hx := KG hI.wf.glob hE h1
    have hy := KG hI.wf.glob hE h2
    simp only [eff] at hp ⊢
    split at hp <;> rename_i hz <;> try exact hp.elim
    · rename_i ob off
      split at hp <;> rename_i hM <;> try exact hp.elim
      simp only [hM]
      rw [hz] at hx
      obtain ⟨w', loc', h3, h4, h5⟩ := Qfs (P := P) hI hx hy hM h0 hp.1 hp.2.1 hp.2.2
      exact ⟨undef, w', loc', .inr ⟨by unfold execOp; simp only [ho]; simp [h3], rfl⟩, h4, h5, by simp [RelV]⟩
    · rename_i ob ver i off
      split at hp <;> rename_i hM <;> try exact hp.elim
      simp only [hM]
      rw [hz] at hx
      obtain ⟨w', loc', h3, h4, h5⟩ := Qft (P := P) hI hx hy hM h0 hp.1 hp.2.1 hp.2.2.1 hp.2.2.2
      exact ⟨undef, w', loc', .inr ⟨by unfold execOp; simp only [ho]; simp [h3], rfl⟩, h4, h5, by simp [RelV]⟩
  case _ x x' => -- nilCheck
    have hx := KG hI.wf.glob hE hok
    simp only [eff] at hp ⊢
    split at hp <;> rename_i hy <;> try exact hp.elim
    · rename_i ob off
      rw [hy] at hx
      have hx0 := hx
      split at hp <;> rename_i hM <;> try exact hp.elim
      try simp only [hM]
      simp only [RelV] at hx
      obtain ⟨_, obj, hv, h1, h2, h3⟩ := hx
      have h1 : getM M ob = some obj := h1
      rw [hM] at h1; cases h1
      obtain ⟨b, _, hv⟩ := h3
      exact pure1 (sm := pure (a.eval x)) (by unfold execOp; simp only [ho, hv]; rfl) rfl hx0 rfl
    · rename_i ob ver i off
      rw [hy] at hx
      have hx0 := hx
      split at hp <;> rename_i hM <;> try exact hp.elim
      simp only [hM]
      simp only [RelV] at hx
      obtain ⟨_, obj, hv, h1, h2, h3⟩ := hx
      have h1 : getM M ob = some obj := h1
      rw [hM] at h1; cases h1
      obtain ⟨_, g, n, cap, _, hv⟩ := h3.2 hp
      exact pure1 (sm := pure (a.eval x)) (by unfold execOp; simp only [ho, hv]; rfl) rfl hx0 rfl
    · rw [hy] at hx
      have hx0 := hx
      simp only [RelV] at hx
      obtain ⟨_, b, off, cs, hv, _⟩ := hx
      exact pure1 (sm := pure (a.eval x)) (by unfold execOp; simp only [ho, hv]; rfl) rfl hx0 rfl
  case _ s x f off x' => -- fieldAddr
    simp only [Bool.and_eq_true] at hok
    obtain ⟨r, h1, h2, h3⟩ := QiG (P := P) hI (KG hI.wf.glob hE hok.2) hok.1 hp
    exact pure1 (sm := Instr.fieldAt s (a.eval x) f) (by unfold execOp; simp only [ho]) h1 h2 h3
  case _ s x f off x' => -- field1
    simp only [Bool.and_eq_true] at hok
    have hx := KG hI.wf.glob hE hok.2
    simp only [eff] at hp ⊢
    split at hp <;> rename_i hy <;> try exact hp.elim
    rw [hy] at hx
    obtain ⟨r, h1, h2⟩ := Qhn (P := P) (w := w) hx hok.1 hp
    exact pure1 (sm := Instr.field s (a.eval x) f) (by unfold execOp; simp only [ho]) h1 h2 rfl
  case _ s x f off n x' => -- fieldN
    simp only [Bool.and_eq_true] at hok
    have hx := KG hI.wf.glob hE hok.2
    simp only [eff] at hp ⊢
    split at hp <;> rename_i hy <;> try exact hp.elim
    rw [hy] at hx
    obtain ⟨r, h1, h2⟩ := Qho (P := P) (w := w) hx hok.1 hp
    exact pure1 (sm := Instr.field s (a.eval x) f) (by unfold execOp; simp only [ho]) h1 h2 rfl
  case _ t x i sz x' i' => -- indexAddr
    simp only [Bool.and_eq_true] at hok
    obtain ⟨⟨h0, h1⟩, h2⟩ := hok
    have hx := KG hI.wf.glob hE h1
    have hi := KG hI.wf.glob hE h2
    simp only [eff] at hp ⊢
    split at hp <;> rename_i hy <;> try exact hp.elim
    rw [hy] at hi
    simp only [RelV] at hi
    obtain ⟨r, h3, h4, h5⟩ := QiH (P := P) hI hx h0 hp
    exact pure1 (sm := Instr.indexAt t (a.eval x) (a.eval i)) (by unfold execOp; simp only [ho]) (by rw [hi]; exact h3) h4 h5
  case _ t x i x' i' => -- index of a string
    simp only [Bool.and_eq_true] at hok
    obtain ⟨⟨h0, h1⟩, h2⟩ := hok
    have hx := KG hI.wf.glob hE h1
    have hi := KG hI.wf.glob hE h2
    simp only [eff] at hp ⊢
    split at hp <;> rename_i hy hz <;> try exact hp.elim
    rw [hy] at hx; rw [hz] at hi
    simp only [RelV] at hi hx
    exact pure1 (sm := Instr.index t (a.eval x) (a.eval i)) (by unfold execOp; simp only [ho]) (by rw [hi, hx]; exact QmP h0 _ _ hp.1 hp.2) (by simp [RelV]) rfl
  case _ t x lo hi x' lo' hi' => -- a string's part
    simp only [Bool.and_eq_true] at hok
    obtain ⟨⟨⟨h0, h1⟩, h2⟩, h3⟩ := hok
    have hx := KG hI.wf.glob hE h1
    simp only [eff] at hp ⊢
    split at hp <;> rename_i hy <;> try exact hp.elim
    rename_i s
    split at hp <;> rename_i hl hh <;> try exact hp.elim
    rename_i l h
    simp only [hl, hh]
    rw [hy] at hx; simp only [RelV] at hx
    have hu : P.underlying t = some .string := by
      unfold Za at h0; split at h0
      · assumption
      · cases h0
    have hb := Qda (P := P) (w := w) hI.wf.glob hE h2 h3 (len := s.size) (cap := s.size) hl (by rw [Gp]; exact hh) hp.1 hp.2.1 (by rw [Gp]; exact hp.2.2) (Nat.le_refl _) false
    refine pure1 (sm := Instr.sliceAt t (a.eval x) (lo.map a.eval) (hi.map a.eval) none) (by unfold execOp; simp only [ho]; rfl) (v := .string (s.extract l.toNat h.toNat)) ?_ (by simp only [RelV]) rfl
    rw [hx]
    simp [Instr.sliceAt, run_underlying hu, Instr.slice, hb]
  case _ t x lo hi sz x' lo' hi' => -- a slice's part
    simp only [Bool.and_eq_true] at hok
    obtain ⟨⟨⟨h0, h1⟩, h2⟩, h3⟩ := hok
    have hx := KG hI.wf.glob hE h1
    simp only [eff] at hp ⊢
    split at hp <;> rename_i hy <;> try exact hp.elim
    · rename_i tg sz' xs
      split at hp <;> rename_i hl hh <;> try exact hp.elim
      simp only [hl, hh]
      obtain ⟨rfl, h4, h5, h6⟩ := hp
      rw [hy] at hx
      obtain ⟨r, h7, h8⟩ := QmQ (P := P) (w := w) hx h0 (lo := lo.map a.eval) (hi := hi.map a.eval) (l := Int.toNat _) (h := Int.toNat _) (by omega) (by omega) (fun cap hc => Qda (P := P) hI.wf.glob hE h2 h3 hl hh h4 h5 h6 hc true)
      exact pure1 (sm := Instr.sliceAt t (a.eval x) (lo.map a.eval) (hi.map a.eval) none) (by unfold execOp; simp only [ho]; rfl) h7 h8 rfl
    · rename_i ob ver lo0 hi0
      split at hp <;> rename_i hM <;> try exact hp.elim
      split at hp <;> rename_i hl hh <;> try exact hp.elim
      simp only [hM, hl, hh]
      obtain ⟨rfl, h9, rfl, h4, h5, h6⟩ := hp
      rw [hy] at hx
      simp only [Nat.sub_zero] at h6 hh
      obtain ⟨r, h7, h8⟩ := QiI (P := P) (w := w) (C := ⟨io, w, loc, getM M⟩) hx hM h9 h0 (lo := lo.map a.eval) (hi := hi.map a.eval) (l := Int.toNat _) (h := Int.toNat _) (by omega) (by omega) (fun cap hc => Qda (P := P) hI.wf.glob hE h2 h3 hl hh h4 h5 h6 hc true)
      exact pure1 (sm := Instr.sliceAt t (a.eval x) (lo.map a.eval) (hi.map a.eval) none) (by unfold execOp; simp only [ho]; rfl) h7 h8 rfl
  case _ c x' => -- len of a string
    simp only [Bool.and_eq_true] at hok
    obtain ⟨⟨h0, h1⟩, h2⟩ := hok
    split at h0 <;> rename_i hc <;> try cases h0
    obtain ⟨t, hat, h1⟩ := Qoj h1
    obtain ⟨x, haa, h2⟩ := Qqv h2
    have hx := KG hI.wf.glob hE h2
    simp only [eff] at hp ⊢
    split at hp <;> rename_i hy <;> try exact hp.elim
    rw [hy] at hx; simp only [RelV] at hx
    obtain ⟨cs, he⟩ := UR (P := P) (w := w) ho hc a
    have haa : c.args.map a.eval = #[a.eval x] := by rw [haa]; simp
    refine OpTo.pure hI (v := .int .i64 _) (by rw [he, hat, haa, hx]; simp only [builtin, Sem.run_bind, QmR h1, Result.andThen_ok, Sem.run_pure]; rfl) (by simp only [ok1, RelV])
  case _ c x' => -- len of a slice
    simp only [Bool.and_eq_true] at hok
    obtain ⟨⟨h0, h1⟩, h2⟩ := hok
    split at h0 <;> rename_i hc <;> try cases h0
    obtain ⟨t, hat, h1⟩ := Qoj h1
    obtain ⟨x, haa, h2⟩ := Qqv h2
    have hx := KG hI.wf.glob hE h2
    obtain ⟨cs, he⟩ := UR (P := P) (w := w) ho hc a
    have haa : c.args.map a.eval = #[a.eval x] := by rw [haa]; simp
    simp only [eff] at hp ⊢
    split at hp <;> rename_i hy <;> try exact hp.elim
    · rw [hy] at hx; simp only [RelV] at hx
      obtain ⟨_, hx⟩ := hx
      rcases hx with ⟨rfl, hx | ⟨_, ad, hx⟩⟩ | ⟨b, off, cap, css, hx, _⟩
      · exact OpTo.pure hI (v := .int .i64 _) (by rw [he, hat, haa, hx]; simp only [builtin, Sem.run_bind, Qd0 h1, Result.andThen_ok, Sem.run_pure]; rfl) (by simp only [ok1, RelV]; rfl)
      · exact OpTo.pure hI (v := .int .i64 _) (by rw [he, hat, haa, hx]; simp only [builtin, Sem.run_bind, Qd0 h1, Result.andThen_ok, Sem.run_pure]; rfl) (by simp only [ok1, RelV]; rfl)
      · exact OpTo.pure hI (v := .int .i64 _) (by rw [he, hat, haa, hx]; simp only [builtin, Sem.run_bind, Qd0 h1, Result.andThen_ok, Sem.run_pure]; rfl) (by simp only [ok1, RelV])
    · rename_i ob ver lo hi
      split at hp <;> rename_i hM <;> try exact hp.elim
      try simp only [hM]
      rw [hy] at hx; simp only [RelV] at hx
      obtain ⟨_, obj, hv, h3, h4, h5⟩ := hx
      have h3 : getM M ob = some obj := h3
      rw [hM] at h3; cases h3
      obtain ⟨_, _, base, n, cap, _, _, hx⟩ := h5.2 hp
      exact OpTo.pure hI (v := .int .i64 _) (by rw [he, hat, haa, hx]; simp only [builtin, Sem.run_bind, Qd0 h1, Result.andThen_ok, Sem.run_pure]; rfl) (by simp only [RelV])
  case _ c x' y' => -- max
    simp only [Bool.and_eq_true] at hok
    obtain ⟨h0, h2⟩ := hok
    split at h0 <;> rename_i hc <;> try cases h0
    obtain ⟨x, y, haa, h2, h2'⟩ := QmV h2
    have hx := KG hI.wf.glob hE h2
    have hy := KG hI.wf.glob hE h2'
    simp only [eff] at hp ⊢
    split at hp <;> rename_i hz1 hz2 <;> try exact hp.elim
    have hp : _ = _ := hp
    subst hp
    rw [hz1] at hx; rw [hz2] at hy
    simp only [RelV] at hx hy
    obtain ⟨cs, he⟩ := UR (P := P) (w := w) ho hc a
    have haa : c.args.map a.eval = #[a.eval x, a.eval y] := by rw [haa]; simp
    exact OpTo.pure hI (v := .int _ _) (by rw [he, haa, hx, hy]; simp only [builtin, Sem.run_bind, QmT, Result.andThen_ok, Sem.run_pure]; rfl) (by simp only [RelV])
  case _ c x' y' => -- min
    simp only [Bool.and_eq_true] at hok
    obtain ⟨h0, h2⟩ := hok
    split at h0 <;> rename_i hc <;> try cases h0
    obtain ⟨x, y, haa, h2, h2'⟩ := QmV h2
    have hx := KG hI.wf.glob hE h2
    have hy := KG hI.wf.glob hE h2'
    simp only [eff] at hp ⊢
    split at hp <;> rename_i hz1 hz2 <;> try exact hp.elim
    have hp : _ = _ := hp
    subst hp
    rw [hz1] at hx; rw [hz2] at hy
    simp only [RelV] at hx hy
    obtain ⟨cs, he⟩ := UR (P := P) (w := w) ho hc a
    have haa : c.args.map a.eval = #[a.eval x, a.eval y] := by rw [haa]; simp
    exact OpTo.pure hI (v := .int _ _) (by rw [he, haa, hx, hy]; simp only [builtin, Sem.run_bind, QmU, Result.andThen_ok, Sem.run_pure]; rfl) (by simp only [RelV])
  case _ c ob e sz x' y' => -- append
    simp only [Bool.and_eq_true] at hok
    obtain ⟨⟨h0, h1⟩, h2⟩ := hok
    split at h0 <;> rename_i hc <;> try cases h0
    obtain ⟨t, hat, hB⟩ := Qok h1
    obtain ⟨x, y, haa, h2, h2'⟩ := QmV h2
    have hy := KG hI.wf.glob hE h2'
    obtain ⟨cs, he⟩ := UR (P := P) (w := w) ho hc a
    have haa : c.args.map a.eval = #[a.eval x, a.eval y] := by rw [haa]; simp
    refine QfN (R := Ql (getM M) sz (ev (getE E) y')) hI hE he hat haa hB h2 (fun h4 => ?_) hp
    obtain ⟨css, h6, h7, h8, h9⟩ := Qjl hI.wf hy h4
    exact ⟨css, h6, h7, fun r hr => rowB.of_flat (h8 r hr), srcA.mk h9⟩
  case _ x i j x' => -- extract
    simp only [Bool.and_eq_true, beq_iff_eq] at hok
    obtain ⟨rfl, h1⟩ := hok
    have hx := KG hI.wf.glob hE h1
    simp only [eff] at hp ⊢
    split at hp <;> rename_i hy <;> try exact hp.elim
    rw [hy] at hx; simp only [RelV] at hx
    obtain ⟨cs, hx, hr⟩ := hx
    obtain ⟨c, hc, hrel⟩ := hr.get i .junk hp
    exact pure1 (sm := Instr.extract (a.eval x) i) (by unfold execOp; simp only [ho]) (by rw [hx]; simp [Instr.extract, hc]) hrel rfl
  case _ t ps zs qs => -- build
    simp only [Bool.and_eq_true] at hok
    obtain ⟨cs, h1, h2⟩ := Qk7 hI.wf.glob hE hok.1 hok.2 hp
    exact pure1 (sm := Instr.build t (ps.map fun (i, x) => (i, a.eval x))) (by unfold execOp; simp only [ho]) h1 (by simp only [eff, RelV]; exact ⟨cs.toList, by simp, h2⟩) rfl
  case _ t n ps e sz qs => -- literal
    simp only [Bool.and_eq_true, beq_iff_eq] at hok
    obtain ⟨⟨rfl, h1⟩, h2⟩ := hok
    obtain ⟨css, h3, h4, h5⟩ := Qk6 (w := w) hI.wf.glob hE h1 h2 fun q hq => ⟨(hp q hq).1, UQ (hp q hq).2⟩
    obtain ⟨hI', hX⟩ := Inv.grow hI (Grow.alloc w (.cells css.flatten.toArray e) none)
    refine ⟨_, _, loc, .inl (by unfold execOp; simp only [ho]; simp only [Sem.run_bind]; erw [h5]; rfl), hI', hX, ?_⟩
    simp only [eff, RelV]
    have hcl := h3.length
    simp only [List.length_map] at hcl
    refine ⟨fun r hr => ?_, .inr ⟨w.heap.size, 0, qs.length, css, by simp, by simp, ⟨?_, by simp, ?_⟩, h3.mono hX, fun i r hi => ⟨h4 r (List.mem_of_getElem? hi), fun j c hj => ?_⟩⟩⟩
    · obtain ⟨q, hq, rfl⟩ := List.mem_map.1 hr
      exact (hp q hq).2
    · have := hI.fresh.1 w.heap.size hI.ev.size; rw [← hI.io] at this; exact this
    · rintro ⟨o', v', h6, h7⟩
      have := hI.wf.lt ⟨o', v', h6, h7⟩
      simp at this
    · have hjs : j < sz := by have := (List.getElem?_eq_some_iff.1 hj).1; have := h4 r (List.mem_of_getElem? hi); omega
      have e0 : 0 + i * sz + j = i * sz + j := by omega
      rw [e0, World.cell?_alloc_new]
      simp only [List.getElem?_toArray]
      rw [WK h4 i j hjs, hi]; exact hj
  case _ t n ps ob e sz qs => -- a literal of the call's own
    simp only [Bool.and_eq_true, beq_iff_eq] at hok
    obtain ⟨⟨rfl, h1⟩, h2⟩ := hok
    obtain ⟨css, h3, h4, h5⟩ := Qk6 (w := w) hI.wf.glob hE h1 h2 fun q hq => ⟨(hp.2 q hq).1, rowB.leaf (e := e) (hp.2 q hq).2⟩
    have hcl := h3.length
    simp only [List.length_map] at hcl
    have hfl : css.flatten.length = qs.length * sz := by rw [XN h4, hcl]
    have hpos := (Qew h1).2.2.1
    have hle := (Qew h1).2.2.2.1
    have hq : qs.length ≤ maxLen := by
      have : qs.length * 1 ≤ qs.length * sz := Nat.mul_le_mul_left _ hpos
      simp only [maxLen]; omega
    obtain ⟨h22, h23, h24⟩ := Qet (A := A) hI (o := ob) (obj0 := none) hp.1 (e := e) (ver := 0) (sz := sz) (by simp) (by simp) (by simp) (w' := w.alloc (.cells css.flatten.toArray (e % 1000000))) (hv' := .slice (some ⟨w.heap.size, 0, none⟩) qs.length qs.length)
      (Grow.alloc w _ _) (fun b hb => .inl (by simp [blkOf] at hb; omega)) h3 h4 (by
        have := World.ownsRow_lit (base := 0) (e := e % 1000000) (size := sz) w css.flatten.toArray qs.length (Nat.zero_le _) hq (by simpa using hfl)
        simpa using this) (fun r hr => by obtain ⟨q, hq, rfl⟩ := List.mem_map.1 hr; exact (hp.2 q hq).2)
    rw [List.length_map] at h24
    exact ⟨_, _, _, .inl (by unfold execOp; simp only [ho]; simp only [Sem.run_bind]; erw [h5]; rfl), h22, h23, h24⟩
  case _ t l c ob e sz zs n => -- make
    simp only [Bool.and_eq_true] at hok
    obtain ⟨⟨h0, h1⟩, h2⟩ := hok
    have hl := KG hI.wf.glob hE h1
    have hc := KG hI.wf.glob hE h2
    simp only [eff] at hp ⊢
    split at hp <;> rename_i hy <;> try exact hp.elim
    rename_i k n
    rw [hy] at hl hc
    simp only [RelV] at hl hc
    obtain ⟨hu, hsz, i, z, hi, hz, hzc, hsi, hby, hpos⟩ := QmS h0
    obtain ⟨h3, h4, h5⟩ := Ze (C := ⟨io, w, loc, getM M⟩) hzc
    have hn : ((n.toNat : Nat) : Int) = n := Int.toNat_of_nonneg hp.2.1
    have hnl : n.toNat ≤ 4294967296 := by have := hp.2.2; omega
    obtain ⟨w', h6, h7, h8⟩ := run_make_full (P := P) w 0 t (e % 1000000) i z sz hu hi hz hsi k k n.toNat (Nat.le_trans (Nat.mul_le_mul hby hnl) (by decide)) (by simp only [maxLen]; omega) (Nat.zero_le _)
    rw [hn] at h6
    have hzl : z.cells.size = sz := by have := h3.length; simp at this; omega
    rw [Qk9 z.cells sz hzl hpos] at h7
    obtain ⟨h22, h23, h24⟩ := Qet (A := A) hI (o := ob) (obj0 := none) hp.1 (e := e) (ver := 0) (sz := sz) (by simp) (by simp) (by simp) (w' := w') (hv' := .slice (some ⟨w.heap.size, 0, none⟩) n.toNat n.toNat)
      (xs := List.replicate n.toNat zs) (css := List.replicate n.toNat z.cells.toList) (by
        have hg := Grow.of_grownBy h8
        exact ⟨hg.os, hg.tape, hg.output, hg.size, fun b hb _ => hg.block b hb (by simp)⟩) (fun b hb => .inl (by simp [blkOf] at hb; omega)) (Qam h3 _) (fun r hr => by rw [(List.mem_replicate.1 hr).2]; simpa using hzl) (by rw [List.length_replicate]; exact h7) (fun r hr => by rw [(List.mem_replicate.1 hr).2]; exact rowB.of_flat h4)
    rw [List.length_replicate] at h24
    exact ZU (s := Instr.makeSlice t (a.eval l) (a.eval c)) (C := ⟨io, w, loc, getM M⟩) (by unfold execOp; simp only [ho]) (by rw [hl, hc]; exact h6) h22 h23 h24
  case _ f first caps f' caps' => -- makeFunc
    simp only [Bool.and_eq_true, beq_iff_eq] at hok
    obtain ⟨⟨rfl, h1⟩, h2⟩ := hok
    have hc := QfM hI.wf.glob hE h2
    have hf : first = #[] := by simpa using h1
    subst hf
    refine pure1 (sm := Instr.makeFunc (.func f) ((#[] : Array Operand).map a.eval) (caps.map a.eval)) (by unfold execOp; simp only [ho]) (by simp [Instr.makeFunc]; rfl) ?_ rfl
    simp only [eff, ok1, RelV]
    exact ⟨[], caps.toList.map a.eval, by simp; rw [← Array.toList_map], by simp [RelL], hc⟩
  case _ src dst x y => -- bytes to a string
    simp only [Bool.and_eq_true] at hok
    obtain ⟨⟨h0, h0'⟩, h1⟩ := hok
    have hx := KG hI.wf.glob hE h1
    simp only [eff, GU] at hp ⊢
    obtain ⟨h2, h3⟩ := hp
    obtain ⟨css, h4, h5, h6, h7⟩ := Qjl hI.wf hx h2
    have h7 := srcA.mk h7
    obtain ⟨e, hs, he⟩ := QiK h0'
    have hd : P.underlying dst = some .string := by
      unfold Za at h0; split at h0
      · assumption
      · cases h0
    obtain ⟨ns, h8, h9⟩ := Qhr h4 h3
    have hb : Qeo (Ql (getM M) 1 (ev (getE E) y)).2 = ns.foldl (fun r n => r.push (UInt8.ofNat n.toNat)) ByteArray.empty := by
      have := Qki ns ByteArray.empty
      unfold Qeo
      rw [h9]
      have e2 : (ns.foldl (fun r n => r.push (UInt8.ofNat n.toNat)) ByteArray.empty) = ⟨(ns.foldl (fun r n => r.push (UInt8.ofNat n.toNat)) ByteArray.empty).data⟩ := rfl
      rw [e2, this]
      simp [ByteArray.empty, ByteArray.emptyWithCapacity]
      rfl
    refine pure1 (sm := convert src dst (a.eval x)) (v := .string (Qeo (Ql (getM M) 1 (ev (getE E) y)).2)) (by unfold execOp; simp only [ho]) ?_ (by simp only [RelV]) rfl
    rcases h7 with ⟨rfl, hv⟩ | ⟨ad, cap, hv, hc, hcells, hone⟩
    · rw [hv, run_convert_bytes_string w src dst e none 0 0 hs he hd]
      have hn : ns = [] := by simpa using h8.symm
      subst hn
      rw [hb]; simp [Conv.bytesToString, Sem.run_pure]
    · rw [hv, run_convert_bytes_string w src dst e _ _ cap hs he hd, hb]
      refine run_bytesToString w ad css.length cap ns ?_
      have hl : css.flatten.length = css.length := by rw [XN h5]; omega
      have := run_loadCells_list (P := P) (w := w) ad css.flatten hcells
      rw [hl, h8] at this
      exact this
  case _ t r ob kk => -- makeMap
    simp only [Bool.and_eq_true] at hok
    have hr : r = none := by simpa using hok.2
    subst hr
    obtain ⟨h1, h2, h3⟩ := QiJ (A := A) hI (o := ob) (kk := kk) hp
    exact ZU (s := Instr.makeMap t none) (C := ⟨io, w, loc, getM M⟩) (by unfold execOp; simp only [ho]; rfl) (by simp [Instr.makeMap, newObj]; rfl) h1 h2 h3
  case _ t m k x ok kk z m' k' => -- lookup
    simp only [Bool.and_eq_true, beq_iff_eq] at hok
    obtain ⟨⟨⟨⟨rfl, h1⟩, h2⟩, h3⟩, h4⟩ := hok
    obtain ⟨r, h5, h6, h7⟩ := Qkg (P := P) hI (KG hI.wf.glob hE h3) (KG hI.wf.glob hE h4) _ h1 h2 hp
    exact pure1 (sm := Instr.lookup t (a.eval m) (a.eval k) x) (by unfold execOp; simp only [ho]) h5 h6 h7
  case _ t m k x kk m' k' x' => -- mapUpdate
    simp only [Bool.and_eq_true] at hok
    obtain ⟨⟨⟨h1, h2⟩, h3⟩, h4⟩ := hok
    obtain ⟨w', loc', h5, h6, h7, h8⟩ := QfL (P := P) hI (KG hI.wf.glob hE h2) (KG hI.wf.glob hE h3) (KG hI.wf.glob hE h4) h1 hp
    refine ⟨undef, w', loc', .inr ⟨by unfold execOp; simp only [ho]; simp [h5], rfl⟩, h6, h7, ?_⟩
    simp only [eff, h8, RelV]
  case _ t m k x kk m' k' x' => -- insert
    simp only [Bool.and_eq_true] at hok
    obtain ⟨⟨⟨h1, h2⟩, h3⟩, h4⟩ := hok
    obtain ⟨w', loc', h5, h6, h7, h8⟩ := QfL (P := P) hI (KG hI.wf.glob hE h2) (KG hI.wf.glob hE h3) (KG hI.wf.glob hE h4) h1 hp
    refine ⟨undef, w', loc', .inr ⟨by unfold execOp; simp only [ho]; simp [h5], rfl⟩, h6, h7, ?_⟩
    simp only [eff, h8, RelV]
  case _ t x i n x' i' => -- index of an array
    simp only [Bool.and_eq_true] at hok
    obtain ⟨⟨h0, h1⟩, h2⟩ := hok
    have hx := KG hI.wf.glob hE h1
    have hi := KG hI.wf.glob hE h2
    simp only [eff] at hp ⊢
    split at hp <;> rename_i hy hz <;> try exact hp.elim
    rw [hy] at hx; rw [hz] at hi
    simp only [RelV] at hi
    obtain ⟨r, h3, h4⟩ := Qk8 (P := P) (w := w) hx h0 hp.1 hp.2.1 hp.2.2
    exact pure1 (sm := Instr.index t (a.eval x) (a.eval i)) (by unfold execOp; simp only [ho]) (by rw [hi]; exact h3) h4 rfl
  case _ t x i n sz x' i' => -- index of an array, an aggregate
    simp only [Bool.and_eq_true] at hok
    obtain ⟨⟨h0, h1⟩, h2⟩ := hok
    have hx := KG hI.wf.glob hE h1
    have hi := KG hI.wf.glob hE h2
    simp only [eff] at hp ⊢
    split at hp <;> rename_i hy hz <;> try exact hp.elim
    rw [hy] at hx; rw [hz] at hi
    simp only [RelV] at hi
    obtain ⟨r, h3, h4⟩ := Qkh (P := P) (w := w) hx h0 hp.1 hp.2.1 hp.2.2
    exact pure1 (sm := Instr.index t (a.eval x) (a.eval i)) (by unfold execOp; simp only [ho]) (by rw [hi]; exact h3) h4 rfl
  case _ t x i n sz x' i' => -- address of an array's element
    simp only [Bool.and_eq_true] at hok
    obtain ⟨⟨h0, h1⟩, h2⟩ := hok
    have hx := KG hI.wf.glob hE h1
    have hi := KG hI.wf.glob hE h2
    simp only [eff] at hp ⊢
    split at hp <;> rename_i hy <;> try exact hp.elim
    rw [hy] at hi
    simp only [RelV] at hi
    obtain ⟨b, k, h3, h4, h5⟩ := Qqu hI hx hp.2.2
    exact pure1 (sm := Instr.indexAt t (a.eval x) (a.eval i)) (by unfold execOp; simp only [ho]) (by rw [hi, h3]; exact Qhm h0 _ hp.1 hp.2.1) h4 rfl
  case _ op t x ty neg x' => -- a slice beside nil
    simp only [Bool.and_eq_true, beq_iff_eq] at hok
    obtain ⟨⟨h0, h1⟩, h2⟩ := hok
    have hx := KG hI.wf.glob hE h2
    have key : ∃ b m c, a.eval x = .slice (some b) m c ∧ (eff (.isnil neg x') (getE E) (getM M)).v = .bool neg ∧ (eff (.isnil neg x') (getE E) (getM M)).ups = [] := by
      simp only [eff] at hp ⊢
      split at hp <;> rename_i hy <;> try exact hp.elim
      · rw [hy] at hx
        simp only [RelV] at hx
        rcases hx.2 with ⟨h3, _⟩ | ⟨b, off, cap, css, h3, _⟩
        · rw [h3] at hp; simp at hp
        · exact ⟨_, _, _, h3, by simp, by simp⟩
      · split at hp <;> rename_i hM <;> try exact hp.elim
        rw [hy] at hx
        simp only [RelV] at hx
        obtain ⟨_, obj, hv, h3, h4, h5⟩ := hx
        have h3 : getM M _ = some obj := h3
        rw [hM] at h3; cases h3
        obtain ⟨hlo, hhi, base, n, cap, rfl, hcap, hsl⟩ := h5.2 hp.1
        obtain ⟨hv', h6, css, h7, h8, h9, h10⟩ := hI.wf.obj _ _ hM
        have h6 : loc _ = some _ := h6
        rw [h4] at h6; cases h6
        rcases h9.2 with ⟨hq, hn⟩ | ⟨g, cap', cur, hq, _⟩
        · have := hp.2; omega
        · simp only [Value.slice.injEq] at hq
          obtain ⟨rfl, rfl, rfl⟩ := hq
          simp only [hM]
          split at hsl <;> exact ⟨_, _, _, hsl, by simp, by simp⟩
    obtain ⟨b, m, c, h3, h4, h5⟩ := key
    rw [h4, h5]
    subst h0
    exact ZU (C := ⟨io, w, loc, getM M⟩) (M' := M) (Qb5 ho a) (by rw [h3]; exact QoJ h1 neg x (.const (.slice none 0 0)) b m c) hI (Ext.refl _) (by simp only [RelV])
  case _ c ob e sz x' y' => -- append of rows that may hold references
    simp only [Bool.and_eq_true] at hok
    obtain ⟨⟨h0, h1⟩, h2⟩ := hok
    split at h0 <;> rename_i hc <;> try cases h0
    obtain ⟨t, hat, hB⟩ := Qok h1
    obtain ⟨x, y, haa, h2, h2'⟩ := QmV h2
    have hy := KG hI.wf.glob hE h2'
    obtain ⟨cs, he⟩ := UR (P := P) (w := w) ho hc a
    have haa : c.args.map a.eval = #[a.eval x, a.eval y] := by rw [haa]; simp
    refine QfN (R := ((KF (getM M) sz (ev (getE E) y')).1 ∧ 1000000 ≤ e, (KF (getM M) sz (ev (getE E) y')).2)) hI hE he hat haa hB h2 (fun h4 => ?_) hp
    obtain ⟨css, h6, h7, h8, h9⟩ := Qeu hI.wf hy h4.1
    refine ⟨css, h6, h7, fun r hr => ?_, srcA.mk h9⟩
    unfold rowB
    rw [if_neg (by have := h4.2; omega)]
    exact h8 r hr
  case _ => cases hok
end
end Go.Ve

namespace Go.Ve
set_option linter.unusedSimpArgs false
set_option linter.unusedVariables false
open Go.RowKit

/-! ## which objects a value leads to -/
mutual
def Qx (d : List Nat) : AV → Bool
  | .agg ls => Qo d ls
  | .tup ls => Qo d ls
  | .fn _ a b => Qo d a && Qo d b
  | .own o .. => d.contains o
  | .ptr o .. => d.contains o
  | .elt o .. => d.contains o
  | _ => true
def Qo (d : List Nat) : List AV → Bool
  | [] => true
  | x :: xs => Qx d x && Qo d xs
end
def Qb (d : List Nat) : AObj → Bool
  | .box ls => Qo d ls
  | .arr e _ _ xs => if e < 1000000 then true else xs.all (Qo d)
  | .mp kk es => if kk < 1000 then true else Qo d (es.map (·.2))
  | _ => true

/-- From one context into another that knows the same objects of 'd'. -/
structure Res (d : List Nat) (C C' : Ctx) : Prop where
  ok : ∀ t b, C.ok t b → C'.ok t b ∧ C'.w.heap[b]? = C.w.heap[b]?
  obj : ∀ o, d.contains o = true → C'.M o = C.M o ∧ C'.loc o = C.loc o
mutual
theorem RelV.res {d : List Nat} {C C' : Ctx} (h : Res d C C') : ∀ (x : AV) (v : Value), Qx d x = true → RelV C x v → RelV C' x v
  | .int .., v, _, hv => by simpa only [RelV] using hv
  | .bool .., v, _, hv => by simpa only [RelV] using hv
  | .str .., v, _, hv => by simpa only [RelV] using hv
  | .agg ls, v, hn, hv => by
    simp only [RelV] at hv ⊢; simp only [Qx] at hn; obtain ⟨cs, rfl, h1⟩ := hv; exact ⟨cs, rfl, RelL.res h ls cs hn h1⟩
  | .tup ls, v, hn, hv => by
    simp only [RelV] at hv ⊢; simp only [Qx] at hn; obtain ⟨cs, rfl, h1⟩ := hv; exact ⟨cs, rfl, RelL.res h ls cs hn h1⟩
  | .sl t sz xs, v, _, hv => RelV.norefs ⟨h.ok⟩ _ _ rfl hv
  | .own o ver lo hi, v, hn, hv => by
    simp only [Qx] at hn
    simp only [RelV] at hv ⊢
    obtain ⟨h0, obj, hv0, h1, h2, h3⟩ := hv
    exact ⟨h0, obj, hv0, by rw [(h.obj o hn).1]; exact h1, by rw [(h.obj o hn).2]; exact h2, h3⟩
  | .ptr o off, v, hn, hv => by
    simp only [Qx] at hn
    simp only [RelV] at hv ⊢
    obtain ⟨h0, obj, hv0, h1, h2, h3⟩ := hv
    exact ⟨h0, obj, hv0, by rw [(h.obj o hn).1]; exact h1, by rw [(h.obj o hn).2]; exact h2, h3⟩
  | .elt o ver i off, v, hn, hv => by
    simp only [Qx] at hn
    simp only [RelV] at hv ⊢
    obtain ⟨h0, obj, hv0, h1, h2, h3⟩ := hv
    exact ⟨h0, obj, hv0, by rw [(h.obj o hn).1]; exact h1, by rw [(h.obj o hn).2]; exact h2, h3⟩
  | .pp t ls, v, _, hv => RelV.norefs ⟨h.ok⟩ _ _ rfl hv
  | .fn f a b, v, hn, hv => by
    simp only [RelV] at hv ⊢
    simp only [Qx, Bool.and_eq_true] at hn
    obtain ⟨us, bs, h1, h2, h3⟩ := hv
    exact ⟨us, bs, h1, RelL.res h a us hn.1 h2, RelL.res h b bs hn.2 h3⟩
  | .junk, _, _, _ => by simp only [RelV]
theorem RelL.res {d : List Nat} {C C' : Ctx} (h : Res d C C') : ∀ (x : List AV) (v : List Value), Qo d x = true → RelL C x v → RelL C' x v
  | [], v, _, hv => by simpa only [RelL] using hv
  | x :: xs, v, hn, hv => by
    simp only [Qo, Bool.and_eq_true] at hn
    simp only [RelL] at hv ⊢
    obtain ⟨c, cs, rfl, h1, h2⟩ := hv
    exact ⟨c, cs, rfl, RelV.res h x c hn.1 h1, RelL.res h xs cs hn.2 h2⟩
end
theorem RelLL.res {d : List Nat} {C C' : Ctx} (h : Res d C C') {x : List (List AV)} {v : List (List Value)} (hf : ∀ r ∈ x, flatOk r = true) (hv : RelLL C x v) : RelLL C' x v :=
  RelLL.norefs ⟨h.ok⟩ x v (fun r hr => flatOk.noref (hf r hr)) hv
mutual
theorem Qkj (d : List Nat) : ∀ x : AV, noref x = true → Qx d x = true
  | .agg ls, h => by simp only [noref] at h; simp only [Qx]; exact ZH d ls h
  | .tup ls, h => by simp only [noref] at h; simp only [Qx]; exact ZH d ls h
  | .fn _ a b, h => by simp only [noref, Bool.and_eq_true] at h; simp only [Qx, ZH d a h.1, ZH d b h.2, Bool.and_self]
  | .own .., h => by simp [noref] at h
  | .ptr .., h => by simp [noref] at h
  | .elt .., h => by simp [noref] at h
  | .junk, h => by simp [noref] at h
  | .int .., _ => rfl
  | .bool .., _ => rfl
  | .str .., _ => rfl
  | .sl .., _ => rfl
  | .pp .., _ => rfl
theorem ZH (d : List Nat) : ∀ x : List AV, YT x = true → Qo d x = true
  | [], _ => rfl
  | x :: xs, h => by simp only [YT, Bool.and_eq_true] at h; simp only [Qo, Qkj d x h.1, ZH d xs h.2, Bool.and_self]
end
theorem Qhs (d : List Nat) {l : List AV} (h : flatOk l = true) : Qo d l = true := ZH d l (flatOk.noref h)
theorem RelLL.resR {d : List Nat} {C C' : Ctx} (h : Res d C C') : ∀ {x : List (List AV)} {v : List (List Value)}, (∀ r ∈ x, Qo d r = true) → RelLL C x v → RelLL C' x v
  | [], v, _, hv => by simpa only [RelLL] using hv
  | x :: xs, v, hn, hv => by
    simp only [RelLL] at hv ⊢
    obtain ⟨c, cs, rfl, h1, h2⟩ := hv
    exact ⟨c, cs, rfl, RelL.res h x c (hn x (by simp)) h1, RelLL.resR h (fun r hr => hn r (by simp [hr])) h2⟩
theorem Qht {d : List Nat} {e ver sz : Nat} {xs : List (List AV)} (hr : Qb d (.arr e ver sz xs) = true) (h4 : ∀ r ∈ xs, rowB e r = true) : ∀ r ∈ xs, Qo d r = true := by
  intro r hx
  simp only [Qb] at hr
  split at hr
  · rename_i he
    have := h4 r hx
    rw [rowB.flat he] at this
    exact Qhs d this
  · rw [List.all_eq_true] at hr; exact hr r hx
theorem objAt.res {d : List Nat} {C C' : Ctx} (h : Res d C C') {hv : Value} {obj : AObj} (hr : Qb d obj = true) (hb : ∀ b, blkOf hv = some b → C'.w.heap[b]? = C.w.heap[b]?) (ho : objAt C hv obj) : objAt C' hv obj := by
  cases obj with
  | box ls =>
    obtain ⟨b, cs, ty, rfl, h1, h2, h3⟩ := ho
    exact ⟨b, cs, ty, rfl, by rw [hb b rfl]; exact h1, RelL.res h ls cs hr h2, h3⟩
  | arr e ver sz xs =>
    obtain ⟨css, h1, h2, h3, h4⟩ := ho
    exact ⟨css, RelLL.resR h (Qht hr h4) h1, h2, Qak h3 hb, h4⟩
  | gone => exact ho
  | mp kk es =>
    obtain ⟨b, ents, clock, rfl, h1, h2, h3, h4, h5⟩ := ho
    refine ⟨b, ents, clock, rfl, by rw [hb b rfl]; exact h1, RelL.norefs ⟨h.ok⟩ _ _ (Qb2 h4) h2, ?_, h4, h5⟩
    simp only [Qb] at hr
    split at hr
    · rename_i hk; exact RelL.norefs ⟨h.ok⟩ _ _ (Qen hk h4) h3
    · exact RelL.res h _ _ hr h3

theorem objLe.refl (obj : AObj) (hv : Value) : objLe obj hv obj hv := by cases obj <;> simp [objLe]
theorem objLe.trans {a b c : AObj} {x y z : Value} (h : objLe a x b y) (k : objLe b y c z) : objLe a x c z := by
  cases a <;> cases b <;> cases c <;> simp only [objLe] at * <;> first | trivial | exact h.trans k | skip
  rcases h with h | ⟨h1, h2, h3, h4⟩ <;> rcases k with k | ⟨k1, k2, k3, k4⟩
  · exact .inl (by omega)
  · exact .inl (by omega)
  · exact .inl (by omega)
  · exact .inr ⟨h1.trans k1, by omega, h3.trans k3, h4.trans k4⟩
theorem Ext.trans {a b c : Ctx} (h : Ext a b) (k : Ext b c) : Ext a c := by
  refine ⟨fun t x hx => ?_, fun o obj hv h1 h2 => ?_⟩
  · obtain ⟨h1, h2⟩ := h.ok t x hx
    obtain ⟨k1, k2⟩ := k.ok t x h1
    exact ⟨k1, k2.trans h2⟩
  · obtain ⟨obj', hv', h3, h4, h5⟩ := h.refs o obj hv h1 h2
    obtain ⟨obj'', hv'', k3, k4, k5⟩ := k.refs o obj' hv' h3 h4
    exact ⟨obj'', hv'', k3, k4, h5.trans k5⟩

/-! ## contracts -/
/-- What a call does: the arguments, the objects that it is handed, what it gives back, the objects behind it. -/
def Contract (P : Program) (f : FuncId) (args : List AV) (pre : List (Nat × AObj)) (r : AV) (post : List (Nat × AObj)) : Prop :=
  ∀ (io : Nat → Nat → Prop) (w : World) (loc : Nat → Option Value) (vs : List Value), ((∀ b, w.heap.size ≤ b → io 0 b) ∧ ∀ b, ¬ io 98 b) → WfM ⟨io, w, loc, getM pre⟩ → RelL ⟨io, w, loc, getM pre⟩ args vs →
    Calls P f vs.toArray w fun e w' => ∃ v loc', e = .returned v ∧ WfM ⟨io, w', loc', getM post⟩ ∧ Ext ⟨io, w, loc, getM pre⟩ ⟨io, w', loc', getM post⟩ ∧ RelV ⟨io, w', loc', getM post⟩ r v ∧
      Ev w w' (Ctx.ownB ⟨io, w, loc, getM pre⟩) ∧ ∀ o hv b, loc' o = some hv → blkOf hv = some b → w.heap.size ≤ b ∨ ∃ hv0, loc o = some hv0 ∧ blkOf hv0 = some b

def dom (l : List (Nat × AObj)) : List Nat := l.map (·.1)

theorem G7 {l : List (Nat × AObj)} {o : Nat} {x : AObj} (h : getM l o = some x) : (dom l).contains o = true := by
  induction l with
  | nil => simp [getM] at h
  | cons p l ih =>
    obtain ⟨k, v⟩ := p
    simp only [getM] at h
    split at h
    · rename_i e; simp [dom, e]
    · have := ih h; simp [dom] at this ⊢; right; exact this
theorem Zk {l : List (Nat × AObj)} {o : Nat} (h : (dom l).contains o = true) : ∃ x, getM l o = some x := by
  induction l with
  | nil => simp [dom] at h
  | cons p l ih =>
    obtain ⟨k, v⟩ := p
    simp only [getM]
    by_cases e : o = k
    · exact ⟨v, by simp [e]⟩
    · simp only [if_neg e]
      exact ih (by simp [dom, e] at h ⊢; exact h)

/-! ## calls -/
mutual
def No99 : AV → Prop
  | .agg ls => Xl ls
  | .tup ls => Xl ls
  | .fn _ a b => Xl a ∧ Xl b
  | .sl t _ xs => t ≠ 99 ∧ GW xs
  | .pp t ls => t ≠ 99 ∧ Xl ls
  | _ => True
def Xl : List AV → Prop
  | [] => True
  | x :: xs => No99 x ∧ Xl xs
def GW : List (List AV) → Prop
  | [] => True
  | x :: xs => Xl x ∧ GW xs
end

structure Ok99 (C C' : Ctx) : Prop where
  ok : ∀ t b, t ≠ 99 → C.ok t b → C'.ok t b ∧ C'.w.heap[b]? = C.w.heap[b]?
mutual
theorem RelV.no99 {C C' : Ctx} (h : Ok99 C C') : ∀ (x : AV) (v : Value), noref x = true → No99 x → RelV C x v → RelV C' x v
  | .int .., v, _, _, hv => by simpa only [RelV] using hv
  | .bool .., v, _, _, hv => by simpa only [RelV] using hv
  | .str .., v, _, _, hv => by simpa only [RelV] using hv
  | .agg ls, v, hn, h9, hv => by
    simp only [RelV] at hv ⊢; simp only [noref] at hn; simp only [No99] at h9; obtain ⟨cs, rfl, h1⟩ := hv; exact ⟨cs, rfl, RelL.no99 h ls cs hn h9 h1⟩
  | .tup ls, v, hn, h9, hv => by
    simp only [RelV] at hv ⊢; simp only [noref] at hn; simp only [No99] at h9; obtain ⟨cs, rfl, h1⟩ := hv; exact ⟨cs, rfl, RelL.no99 h ls cs hn h9 h1⟩
  | .sl t sz xs, v, _, h9, hv => by
    simp only [No99] at h9
    simp only [RelV] at hv ⊢
    obtain ⟨hn, hv⟩ := hv
    refine ⟨hn, ?_⟩
    rcases hv with hv | ⟨b, off, cap, css, h1, h2, h3, h4, h5⟩
    · exact .inl hv
    · exact .inr ⟨b, off, cap, css, h1, h2, (h.ok t b h9.1 h3).1, RelLL.no99 h xs css (fun r hr => flatOk.noref (hn r hr)) h9.2 h4, h5.same (h.ok t b h9.1 h3).2⟩
  | .own .., v, hn, _, hv => by simp [noref] at hn
  | .ptr .., v, hn, _, hv => by simp [noref] at hn
  | .elt .., v, hn, _, hv => by simp [noref] at hn
  | .pp t ls, v, _, h9, hv => by
    simp only [No99] at h9
    simp only [RelV] at hv ⊢
    obtain ⟨hn, b, off, cs, h1, h2, h3, h4⟩ := hv
    exact ⟨hn, b, off, cs, h1, (h.ok t b h9.1 h2).1, RelL.no99 h ls cs (flatOk.noref hn) h9.2 h3, h4.same (h.ok t b h9.1 h2).2⟩
  | .fn f a b, v, hn, h9, hv => by
    simp only [No99] at h9
    simp only [RelV] at hv ⊢
    simp only [noref, Bool.and_eq_true] at hn
    obtain ⟨us, bs, h1, h2, h3⟩ := hv
    exact ⟨us, bs, h1, RelL.no99 h a us hn.1 h9.1 h2, RelL.no99 h b bs hn.2 h9.2 h3⟩
  | .junk, _, hn, _, _ => by simp only [RelV]
theorem RelL.no99 {C C' : Ctx} (h : Ok99 C C') : ∀ (x : List AV) (v : List Value), YT x = true → Xl x → RelL C x v → RelL C' x v
  | [], v, _, _, hv => by simpa only [RelL] using hv
  | x :: xs, v, hn, h9, hv => by
    simp only [YT, Bool.and_eq_true] at hn
    simp only [Xl] at h9
    simp only [RelL] at hv ⊢
    obtain ⟨c, cs, rfl, h1, h2⟩ := hv
    exact ⟨c, cs, rfl, RelV.no99 h x c hn.1 h9.1 h1, RelL.no99 h xs cs hn.2 h9.2 h2⟩
theorem RelLL.no99 {C C' : Ctx} (h : Ok99 C C') : ∀ (x : List (List AV)) (v : List (List Value)), (∀ r ∈ x, YT r = true) → GW x → RelLL C x v → RelLL C' x v
  | [], v, _, _, hv => by simpa only [RelLL] using hv
  | x :: xs, v, hn, h9, hv => by
    simp only [GW] at h9
    simp only [RelLL] at hv ⊢
    obtain ⟨c, cs, rfl, h1, h2⟩ := hv
    exact ⟨c, cs, rfl, RelL.no99 h x c (hn x (by simp)) h9.1 h1, RelLL.no99 h xs cs (fun r hr => hn r (by simp [hr])) h9.2 h2⟩
end

mutual
/-- A value for a call that only looks: the call's own rows are told as what they hold. -/
def pur (M : Nat → Option AObj) : AV → Option AV
  | .agg ls => (Y7 M ls).map .agg
  | .own o ver lo hi => match M o with
    | some (.arr e cv sz xs) => if ver = cv then (if e < 1000000 then some (.sl 99 sz ((xs.take hi).drop lo)) else none) else none
    | _ => none
  | .ptr .. => none
  | .elt .. => none
  | .junk => none
  | .tup _ => none
  | .fn f a b => if YT a && YT b then some (.fn f a b) else none
  | x => some x
def Y7 (M : Nat → Option AObj) : List AV → Option (List AV)
  | [] => some []
  | x :: xs => match pur M x, Y7 M xs with
    | some y, some ys => some (y :: ys)
    | _, _ => none
end

/-- A row whose own slices are told as what they hold ('K' tells them). -/
def QmX (K : Nat → Option AObj) : List AV → Option (List AV)
  | [] => some []
  | .own o ver lo hi :: xs => match K o, QmX K xs with
    | some (.arr e cv sz ys), some r => if ver = cv then (if e < 1000000 then some (.sl 99 sz ((ys.take hi).drop lo) :: r) else none) else none
    | _, _ => none
  | x :: xs => match QmX K xs with
    | some r => if Y8 x && noref x then some (x :: r) else none
    | none => none
def QdN (K : Nat → Option AObj) : List (List AV) → Option (List (List AV))
  | [] => some []
  | r :: rs => match QmX K r, QdN K rs with
    | some x, some xs => some (x :: xs)
    | _, _ => none
mutual
/-- As 'pur', of slices whose rows hold own slices too: those stand in 'K'. -/
def Qbm (M K : Nat → Option AObj) : AV → Option AV
  | .agg ls => (Qad M K ls).map .agg
  | .own o ver lo hi => match M o with
    | some (.arr _ cv sz xs) => if ver = cv then (QdN K ((xs.take hi).drop lo)).map (.sl 99 sz) else none
    | _ => none
  | .ptr .. => none
  | .elt .. => none
  | .junk => none
  | .tup _ => none
  | .fn f a b => if YT a && YT b then some (.fn f a b) else none
  | x => some x
def Qad (M K : Nat → Option AObj) : List AV → Option (List AV)
  | [] => some []
  | x :: xs => match Qbm M K x, Qad M K xs with
    | some y, some ys => some (y :: ys)
    | _, _ => none
end

def Qbb : AObj → Prop
  | .box ls => Xl ls
  | .arr _ _ _ xs => GW xs
  | .gone => True
  | .mp _ es => Xl (es.map (·.1)) ∧ Xl (es.map (·.2))
def Qb7 (P : Program) (f : FuncId) (args : List AV) (M : Nat → Option AObj) (v : AV) (ups : List (Nat × AObj)) : Prop :=
  (∃ pre, Contract P f args pre v ups ∧ (∀ p ∈ pre, M p.1 = some p.2) ∧ (∀ p ∈ ups, (dom pre).contains p.1 = true ∨ M p.1 = none) ∧ (dom pre).all (dom ups).contains = true ∧
    Qo (dom pre) args = true ∧ (pre.all fun p => Qb (dom pre) p.2) = true ∧ Qx (dom ups) v = true ∧ (ups.all fun p => Qb (dom ups) p.2) = true) ∨
  (ups = [] ∧ ∃ args', Y7 M args = some args' ∧ Contract P f args' [] v [] ∧ noref v = true ∧ No99 v) ∨
  (∃ args', Y7 M args = some args' ∧ Contract P f args' [] v ups ∧ (∀ p ∈ ups, M p.1 = none) ∧ Qx (dom ups) v = true ∧ (ups.all fun p => Qb (dom ups) p.2) = true ∧ No99 v ∧ ∀ p ∈ ups, Qbb p.2) ∨
  (∃ args' keep news, ups = news ++ keep ∧ (∀ p ∈ keep, M p.1 = some p.2) ∧ Qad M (getM keep) args = some args' ∧ Contract P f args' [] v news ∧ (∀ p ∈ news, M p.1 = none) ∧ Qx (dom news) v = true ∧
    (news.all fun p => Qb (dom news) p.2) = true ∧ No99 v ∧ ∀ p ∈ news, Qbb p.2)
end Go.Ve

namespace Go.Ve
set_option linter.unusedSimpArgs false
set_option linter.unusedVariables false
open Go.RowKit

theorem WL (M ups : List (Nat × AObj)) (o : Nat) : getM (YU M ups) o = (getM ups o).or (getM M o) := by
  unfold YU
  induction ups with
  | nil => simp [getM]
  | cons p ups ih =>
    obtain ⟨k, x⟩ := p
    simp only [List.foldr_cons, Qb3, getM]
    split
    · simp
    · exact ih

section
variable {P : Program} {A : A0} {io : Nat → Nat → Prop} {w : World} {loc : Nat → Option Value} {M : List (Nat × AObj)}

theorem Xa {l : List (Nat × AObj)} {o : Nat} {x : AObj} (h : getM l o = some x) : (o, x) ∈ l := by
  induction l with
  | nil => simp [getM] at h
  | cons p l ih =>
    obtain ⟨k, y⟩ := p
    simp only [getM] at h
    split at h
    · rename_i e; cases h; simp [e]
    · simp [ih h]

/-- A call that is handed objects. -/
theorem QiL (hI : Inv A ⟨io, w, loc, getM M⟩) {f : FuncId} {args : List AV} {vs : List Value} (hargs : RelL ⟨io, w, loc, getM M⟩ args vs) {v : AV} {pre ups : List (Nat × AObj)}
    (hC : Contract P f args pre v ups) (hpre : ∀ p ∈ pre, getM M p.1 = some p.2) (hnew : ∀ p ∈ ups, (dom pre).contains p.1 = true ∨ getM M p.1 = none) (hsub : (dom pre).all (dom ups).contains = true)
    (hra : Qo (dom pre) args = true) (hrp : (pre.all fun p => Qb (dom pre) p.2) = true) (hrv : Qx (dom ups) v = true) (hru : (ups.all fun p => Qb (dom ups) p.2) = true) :
    Calls P f vs.toArray w fun e w' => ∃ rv loc', e = .returned rv ∧ Inv A ⟨io, w', loc', getM (YU M ups)⟩ ∧ Ext ⟨io, w, loc, getM M⟩ ⟨io, w', loc', getM (YU M ups)⟩ ∧ RelV ⟨io, w', loc', getM (YU M ups)⟩ v rv := by
  let C : Ctx := ⟨io, w, loc, getM M⟩
  let io' : Nat → Nat → Prop := fun t b => io t b ∧ ¬ C.ownB b
  let loc1 : Nat → Option Value := fun o => if (dom pre).contains o then loc o else none
  let C1 : Ctx := ⟨io', w, loc1, getM pre⟩
  have hpreM : ∀ o obj, getM pre o = some obj → getM M o = some obj := fun o obj h => hpre (o, obj) (Xa h)
  have hown1 : ∀ b, C1.ownB b → C.ownB b := by
    rintro b ⟨o, hv, h1, h2⟩
    have h1 : loc1 o = some hv := h1
    simp only [loc1] at h1
    split at h1
    · exact ⟨o, hv, h1, h2⟩
    · cases h1
  have hres : Res (dom pre) C C1 := by
    refine ⟨fun t b hb => ⟨⟨⟨hb.1, hb.2.2⟩, hb.2.1, fun h => hb.2.2 (hown1 b h)⟩, rfl⟩, fun o ho => ?_⟩
    obtain ⟨x, hx⟩ := Zk ho
    exact ⟨by show getM pre o = getM M o; rw [hx, hpreM o x hx], by show loc1 o = loc o; simp only [loc1, ho, if_true]⟩
  have hwf1 : WfM C1 := by
    refine ⟨fun o obj h => ?_, fun o hv h => ?_, fun o o' hv hv' b h1 h2 h3 h4 => ?_, globOk.okx ⟨hres.ok⟩ hI.wf.glob⟩
    · have h : getM pre o = some obj := h
      obtain ⟨hv, h1, h2⟩ := hI.wf.obj o obj (hpreM o obj h)
      have hd := G7 h
      refine ⟨hv, by show loc1 o = some hv; simp only [loc1, hd, if_true]; exact h1, ?_⟩
      refine objAt.res hres ?_ (fun b _ => rfl) h2
      rw [List.all_eq_true] at hrp
      exact hrp (o, obj) (Xa h)
    · have h : loc1 o = some hv := h
      simp only [loc1] at h
      split at h
      · rename_i hd; obtain ⟨x, hx⟩ := Zk hd; exact ⟨x, hx⟩
      · cases h
    · have h1 : loc1 o = some hv := h1
      have h2 : loc1 o' = some hv' := h2
      simp only [loc1] at h1 h2
      split at h1
      · split at h2
        · exact hI.wf.inj o o' hv hv' b h1 h2 h3 h4
        · cases h2
      · cases h1
  refine (hC io' w loc1 vs ⟨fun b hb => ⟨?_, fun h => ?_⟩, fun b h => hI.fresh.2 b (hI.io ▸ h.1)⟩ hwf1 (RelL.res hres args vs hra hargs)).mono ?_
  · have := hI.fresh.1 b (Nat.le_trans hI.ev.size hb); rw [← hI.io] at this; exact this
  · have := hI.wf.lt h; exact absurd hb (Nat.not_le.2 this)
  rintro e w' ⟨rv, loc2, rfl, hwf2, hext2, hrel2, hev2, hnb2⟩
  let C2 : Ctx := ⟨io', w', loc2, getM ups⟩
  let loc3 : Nat → Option Value := fun o => if (dom ups).contains o then loc2 o else loc o
  let C3 : Ctx := ⟨io, w', loc3, getM (YU M ups)⟩
  -- who is who in the end
  have hM3 : ∀ o, getM (YU M ups) o = (getM ups o).or (getM M o) := WL M ups
  have hin : ∀ o, (dom ups).contains o = true → getM (YU M ups) o = getM ups o ∧ loc3 o = loc2 o := fun o ho => by
    obtain ⟨x, hx⟩ := Zk ho
    exact ⟨by rw [hM3, hx]; rfl, by simp only [loc3, ho, if_true]⟩
  have hout : ∀ o, (dom ups).contains o = false → getM (YU M ups) o = getM M o ∧ loc3 o = loc o := fun o ho => by
    have : getM ups o = none := by
      cases h : getM ups o with
      | none => rfl
      | some x => rw [G7 h] at ho; cases ho
    refine ⟨by rw [hM3, this]; rfl, by simp only [loc3, ho]; rfl⟩
  have hpu : ∀ o, (dom pre).contains o = true → (dom ups).contains o = true := fun o ho => by
    rw [List.all_eq_true] at hsub
    exact hsub o (by simpa using ho)
  have hlocdom2 : ∀ o hv, loc2 o = some hv → (dom ups).contains o = true := fun o hv h => by
    obtain ⟨x, hx⟩ := hwf2.dom o hv h
    exact G7 hx
  -- Y9: of the callee's objects, of ours
  have hnew2 : ∀ b, C2.ownB b → w.heap.size ≤ b ∨ C1.ownB b := by
    rintro b ⟨o, hv, h1, h2⟩
    rcases hnb2 o hv b h1 h2 with h | ⟨hv0, h3, h4⟩
    · exact .inl h
    · exact .inr ⟨o, hv0, h3, h4⟩
  have hold : ∀ o hv b, (dom ups).contains o = false → loc o = some hv → blkOf hv = some b → b < w.heap.size ∧ ¬ C1.ownB b ∧ ¬ C2.ownB b := by
    intro o hv b ho hl hb
    have hlt : b < w.heap.size := hI.wf.lt ⟨o, hv, hl, hb⟩
    have hn1 : ¬ C1.ownB b := by
      rintro ⟨o', hv', h1, h2⟩
      have h1 : loc1 o' = some hv' := h1
      simp only [loc1] at h1
      split at h1
      · rename_i hd
        have := hI.wf.inj o o' hv hv' b hl h1 hb h2
        subst this
        rw [hpu o hd] at ho; cases ho
      · cases h1
    exact ⟨hlt, hn1, fun h => by rcases hnew2 b h with h3 | h3; · omega
                                 · exact hn1 h3⟩
  have hown3 : ∀ b, C3.ownB b → C2.ownB b ∨ ∃ o hv, (dom ups).contains o = false ∧ loc o = some hv ∧ blkOf hv = some b := by
    rintro b ⟨o, hv, h1, h2⟩
    have h1 : loc3 o = some hv := h1
    cases hd : (dom ups).contains o with
    | true => rw [(hin o hd).2] at h1; exact .inl ⟨o, hv, h1, h2⟩
    | false => rw [(hout o hd).2] at h1; exact .inr ⟨o, hv, hd, h1, h2⟩
  -- from the callee's end to ours
  have hres3 : Res (dom ups) C2 C3 := by
    refine ⟨fun t b hb => ⟨⟨hb.1.1, hb.2.1, fun h => ?_⟩, rfl⟩, fun o ho => ⟨(hin o ho).1, (hin o ho).2⟩⟩
    rcases hown3 b h with h | ⟨o, hv, _, h1, h2⟩
    · exact hb.2.2 h
    · exact hb.1.2 ⟨o, hv, h1, h2⟩
  have hok3 : ∀ t b, C.ok t b → C3.ok t b ∧ w'.heap[b]? = w.heap[b]? := by
    intro t b hb
    obtain ⟨h1, h2⟩ := hext2.ok t b (hres.ok t b hb).1
    exact ⟨(hres3.ok t b h1).1, h2⟩
  have hext3 : Ext C C3 := by
    refine ⟨hok3, fun o obj hv h1 h2 => ?_⟩
    have h1 : getM M o = some obj := h1
    have h2 : loc o = some hv := h2
    cases hd : (dom ups).contains o with
    | false => exact ⟨obj, hv, by show getM (YU M ups) o = _; rw [(hout o hd).1]; exact h1, by show loc3 o = _; rw [(hout o hd).2]; exact h2, objLe.refl obj hv⟩
    | true =>
      obtain ⟨x, hx⟩ := Zk hd
      have hp : (dom pre).contains o = true := by
        rcases hnew (o, x) (Xa hx) with h | h
        · exact h
        · rw [h1] at h; cases h
      obtain ⟨y, hy⟩ := Zk hp
      have := hpreM o y hy
      rw [h1] at this; cases this
      obtain ⟨obj', hv', h3, h4, h5⟩ := hext2.refs o obj hv hy (by show loc1 o = _; simp only [loc1, hp, if_true]; exact h2)
      exact ⟨obj', hv', by show getM (YU M ups) o = _; rw [(hin o hd).1]; exact h3, by show loc3 o = _; rw [(hin o hd).2]; exact h4, h5⟩
  have hblk : ∀ b, b < w.heap.size → ¬ C1.ownB b → w'.heap[b]? = w.heap[b]? := hev2.block
  refine ⟨rv, loc3, rfl, ⟨hI.io, hI.np, hI.fresh, ⟨fun o obj h => ?_, fun o hv h => ?_, fun o o' hv hv' b h1 h2 h3 h4 => ?_, globOk.okx ⟨hext3.ok⟩ hI.wf.glob⟩, hI.oldnp, ?_, fun o hv b h1 h2 => ?_⟩, hext3, RelV.res hres3 v rv hrv hrel2⟩
  · have h : getM (YU M ups) o = some obj := h
    cases hd : (dom ups).contains o with
    | true =>
      rw [(hin o hd).1] at h
      obtain ⟨hv, h1, h2⟩ := hwf2.obj o obj h
      refine ⟨hv, by show loc3 o = _; rw [(hin o hd).2]; exact h1, objAt.res hres3 ?_ (fun b _ => rfl) h2⟩
      rw [List.all_eq_true] at hru
      exact hru (o, obj) (Xa h)
    | false =>
      rw [(hout o hd).1] at h
      obtain ⟨hv, h1, h2⟩ := hI.wf.obj o obj h
      refine ⟨hv, by show loc3 o = _; rw [(hout o hd).2]; exact h1, h2.mono hext3 fun b hb => ?_⟩
      have := hold o hv b hd h1 hb
      exact hblk b this.1 this.2.1
  · have h : loc3 o = some hv := h
    cases hd : (dom ups).contains o with
    | true => obtain ⟨x, hx⟩ := Zk hd; exact ⟨x, by show getM (YU M ups) o = _; rw [(hin o hd).1]; exact hx⟩
    | false =>
      rw [(hout o hd).2] at h
      obtain ⟨x, hx⟩ := hI.wf.dom o hv h
      exact ⟨x, by show getM (YU M ups) o = _; rw [(hout o hd).1]; exact hx⟩
  · have h1 : loc3 o = some hv := h1
    have h2 : loc3 o' = some hv' := h2
    cases hd : (dom ups).contains o <;> cases hd' : (dom ups).contains o'
    · rw [(hout o hd).2] at h1; rw [(hout o' hd').2] at h2
      exact hI.wf.inj o o' hv hv' b h1 h2 h3 h4
    · rw [(hout o hd).2] at h1; rw [(hin o' hd').2] at h2
      exact ((hold o hv b hd h1 h3).2.2 ⟨o', hv', h2, h4⟩).elim
    · rw [(hin o hd).2] at h1; rw [(hout o' hd').2] at h2
      exact ((hold o' hv' b hd' h2 h4).2.2 ⟨o, hv, h1, h3⟩).elim
    · rw [(hin o hd).2] at h1; rw [(hin o' hd').2] at h2
      exact hwf2.inj o o' hv hv' b h1 h2 h3 h4
  · refine ⟨hev2.os.trans hI.ev.os, hev2.tape.trans hI.ev.tape, hev2.output.trans hI.ev.output, Nat.le_trans hI.ev.size hev2.size, fun b hb ho => ?_⟩
    refine (hblk b (Nat.lt_of_lt_of_le hb hI.ev.size) ?_).trans (hI.ev.block b hb ho)
    intro h
    obtain ⟨o, hv, h1, h2⟩ := hown1 b h
    rcases hI.new o hv b h1 h2 with h3 | h3
    · omega
    · exact ho ⟨o, h3⟩
  · have h1 : loc3 o = some hv := h1
    cases hd : (dom ups).contains o with
    | false => rw [(hout o hd).2] at h1; exact hI.new o hv b h1 h2
    | true =>
      rw [(hin o hd).2] at h1
      rcases hnb2 o hv b h1 h2 with h3 | ⟨hv0, h3, h4⟩
      · exact .inl (Nat.le_trans hI.ev.size h3)
      · have h3 : loc1 o = some hv0 := h3
        simp only [loc1] at h3
        split at h3
        · exact hI.new o hv0 b h3 h4
        · cases h3

/-- An own slice, told as what it holds. -/
theorem Qla {C' : Ctx} (hI : WfM ⟨io, w, loc, getM M⟩) (h99 : ∀ b, b < w.heap.size → (Ctx.ownB ⟨io, w, loc, getM M⟩ b) → C'.ok 99 b) (hw : C'.w = w) {o ver lo hi : Nat} {v : Value} {e cv sz : Nat} {xs rows : List (List AV)}
    (hv : RelV ⟨io, w, loc, getM M⟩ (.own o ver lo hi) v) (hM : getM M o = some (.arr e cv sz xs)) (hver : ver = cv) (hlen : rows.length = ((xs.take hi).drop lo).length) (hfl : ∀ r ∈ rows, flatOk r = true)
    (hrel : ∀ css, RelLL ⟨io, w, loc, getM M⟩ ((xs.take hi).drop lo) css → RelLL C' rows css) : RelV C' (.sl 99 sz rows) v := by
  have hp : (KF (getM M) sz (.own o ver lo hi)).1 := by simp only [KF, hM]; exact ⟨trivial, hver⟩
  obtain ⟨css, h1, h2, h3, h4⟩ := Qeu hI hv hp
  simp only [KF, hM] at h1 h3
  simp only [RelV]
  refine ⟨hfl, ?_⟩
  have hcl := h1.length
  have h1' := hrel css h1
  rcases h4 with ⟨hno, _⟩ | ⟨rfl, rfl⟩ | ⟨b, off, cap, rfl, h5, h6, _⟩
  · exact absurd rfl (hno _ _ _ _)
  · exact .inl ⟨List.eq_nil_of_length_eq_zero (by rw [hlen]; simpa using hcl.symm), nil0.mk _⟩
  · -- whose block is it
    simp only [RelV] at hv
    obtain ⟨_, obj, hv0, h7, h8, h9⟩ := hv
    have h7 : getM M o = some obj := h7
    rw [hM] at h7; cases h7
    obtain ⟨_, _, base, n, cap0, rfl, _, hq⟩ := h9.2 hver
    have hb : blkOf (.slice base n cap0) = some b := by
      simp only [Value.slice.injEq] at hq
      obtain ⟨hq, _⟩ := hq
      split at hq
      · rw [← hq]; rfl
      · cases base with
        | none => simp at hq
        | some a =>
          simp only [Option.map_some, Option.some.injEq] at hq
          have hq2 := congrArg Addr.block hq
          have hab : (a.add (lo * sz)).block = a.block := by unfold Addr.add; split <;> rfl
          rw [hab] at hq2
          simp only [blkOf]; rw [← hq2]
    have hob : Ctx.ownB ⟨io, w, loc, getM M⟩ b := ⟨o, _, h8, hb⟩
    have hlt : b < w.heap.size := hI.lt hob
    refine .inr ⟨b, off, cap, css, by rw [hcl, hlen], by rw [hlen, ← hcl]; exact h5, h99 b hlt hob, h1', fun i r hi' => ⟨h2 r (List.mem_of_getElem? hi'), fun j c hj => ?_⟩⟩
    have hjs : j < sz := by have := (List.getElem?_eq_some_iff.1 hj).1; have := h2 r (List.mem_of_getElem? hi'); omega
    rw [hw, Nat.add_assoc]
    refine h6 _ _ ?_
    rw [WK h2 i j hjs, hi']; exact hj
theorem Qd1 {C' : Ctx} {K : Nat → Option AObj} (hI : WfM ⟨io, w, loc, getM M⟩) (h99 : ∀ b, b < w.heap.size → (Ctx.ownB ⟨io, w, loc, getM M⟩ b) → C'.ok 99 b) (hw : C'.w = w) (hok : ∀ t b, Ctx.ok ⟨io, w, loc, getM M⟩ t b → C'.ok t b) (hK : ∀ o x, K o = some x → getM M o = some x) :
    ∀ (x y : List AV) (v : List Value), QmX K x = some y → RelL ⟨io, w, loc, getM M⟩ x v → RelL C' y v ∧ flatOk y = true
  | [], y, v, h, hv => by simp only [QmX, Option.some.injEq] at h; subst h; exact ⟨by simpa only [RelL] using hv, rfl⟩
  | x :: xs, y, v, h, hv => by
    simp only [RelL] at hv
    obtain ⟨c, cs, rfl, h3, h4⟩ := hv
    unfold QmX at h
    split at h
    · rename_i heq; cases heq
    · rename_i o ver lo hi xs' heq
      cases heq
      split at h
      · rename_i e cv sz ys r hk hr
        split at h
        · split at h
          · rename_i hver he
            cases h
            obtain ⟨h5, h6⟩ := Qd1 hI h99 hw hok hK xs r cs hr h4
            have hM := hK _ _ hk
            obtain ⟨hv0, k1, css, k2, k3, k4, k5⟩ := hI.obj o _ hM
            have hfl : ∀ r ∈ (ys.take hi).drop lo, flatOk r = true := fun r hr => by
              have := k5 r (List.mem_of_mem_take (List.mem_of_mem_drop hr)); rwa [rowB.flat he] at this
            have := Qla hI h99 hw h3 hM hver rfl hfl fun css hc => RelLL.norefs ⟨fun t b hb => ⟨hok t b hb, by rw [hw]⟩⟩ _ _ (fun r hr => flatOk.noref (hfl r hr)) hc
            exact ⟨RelL.cons this h5, by simp only [flatOk, Y8, noref, h6, Bool.and_self]⟩
          · cases h
        · cases h
      · cases h
    · rename_i x' xs' hno heq
      cases heq
      split at h
      · rename_i r hr
        split at h
        · rename_i hn
          cases h
          simp only [Bool.and_eq_true] at hn
          obtain ⟨h5, h6⟩ := Qd1 hI h99 hw hok hK xs r cs hr h4
          exact ⟨RelL.cons (RelV.norefs ⟨fun t b hb => ⟨hok t b hb, by rw [hw]⟩⟩ _ _ hn.2 h3) h5, by simp only [flatOk, hn.1, hn.2, h6, Bool.and_self]⟩
        · cases h
      · cases h
theorem Qhu {C' : Ctx} {K : Nat → Option AObj} (hI : WfM ⟨io, w, loc, getM M⟩) (h99 : ∀ b, b < w.heap.size → (Ctx.ownB ⟨io, w, loc, getM M⟩ b) → C'.ok 99 b) (hw : C'.w = w) (hok : ∀ t b, Ctx.ok ⟨io, w, loc, getM M⟩ t b → C'.ok t b) (hK : ∀ o x, K o = some x → getM M o = some x) :
    ∀ (x y : List (List AV)), QdN K x = some y → y.length = x.length ∧ ((∃ v, RelLL ⟨io, w, loc, getM M⟩ x v) → ∀ r ∈ y, flatOk r = true) ∧ ∀ v, RelLL ⟨io, w, loc, getM M⟩ x v → RelLL C' y v
  | [], y, h => by simp only [QdN, Option.some.injEq] at h; subst h; exact ⟨rfl, fun _ => by simp, fun v hv => by simpa only [RelLL] using hv⟩
  | x :: xs, y, h => by
    simp only [QdN] at h
    split at h
    · rename_i y' ys h1 h2
      cases h
      obtain ⟨k1, k2, k3⟩ := Qhu hI h99 hw hok hK xs ys h2
      refine ⟨by simp [k1], ?_, fun v hv => ?_⟩
      · rintro ⟨v, hv⟩ r hr
        simp only [RelLL] at hv
        obtain ⟨c, cs, rfl, h3, h4⟩ := hv
        rcases List.mem_cons.1 hr with rfl | hr
        · exact (Qd1 hI h99 hw hok hK x _ c h1 h3).2
        · exact k2 ⟨cs, h4⟩ r hr
      · simp only [RelLL] at hv
        obtain ⟨c, cs, rfl, h3, h4⟩ := hv
        exact RelLL.cons (Qd1 hI h99 hw hok hK x _ c h1 h3).1 (k3 cs h4)
    · cases h

mutual
theorem QoK {C' : Ctx} (hI : WfM ⟨io, w, loc, getM M⟩) (h99 : ∀ b, b < w.heap.size → (Ctx.ownB ⟨io, w, loc, getM M⟩ b) → C'.ok 99 b) (hw : C'.w = w) (hok : ∀ t b, Ctx.ok ⟨io, w, loc, getM M⟩ t b → C'.ok t b) :
    ∀ (x y : AV) (v : Value), pur (getM M) x = some y → RelV ⟨io, w, loc, getM M⟩ x v → RelV C' y v ∧ noref y = true
  | .int .., y, v, h, hv => by simp only [pur, Option.some.injEq] at h; subst h; exact ⟨RelV.norefs ⟨fun t b hb => ⟨hok t b hb, by rw [hw]⟩⟩ _ _ rfl hv, rfl⟩
  | .bool .., y, v, h, hv => by simp only [pur, Option.some.injEq] at h; subst h; exact ⟨RelV.norefs ⟨fun t b hb => ⟨hok t b hb, by rw [hw]⟩⟩ _ _ rfl hv, rfl⟩
  | .str .., y, v, h, hv => by simp only [pur, Option.some.injEq] at h; subst h; exact ⟨RelV.norefs ⟨fun t b hb => ⟨hok t b hb, by rw [hw]⟩⟩ _ _ rfl hv, rfl⟩
  | .sl .., y, v, h, hv => by simp only [pur, Option.some.injEq] at h; subst h; exact ⟨RelV.norefs ⟨fun t b hb => ⟨hok t b hb, by rw [hw]⟩⟩ _ _ rfl hv, rfl⟩
  | .pp .., y, v, h, hv => by simp only [pur, Option.some.injEq] at h; subst h; exact ⟨RelV.norefs ⟨fun t b hb => ⟨hok t b hb, by rw [hw]⟩⟩ _ _ rfl hv, rfl⟩
  | .ptr .., y, v, h, hv => by simp [pur] at h
  | .elt .., y, v, h, hv => by simp [pur] at h
  | .junk, y, v, h, hv => by simp [pur] at h
  | .tup .., y, v, h, hv => by simp [pur] at h
  | .fn f a b, y, v, h, hv => by
    simp only [pur] at h
    split at h
    · rename_i hn
      cases h
      have hn' : noref (.fn f a b) = true := by simpa only [noref] using hn
      exact ⟨RelV.norefs ⟨fun t b hb => ⟨hok t b hb, by rw [hw]⟩⟩ _ _ hn' hv, hn'⟩
    · cases h
  | .agg ls, y, v, h, hv => by
    simp only [pur, Option.map_eq_some_iff] at h
    obtain ⟨ys, h1, rfl⟩ := h
    simp only [RelV] at hv
    obtain ⟨cs, rfl, h2⟩ := hv
    obtain ⟨h3, h4⟩ := Qd2 hI h99 hw hok ls ys cs h1 h2
    exact ⟨by simp only [RelV]; exact ⟨cs, rfl, h3⟩, by simpa only [noref] using h4⟩
  | .own o ver lo hi, y, v, h, hv => by
    simp only [pur] at h
    split at h
    · rename_i e cv sz xs hM
      split at h
      · split at h
        · rename_i hver he
          cases h
          obtain ⟨hv0, k1, css, k2, k3, k4, k5⟩ := hI.obj o _ hM
          have hfl : ∀ r ∈ (xs.take hi).drop lo, flatOk r = true := fun r hr => by
            have := k5 r (List.mem_of_mem_take (List.mem_of_mem_drop hr)); rwa [rowB.flat he] at this
          exact ⟨Qla hI h99 hw hv hM hver rfl hfl fun css hc => RelLL.norefs ⟨fun t b hb => ⟨hok t b hb, by rw [hw]⟩⟩ _ _ (fun r hr => flatOk.noref (hfl r hr)) hc, rfl⟩
        · cases h
      · cases h
    · cases h
theorem Qd2 {C' : Ctx} (hI : WfM ⟨io, w, loc, getM M⟩) (h99 : ∀ b, b < w.heap.size → (Ctx.ownB ⟨io, w, loc, getM M⟩ b) → C'.ok 99 b) (hw : C'.w = w) (hok : ∀ t b, Ctx.ok ⟨io, w, loc, getM M⟩ t b → C'.ok t b) :
    ∀ (x y : List AV) (v : List Value), Y7 (getM M) x = some y → RelL ⟨io, w, loc, getM M⟩ x v → RelL C' y v ∧ YT y = true
  | [], y, v, h, hv => by simp only [Y7, Option.some.injEq] at h; subst h; exact ⟨by simpa only [RelL] using hv, rfl⟩
  | x :: xs, y, v, h, hv => by
    simp only [Y7] at h
    split at h
    · rename_i y' ys h1 h2
      cases h
      simp only [RelL] at hv
      obtain ⟨c, cs, rfl, h3, h4⟩ := hv
      obtain ⟨h5, h6⟩ := QoK hI h99 hw hok x y' c h1 h3
      obtain ⟨h7, h8⟩ := Qd2 hI h99 hw hok xs ys cs h2 h4
      exact ⟨RelL.cons h5 h7, by simp only [YT, h6, h8, Bool.and_true]⟩
    · cases h
end
mutual
theorem QmY {C' : Ctx} {K : Nat → Option AObj} (hI : WfM ⟨io, w, loc, getM M⟩) (h99 : ∀ b, b < w.heap.size → (Ctx.ownB ⟨io, w, loc, getM M⟩ b) → C'.ok 99 b) (hw : C'.w = w) (hok : ∀ t b, Ctx.ok ⟨io, w, loc, getM M⟩ t b → C'.ok t b) (hK : ∀ o x, K o = some x → getM M o = some x) :
    ∀ (x y : AV) (v : Value), Qbm (getM M) K x = some y → RelV ⟨io, w, loc, getM M⟩ x v → RelV C' y v ∧ noref y = true
  | .int .., y, v, h, hv => by simp only [Qbm, Option.some.injEq] at h; subst h; exact ⟨RelV.norefs ⟨fun t b hb => ⟨hok t b hb, by rw [hw]⟩⟩ _ _ rfl hv, rfl⟩
  | .bool .., y, v, h, hv => by simp only [Qbm, Option.some.injEq] at h; subst h; exact ⟨RelV.norefs ⟨fun t b hb => ⟨hok t b hb, by rw [hw]⟩⟩ _ _ rfl hv, rfl⟩
  | .str .., y, v, h, hv => by simp only [Qbm, Option.some.injEq] at h; subst h; exact ⟨RelV.norefs ⟨fun t b hb => ⟨hok t b hb, by rw [hw]⟩⟩ _ _ rfl hv, rfl⟩
  | .sl .., y, v, h, hv => by simp only [Qbm, Option.some.injEq] at h; subst h; exact ⟨RelV.norefs ⟨fun t b hb => ⟨hok t b hb, by rw [hw]⟩⟩ _ _ rfl hv, rfl⟩
  | .pp .., y, v, h, hv => by simp only [Qbm, Option.some.injEq] at h; subst h; exact ⟨RelV.norefs ⟨fun t b hb => ⟨hok t b hb, by rw [hw]⟩⟩ _ _ rfl hv, rfl⟩
  | .ptr .., y, v, h, hv => by simp [Qbm] at h
  | .elt .., y, v, h, hv => by simp [Qbm] at h
  | .junk, y, v, h, hv => by simp [Qbm] at h
  | .tup .., y, v, h, hv => by simp [Qbm] at h
  | .fn f a b, y, v, h, hv => by
    simp only [Qbm] at h
    split at h
    · rename_i hn
      cases h
      have hn' : noref (.fn f a b) = true := by simpa only [noref] using hn
      exact ⟨RelV.norefs ⟨fun t b hb => ⟨hok t b hb, by rw [hw]⟩⟩ _ _ hn' hv, hn'⟩
    · cases h
  | .agg ls, y, v, h, hv => by
    simp only [Qbm, Option.map_eq_some_iff] at h
    obtain ⟨ys, h1, rfl⟩ := h
    simp only [RelV] at hv
    obtain ⟨cs, rfl, h2⟩ := hv
    obtain ⟨h3, h4⟩ := Qex hI h99 hw hok hK ls ys cs h1 h2
    exact ⟨by simp only [RelV]; exact ⟨cs, rfl, h3⟩, by simpa only [noref] using h4⟩
  | .own o ver lo hi, y, v, h, hv => by
    simp only [Qbm] at h
    split at h
    · rename_i e cv sz xs hM
      split at h
      · rename_i hver
        simp only [Option.map_eq_some_iff] at h
        obtain ⟨rows, h1, rfl⟩ := h
        obtain ⟨k1, k2, k3⟩ := Qhu hI h99 hw hok hK _ rows h1
        obtain ⟨hv0, q1, css, q2, q3, q4, q5⟩ := hI.obj o _ hM
        exact ⟨Qla hI h99 hw hv hM hver k1 (k2 ⟨_, (q2.take hi).drop lo⟩) k3, rfl⟩
      · cases h
    · cases h
theorem Qex {C' : Ctx} {K : Nat → Option AObj} (hI : WfM ⟨io, w, loc, getM M⟩) (h99 : ∀ b, b < w.heap.size → (Ctx.ownB ⟨io, w, loc, getM M⟩ b) → C'.ok 99 b) (hw : C'.w = w) (hok : ∀ t b, Ctx.ok ⟨io, w, loc, getM M⟩ t b → C'.ok t b) (hK : ∀ o x, K o = some x → getM M o = some x) :
    ∀ (x y : List AV) (v : List Value), Qad (getM M) K x = some y → RelL ⟨io, w, loc, getM M⟩ x v → RelL C' y v ∧ YT y = true
  | [], y, v, h, hv => by simp only [Qad, Option.some.injEq] at h; subst h; exact ⟨by simpa only [RelL] using hv, rfl⟩
  | x :: xs, y, v, h, hv => by
    simp only [Qad] at h
    split at h
    · rename_i y' ys h1 h2
      cases h
      simp only [RelL] at hv
      obtain ⟨c, cs, rfl, h3, h4⟩ := hv
      obtain ⟨h5, h6⟩ := QmY hI h99 hw hok hK x y' c h1 h3
      obtain ⟨h7, h8⟩ := Qex hI h99 hw hok hK xs ys cs h2 h4
      exact ⟨RelL.cons h5 h7, by simp only [YT, h6, h8, Bool.and_true]⟩
    · cases h
end

end
/-! ## a callee that only looks at what it is handed, and gives back objects of its own -/
structure Res9 (d : List Nat) (C C' : Ctx) : Prop where
  ok : ∀ t b, t ≠ 99 → C.ok t b → C'.ok t b ∧ C'.w.heap[b]? = C.w.heap[b]?
  obj : ∀ o, d.contains o = true → C'.M o = C.M o ∧ C'.loc o = C.loc o
mutual
theorem RelV.res9 {d : List Nat} {C C' : Ctx} (h : Res9 d C C') : ∀ (x : AV) (v : Value), Qx d x = true → No99 x → RelV C x v → RelV C' x v
  | .int .., v, _, _, hv => by simpa only [RelV] using hv
  | .bool .., v, _, _, hv => by simpa only [RelV] using hv
  | .str .., v, _, _, hv => by simpa only [RelV] using hv
  | .agg ls, v, hn, h9, hv => by
    simp only [RelV] at hv ⊢; simp only [Qx] at hn; simp only [No99] at h9; obtain ⟨cs, rfl, h1⟩ := hv; exact ⟨cs, rfl, RelL.res9 h ls cs hn h9 h1⟩
  | .tup ls, v, hn, h9, hv => by
    simp only [RelV] at hv ⊢; simp only [Qx] at hn; simp only [No99] at h9; obtain ⟨cs, rfl, h1⟩ := hv; exact ⟨cs, rfl, RelL.res9 h ls cs hn h9 h1⟩
  | .sl t sz xs, v, _, h9, hv => RelV.no99 ⟨h.ok⟩ _ _ rfl h9 hv
  | .own o ver lo hi, v, hn, _, hv => by
    simp only [Qx] at hn
    simp only [RelV] at hv ⊢
    obtain ⟨h0, obj, hv0, h1, h2, h3⟩ := hv
    exact ⟨h0, obj, hv0, by rw [(h.obj o hn).1]; exact h1, by rw [(h.obj o hn).2]; exact h2, h3⟩
  | .ptr o off, v, hn, _, hv => by
    simp only [Qx] at hn
    simp only [RelV] at hv ⊢
    obtain ⟨h0, obj, hv0, h1, h2, h3⟩ := hv
    exact ⟨h0, obj, hv0, by rw [(h.obj o hn).1]; exact h1, by rw [(h.obj o hn).2]; exact h2, h3⟩
  | .elt o ver i off, v, hn, _, hv => by
    simp only [Qx] at hn
    simp only [RelV] at hv ⊢
    obtain ⟨h0, obj, hv0, h1, h2, h3⟩ := hv
    exact ⟨h0, obj, hv0, by rw [(h.obj o hn).1]; exact h1, by rw [(h.obj o hn).2]; exact h2, h3⟩
  | .pp t ls, v, _, h9, hv => RelV.no99 ⟨h.ok⟩ _ _ rfl h9 hv
  | .fn f a b, v, hn, h9, hv => by
    simp only [RelV] at hv ⊢
    simp only [Qx, Bool.and_eq_true] at hn
    simp only [No99] at h9
    obtain ⟨us, bs, h1, h2, h3⟩ := hv
    exact ⟨us, bs, h1, RelL.res9 h a us hn.1 h9.1 h2, RelL.res9 h b bs hn.2 h9.2 h3⟩
  | .junk, _, _, _, _ => by simp only [RelV]
theorem RelL.res9 {d : List Nat} {C C' : Ctx} (h : Res9 d C C') : ∀ (x : List AV) (v : List Value), Qo d x = true → Xl x → RelL C x v → RelL C' x v
  | [], v, _, _, hv => by simpa only [RelL] using hv
  | x :: xs, v, hn, h9, hv => by
    simp only [Qo, Bool.and_eq_true] at hn
    simp only [Xl] at h9
    simp only [RelL] at hv ⊢
    obtain ⟨c, cs, rfl, h1, h2⟩ := hv
    exact ⟨c, cs, rfl, RelV.res9 h x c hn.1 h9.1 h1, RelL.res9 h xs cs hn.2 h9.2 h2⟩
end
theorem RelLL.res9 {d : List Nat} {C C' : Ctx} (h : Res9 d C C') : ∀ {x : List (List AV)} {v : List (List Value)}, (∀ r ∈ x, Qo d r = true) → GW x → RelLL C x v → RelLL C' x v
  | [], v, _, _, hv => by simpa only [RelLL] using hv
  | x :: xs, v, hn, h9, hv => by
    simp only [GW] at h9
    simp only [RelLL] at hv ⊢
    obtain ⟨c, cs, rfl, h1, h2⟩ := hv
    exact ⟨c, cs, rfl, RelL.res9 h x c (hn x (by simp)) h9.1 h1, RelLL.res9 h (fun r hr => hn r (by simp [hr])) h9.2 h2⟩
theorem objAt.res9 {d : List Nat} {C C' : Ctx} (h : Res9 d C C') {hv : Value} {obj : AObj} (hr : Qb d obj = true) (h9 : Qbb obj) (hb : ∀ b, blkOf hv = some b → C'.w.heap[b]? = C.w.heap[b]?) (ho : objAt C hv obj) : objAt C' hv obj := by
  cases obj with
  | box ls =>
    obtain ⟨b, cs, ty, rfl, h1, h2, h3⟩ := ho
    exact ⟨b, cs, ty, rfl, by rw [hb b rfl]; exact h1, RelL.res9 h ls cs hr h9 h2, h3⟩
  | arr e ver sz xs =>
    obtain ⟨css, h1, h2, h3, h4⟩ := ho
    exact ⟨css, RelLL.res9 h (Qht hr h4) h9 h1, h2, Qak h3 hb, h4⟩
  | gone => exact ho
  | mp kk es =>
    obtain ⟨b, ents, clock, rfl, h1, h2, h3, h4, h5⟩ := ho
    refine ⟨b, ents, clock, rfl, by rw [hb b rfl]; exact h1, RelL.no99 ⟨h.ok⟩ _ _ (Qb2 h4) h9.1 h2, ?_, h4, h5⟩
    simp only [Qb] at hr
    split at hr
    · rename_i hk; exact RelL.no99 ⟨h.ok⟩ _ _ (Qen hk h4) h9.2 h3
    · exact RelL.res9 h _ _ hr h9.2 h3
theorem Ga {a b : List (Nat × AObj)} {o : Nat} : getM (a ++ b) o = (getM a o).or (getM b o) := by
  induction a with
  | nil => simp [getM]
  | cons p a ih =>
    obtain ⟨k, x⟩ := p
    simp only [List.cons_append, getM]
    split
    · rfl
    · exact ih
theorem Contract.look {P : Program} {f : FuncId} {args args' : List AV} {pre ups : List (Nat × AObj)} {v : AV} (hC : Contract P f args' [] v ups) {K : Nat → Option AObj} (hK : ∀ o x, K o = some x → getM pre o = some x) (hp : Y7 (getM pre) args = some args' ∨ Qad (getM pre) K args = some args') (hdis : ∀ p ∈ ups, getM pre p.1 = none)
    (hrv : Qx (dom ups) v = true) (hru : (ups.all fun p => Qb (dom ups) p.2) = true) (h9 : No99 v) (h9u : ∀ p ∈ ups, Qbb p.2) : Contract P f args pre v (ups ++ pre) := by
  intro io w loc vs hio hwf hargs
  let C : Ctx := ⟨io, w, loc, getM pre⟩
  let io' : Nat → Nat → Prop := fun t b => (io t b ∧ ¬ C.ownB b) ∨ (t = 99 ∧ C.ownB b)
  let C1 : Ctx := ⟨io', w, fun _ => none, getM []⟩
  have hno : ∀ b, ¬ C1.ownB b := by rintro b ⟨o, hv, h, _⟩; cases h
  have hlt : ∀ b, C.ownB b → b < w.heap.size := fun b h => hwf.lt h
  obtain ⟨h5, h6⟩ : RelL C1 args' vs ∧ YT args' = true := hp.elim (fun hp => Qd2 (C' := C1) hwf (fun b hlt hb => ⟨.inr ⟨rfl, hb⟩, hlt, hno b⟩) rfl (fun t b hb => ⟨.inl ⟨hb.1, hb.2.2⟩, hb.2.1, hno b⟩) args args' vs hp hargs) (fun hp => Qex (C' := C1) hwf (fun b hlt hb => ⟨.inr ⟨rfl, hb⟩, hlt, hno b⟩) rfl (fun t b hb => ⟨.inl ⟨hb.1, hb.2.2⟩, hb.2.1, hno b⟩) hK args args' vs hp hargs)
  refine (hC io' w (fun _ => none) vs ⟨fun b hb => .inl ⟨hio.1 b hb, fun h => ?_⟩, fun b h => h.elim (fun h => hio.2 b h.1) (fun h => absurd h.1 (by decide))⟩ ⟨fun o obj h => (by simp [getM] at h), fun o hv h => (by simp at h), fun o o' hv hv' b h => (by simp at h), globOk.okx (C := ⟨io, w, loc, getM pre⟩) ⟨fun t b hb => ⟨⟨.inl ⟨hb.1, hb.2.2⟩, hb.2.1, hno b⟩, rfl⟩⟩ hwf.glob⟩ h5).mono ?_
  · have := hlt b h; exact absurd hb (Nat.not_le.2 this)
  rintro e w' ⟨rv, loc2, rfl, hwf2, hext2, hrel2, hev2, hnb2⟩
  let C2 : Ctx := ⟨io', w', loc2, getM ups⟩
  let loc3 : Nat → Option Value := fun o => if (dom ups).contains o then loc2 o else loc o
  let C3 : Ctx := ⟨io, w', loc3, getM (ups ++ pre)⟩
  have hsame : ∀ b, b < w.heap.size → w'.heap[b]? = w.heap[b]? := fun b hb => hev2.block b hb (hno b)
  have hnew2 : ∀ o hv b, loc2 o = some hv → blkOf hv = some b → w.heap.size ≤ b := fun o hv b h1 h2 => by
    rcases hnb2 o hv b h1 h2 with h | ⟨_, h, _⟩
    · exact h
    · cases h
  have hin : ∀ o, (dom ups).contains o = true → getM (ups ++ pre) o = getM ups o ∧ loc3 o = loc2 o := fun o ho => by
    obtain ⟨x, hx⟩ := Zk ho
    exact ⟨by rw [Ga, hx]; rfl, by simp only [loc3, ho, if_true]⟩
  have hout : ∀ o, (dom ups).contains o = false → getM (ups ++ pre) o = getM pre o ∧ loc3 o = loc o := fun o ho => by
    have : getM ups o = none := by
      cases h : getM ups o with
      | none => rfl
      | some x => rw [G7 h] at ho; cases ho
    exact ⟨by rw [Ga, this]; rfl, by simp only [loc3, ho]; rfl⟩
  have hpre : ∀ o obj, getM pre o = some obj → (dom ups).contains o = false := fun o obj h => by
    cases hd : (dom ups).contains o with
    | false => rfl
    | true =>
      obtain ⟨x, hx⟩ := Zk hd
      rw [hdis (o, x) (Xa hx)] at h; cases h
  have hown3 : ∀ b, C3.ownB b → (C2.ownB b ∧ w.heap.size ≤ b) ∨ C.ownB b := by
    rintro b ⟨o, hv, h1, h2⟩
    have h1 : loc3 o = some hv := h1
    cases hd : (dom ups).contains o with
    | true => rw [(hin o hd).2] at h1; exact .inl ⟨⟨o, hv, h1, h2⟩, hnew2 o hv b h1 h2⟩
    | false => rw [(hout o hd).2] at h1; exact .inr ⟨o, hv, h1, h2⟩
  have hext3 : Ext C C3 := by
    refine ⟨fun t b hb => ⟨⟨hb.1, Nat.lt_of_lt_of_le hb.2.1 hev2.size, fun h => ?_⟩, hsame b hb.2.1⟩, fun o obj hv h1 h2 => ?_⟩
    · rcases hown3 b h with h | h
      · have := hb.2.1; exact absurd h.2 (Nat.not_le.2 this)
      · exact hb.2.2 h
    · have h1 : getM pre o = some obj := h1
      have hd := hpre o obj h1
      exact ⟨obj, hv, by show getM (ups ++ pre) o = _; rw [(hout o hd).1]; exact h1, by show loc3 o = _; rw [(hout o hd).2]; exact h2, objLe.refl obj hv⟩
  have hres : Res9 (dom ups) C2 C3 := by
    refine ⟨fun t b ht hb => ⟨⟨?_, hb.2.1, fun h => ?_⟩, rfl⟩, fun o ho => ⟨(hin o ho).1, (hin o ho).2⟩⟩
    · have hb1 : io' t b := hb.1
      exact hb1.elim (fun h => h.1) fun h => absurd h.1 ht
    · rcases hown3 b h with h | h
      · exact hb.2.2 h.1
      · have hb1 : io' t b := hb.1
        exact hb1.elim (fun h' => h'.2 h) fun h' => absurd h'.1 ht
  refine ⟨rv, loc3, rfl, ⟨fun o obj h => ?_, fun o hv h => ?_, fun o o' hv hv' b h1 h2 h3 h4 => ?_, globOk.okx ⟨hext3.ok⟩ hwf.glob⟩, hext3, RelV.res9 hres v rv hrv h9 hrel2, ⟨hev2.os, hev2.tape, hev2.output, hev2.size, fun b hb _ => hsame b hb⟩, fun o hv b h1 h2 => ?_⟩
  · have h : getM (ups ++ pre) o = some obj := h
    cases hd : (dom ups).contains o with
    | true =>
      rw [(hin o hd).1] at h
      obtain ⟨hv, h1, h2⟩ := hwf2.obj o obj h
      rw [List.all_eq_true] at hru
      exact ⟨hv, by show loc3 o = _; rw [(hin o hd).2]; exact h1, objAt.res9 hres (hru (o, obj) (Xa h)) (h9u (o, obj) (Xa h)) (fun b _ => rfl) h2⟩
    | false =>
      rw [(hout o hd).1] at h
      obtain ⟨hv, h1, h2⟩ := hwf.obj o obj h
      exact ⟨hv, by show loc3 o = _; rw [(hout o hd).2]; exact h1, h2.mono hext3 fun b hb => hsame b (h2.lt hb)⟩
  · have h : loc3 o = some hv := h
    cases hd : (dom ups).contains o with
    | true => obtain ⟨x, hx⟩ := Zk hd; exact ⟨x, by show getM (ups ++ pre) o = _; rw [(hin o hd).1]; exact hx⟩
    | false =>
      rw [(hout o hd).2] at h
      obtain ⟨x, hx⟩ := hwf.dom o hv h
      exact ⟨x, by show getM (ups ++ pre) o = _; rw [(hout o hd).1]; exact hx⟩
  · have h1 : loc3 o = some hv := h1
    have h2 : loc3 o' = some hv' := h2
    cases hd : (dom ups).contains o <;> cases hd' : (dom ups).contains o'
    · rw [(hout o hd).2] at h1; rw [(hout o' hd').2] at h2; exact hwf.inj o o' hv hv' b h1 h2 h3 h4
    · rw [(hout o hd).2] at h1; rw [(hin o' hd').2] at h2
      have := hlt b ⟨o, hv, h1, h3⟩
      have := hnew2 o' hv' b h2 h4
      omega
    · rw [(hin o hd).2] at h1; rw [(hout o' hd').2] at h2
      have := hlt b ⟨o', hv', h2, h4⟩
      have := hnew2 o hv b h1 h3
      omega
    · rw [(hin o hd).2] at h1; rw [(hin o' hd').2] at h2; exact hwf2.inj o o' hv hv' b h1 h2 h3 h4
  · have h1 : loc3 o = some hv := h1
    cases hd : (dom ups).contains o with
    | true => rw [(hin o hd).2] at h1; exact .inl (hnew2 o hv b h1 h2)
    | false => rw [(hout o hd).2] at h1; exact .inr ⟨hv, h1, h2⟩

section
variable {P : Program} {A : A0} {io : Nat → Nat → Prop} {w : World} {loc : Nat → Option Value} {M : List (Nat × AObj)}
/-- Every call. -/
theorem QfO (hI : Inv A ⟨io, w, loc, getM M⟩) {f : FuncId} {args : List AV} {vs : List Value} (hargs : RelL ⟨io, w, loc, getM M⟩ args vs) {v : AV} {ups : List (Nat × AObj)} (h : Qb7 P f args (getM M) v ups) :
    Calls P f vs.toArray w fun e w' => ∃ rv loc', e = .returned rv ∧ Inv A ⟨io, w', loc', getM (YU M ups)⟩ ∧ Ext ⟨io, w, loc, getM M⟩ ⟨io, w', loc', getM (YU M ups)⟩ ∧ RelV ⟨io, w', loc', getM (YU M ups)⟩ v rv := by
  rcases h with ⟨pre, h1, h2, h3, h4, h5, h6, h7, h8⟩ | ⟨rfl, args', h1, h2, h3, h4⟩ | ⟨args', h1, h2, h3, h4, h5, h6, h7⟩ | ⟨args', keep, news, rfl, hkeep, h1, h2, h3, h4, h5, h6, h7⟩
  · exact QiL hI hargs h1 h2 h3 h4 h5 h6 h7 h8
  rotate_left
  rotate_left
  · have hsub : ∀ o x, getM keep o = some x → getM M o = some x := fun o x hx => hkeep (o, x) (Xa hx)
    have hM : getM (YU M (news ++ keep)) = getM (news ++ M) := funext fun o => by
      rw [WL, Ga, Ga]
      cases getM news o with
      | some x => rfl
      | none =>
        cases hk : getM keep o with
        | none => rfl
        | some x => simp [hsub o x hk]
    rw [hM]
    have hio : io = A.io := hI.io
    refine (h2.look hsub (.inr h1) h3 h4 h5 h6 h7 io w loc vs ⟨fun b hb => by rw [hio]; exact hI.fresh.1 b (Nat.le_trans hI.ev.size hb), fun b => by rw [hio]; exact hI.fresh.2 b⟩ hI.wf hargs).mono ?_
    rintro e w' ⟨rv, loc2, rfl, hwf2, hext2, hrel2, hev2, hnb2⟩
    refine ⟨rv, loc2, rfl, ⟨hI.io, hI.np, hI.fresh, hwf2, hI.oldnp, ⟨hev2.os.trans hI.ev.os, hev2.tape.trans hI.ev.tape, hev2.output.trans hI.ev.output, Nat.le_trans hI.ev.size hev2.size, fun b hb ho => ?_⟩, fun o hv b h8 h9 => ?_⟩, hext2, hrel2⟩
    · refine (hev2.block b (Nat.lt_of_lt_of_le hb hI.ev.size) ?_).trans (hI.ev.block b hb ho)
      rintro ⟨o, hv, h8, h9⟩
      rcases hI.new o hv b h8 h9 with h | h
      · omega
      · exact ho ⟨o, h⟩
    · rcases hnb2 o hv b h8 h9 with h | ⟨hv0, h, h'⟩
      · exact .inl (Nat.le_trans hI.ev.size h)
      · exact hI.new o hv0 b h h'
  rotate_left
  · have hM : getM (YU M ups) = getM (ups ++ M) := funext fun o => by rw [WL, Ga]
    rw [hM]
    have hio : io = A.io := hI.io
    refine (h2.look (K := fun _ => none) (fun o x h => by cases h) (.inl h1) h3 h4 h5 h6 h7 io w loc vs ⟨fun b hb => by rw [hio]; exact hI.fresh.1 b (Nat.le_trans hI.ev.size hb), fun b => by rw [hio]; exact hI.fresh.2 b⟩ hI.wf hargs).mono ?_
    rintro e w' ⟨rv, loc2, rfl, hwf2, hext2, hrel2, hev2, hnb2⟩
    refine ⟨rv, loc2, rfl, ⟨hI.io, hI.np, hI.fresh, hwf2, hI.oldnp, ⟨hev2.os.trans hI.ev.os, hev2.tape.trans hI.ev.tape, hev2.output.trans hI.ev.output, Nat.le_trans hI.ev.size hev2.size, fun b hb ho => ?_⟩, fun o hv b h8 h9 => ?_⟩, hext2, hrel2⟩
    · refine (hev2.block b (Nat.lt_of_lt_of_le hb hI.ev.size) ?_).trans (hI.ev.block b hb ho)
      rintro ⟨o, hv, h8, h9⟩
      rcases hI.new o hv b h8 h9 with h | h
      · omega
      · exact ho ⟨o, h⟩
    · rcases hnb2 o hv b h8 h9 with h | ⟨hv0, h, h'⟩
      · exact .inl (Nat.le_trans hI.ev.size h)
      · exact hI.new o hv0 b h h'
  let C : Ctx := ⟨io, w, loc, getM M⟩
  let io' : Nat → Nat → Prop := fun t b => (io t b ∧ ¬ C.ownB b) ∨ (t = 99 ∧ C.ownB b)
  let C1 : Ctx := ⟨io', w, fun _ => none, getM []⟩
  have hno : ∀ b, ¬ C1.ownB b := by rintro b ⟨o, hv, h, _⟩; cases h
  obtain ⟨h5, h6⟩ := Qd2 (C' := C1) hI.wf (fun b hlt hb => ⟨.inr ⟨rfl, hb⟩, hlt, hno b⟩) rfl (fun t b hb => ⟨.inl ⟨hb.1, hb.2.2⟩, hb.2.1, hno b⟩) args args' vs h1 hargs
  refine (h2 io' w (fun _ => none) vs ⟨fun b hb => .inl ⟨?_, fun h => ?_⟩, fun b h => h.elim (fun h => hI.fresh.2 b (hI.io ▸ h.1)) (fun h => absurd h.1 (by decide))⟩ ⟨fun o obj h => (by simp [getM] at h), fun o hv h => (by simp at h), fun o o' hv hv' b h => (by simp at h), globOk.okx (C := ⟨io, w, loc, getM M⟩) ⟨fun t b hb => ⟨⟨.inl ⟨hb.1, hb.2.2⟩, hb.2.1, hno b⟩, rfl⟩⟩ hI.wf.glob⟩ h5).mono ?_
  · have := hI.fresh.1 b (Nat.le_trans hI.ev.size hb); rw [← hI.io] at this; exact this
  · have := hI.wf.lt h; exact absurd hb (Nat.not_le.2 this)
  rintro e w' ⟨rv, loc2, rfl, hwf2, hext2, hrel2, hev2, hnb2⟩
  have hgrow : Grow w w' none := ⟨hev2.os, hev2.tape, hev2.output, hev2.size, fun b hb _ => hev2.block b hb (hno b)⟩
  obtain ⟨h7, h8⟩ := Inv.grow hI hgrow
  have hno2 : ∀ b, ¬ Ctx.ownB ⟨io', w', loc2, getM []⟩ b := by
    rintro b ⟨o, hv, h, _⟩
    obtain ⟨x, hx⟩ := hwf2.dom o hv h
    simp [getM] at hx
  have hok9 : Ok99 ⟨io', w', loc2, getM []⟩ ⟨io, w', loc, getM M⟩ := by
    refine ⟨fun t b ht hb => ?_⟩
    have hb1 : io' t b := hb.1
    rcases hb1 with h | h
    · exact ⟨⟨h.1, hb.2.1, h.2⟩, rfl⟩
    · exact (ht h.1).elim
  exact ⟨rv, loc, rfl, h7, h8, RelV.no99 hok9 v rv h3 h4 hrel2⟩
end
end Go.Ve

