/- THE PROOF OF FnExactLapMove: the law's row. -/
import Derived.Test.YtnggoadnhnbmkaaChecked
import Derived.Test.YtnggoadnhnbmkaaRows
import Derived.Test.YtnggoadnhnbmkaaMo3
set_option linter.all false
namespace Go.Ve
set_option linter.unusedVariables false
/-! Data that fits, told by the structures. -/
theorem fit_rows {α : Type} {f : α → List AV} {rs : List LSh} (h : ∀ r, fitsL rs r → ∃ x : α, r = f x) : ∀ {rows : List (List AV)}, (∀ r ∈ rows, fitsL rs r) → ∃ l : List α, rows = l.map f
  | [], _ => ⟨[], rfl⟩
  | r :: rows, k => by
    obtain ⟨x, rfl⟩ := h r (k r (by simp))
    obtain ⟨l, rfl⟩ := fit_rows h (rows := rows) fun r' h' => k r' (by simp [h'])
    exact ⟨x :: l, rfl⟩
theorem fit_irow (r : List AV) (h : fitsL [.int .i64] r) : ∃ x : Int, r = irow x := by
  simp only [fitsL, fits] at h
  obtain ⟨_, _, rfl, ⟨n, rfl, _⟩, rfl⟩ := h
  exact ⟨n, rfl⟩
theorem fit_box (r : List AV) (h : fitsL [.int .i64, .int .i64, .int .i64, .int .i64, .int .i64, .int .i64] r) : ∃ x : Box6, r = x.row := by
  simp only [fitsL, fits] at h
  obtain ⟨_, _, rfl, ⟨a, rfl, _⟩, _, _, rfl, ⟨b, rfl, _⟩, _, _, rfl, ⟨c, rfl, _⟩, _, _, rfl, ⟨d, rfl, _⟩, _, _, rfl, ⟨e, rfl, _⟩, _, _, rfl, ⟨g, rfl, _⟩, rfl⟩ := h
  exact ⟨⟨a, b, c, d, e, g⟩, rfl⟩
end Go.Ve
namespace Go.Proofs.Ytnggoadnhnbmkaa
open Go.Ve Go.ChangeShapes Go.WideShapes Go.RowKit
set_option linter.unusedVariables false
theorem own : ownKnob Try.prog.godebug = none := by kernel_rfl
theorem laidOut : laidOutB Try.prog = true := by kernel_rfl
def craftSh : List LSh := [.str, .int .i64, .int .i64, .int .i64, .int .i64, .sl [.int .i64, .int .i64, .int .i64, .int .i64, .int .i64, .int .i64], .sl [.int .i64]]
theorem shapes : pshapes Try.prog 9 Try.f5.params.toList = some [.st craftSh, .one (.int .i64)] := by kernel_rfl
theorem law (xs : List AV) (h : fitsPs [.st craftSh, .one (.int .i64)] xs) : Contract Try.prog 5 xs [] (.bool true) [] := by
  simp only [fitsPs, fitsP, fitsL, fits, craftSh] at h
  obtain ⟨_, _, rfl, ⟨_, rfl, _, _, rfl, ⟨nm, rfl, h1⟩, _, _, rfl, ⟨q, rfl, _⟩, _, _, rfl, ⟨s, rfl, _⟩, _, _, rfl, ⟨nr, rfl, _⟩, _, _, rfl, ⟨no, rfl, _⟩, _, _, rfl, ⟨tu, rfl, h2, h3⟩, _, _, rfl, ⟨fl, rfl, h4, h5⟩, rfl⟩, _, _, rfl, ⟨now, rfl, _⟩, rfl⟩ := h
  obtain ⟨tu, rfl⟩ := fit_rows fit_box h3
  obtain ⟨fl, rfl⟩ := fit_rows fit_irow h5
  refine c_FnExactLapMove nm q s nr no 1 1 tu fl now ?_ ?_ ?_
  · rw [← toList_size]; unfold maxLen at h1; omega
  · rw [List.length_map] at h2; unfold maxLen at h2; omega
  · rw [List.length_map] at h4; unfold maxLen at h4; omega
set_option maxRecDepth 100000 in
theorem lifted (os : Os) (started : os.Started) (H : Type) (enc : TypeId × Value → H) :
    ReturnsInHanded {} Try.checked os 5 .any (Rows.fnExactLapMoveSpec.pre6 enc Try.prog Try.f5 Rows.fnExactLapMoveRow.domain false) (Rows.fnExactLapMoveSpec.post enc Try.prog Try.f5 false true false false) := by
  refine returnsInHanded_of_change (C := Try.checked) own started (by kernel_rfl) Try.func5
    (ChangeSpec.witness6 (enc := enc) (C := Try.checked) false ⟨#[], #[.agg #[.string ⟨#[]⟩, .int .i64 0, .int .i64 0, .int .i64 0, .int .i64 0, .slice none 0 0, .slice none 0 0], .int .i64 0], []⟩ 8 (by kernel_rfl) (by kernel_rfl) (by kernel_rfl) (by kernel_rfl)) ?_
  intro W base args ds gs before hval hW hcnd _
  exact law_calls laidOut shapes rfl (fun ds hd => by
    match ds, hd with
    | [d1, d2], _ => rfl) (tb := 4) (by kernel_rfl) (by kernel_rfl) law W base args ds gs before hval hW false true

theorem over : Rows.fnExactLapMoveRow.holds Try.pinned (OpenSpec.ofChange Rows.fnExactLapMoveSpec) :=
  OpenClaim.holds_of_wide 5 Try.f5 rfl rfl rfl rfl rfl rfl rfl ⟨rfl, rfl, rfl, rfl, rfl⟩ rfl rfl rfl rfl rfl (by kernel_rfl) Try.func5 (by kernel_rfl)
    (of_decide_eq_true (by kernel_rfl)) (by unfold Func.isWrapper; first | (rw [if_pos (by decide +kernel)]; kernel_rfl) | (rw [if_neg (by decide +kernel)]; exact ⟨rfl, rfl⟩))
    (fun os started H enc _ => lifted os started H enc)
theorem proved : Rows.FnExactLapMoveSaid := over
#print axioms proved
end Go.Proofs.Ytnggoadnhnbmkaa
