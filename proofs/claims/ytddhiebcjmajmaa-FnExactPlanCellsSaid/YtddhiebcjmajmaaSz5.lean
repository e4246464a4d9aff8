/- At every base and every route the law of PlanCells returns true: what impl gives is what the reference gives, its arguments read as before, and its answer owns its memory. -/
import Derived.Test.YtddhiebcjmajmaaChecked
import Derived.Test.YtddhiebcjmajmaaRows
import Derived.Test.YtddhiebcjmajmaaSz4
set_option linter.all false
namespace Go.Proofs.Ytddhiebcjmajmaa
open Go.Ve Go.ChangeShapes Go.WideShapes Go.RowKit
set_option linter.unusedVariables false
theorem own3 : ownKnob Try.prog.godebug = none := by kernel_rfl
theorem laidOut3 : laidOutB Try.prog = true := by kernel_rfl
theorem shapes3 : pshapes Try.prog 9 Try.f3.params.toList = some [.st sh_PBase, .one (.sl sh_ByteArray)] := by kernel_rfl
theorem law3 (xs : List AV) (h : fitsPs [.st sh_PBase, .one (.sl sh_ByteArray)] xs) : Contract Try.prog 3 xs [] (.bool true) [] := by
  simp only [fitsPs, fitsP, fits] at h
  obtain ⟨_, _, rfl, ⟨ss, rfl, hs⟩, _, _, rfl, ⟨qs, rfl, hq, rq⟩, rfl⟩ := h
  obtain ⟨s, rfl, ps⟩ := fit_PBase ss hs
  obtain ⟨qs, rfl, pq⟩ := fit_rows2 fit_ByteArray rq
  rw [List.length_map] at hq
  exact c_FnExactPlanCells s qs ps ⟨by unfold maxLen at hq; omega, pq⟩
set_option maxRecDepth 100000 in
theorem lifted3 (os : Os) (started : os.Started) (H : Type) (enc : TypeId × Value → H) :
    ReturnsInHanded {} Try.checked os 3 .any (Rows.fnExactPlanCellsSpec.pre6 enc Try.prog Try.f3 Rows.fnExactPlanCellsRow.domain false) (Rows.fnExactPlanCellsSpec.post enc Try.prog Try.f3 false true false false) := by
  refine returnsInHanded_of_change (C := Try.checked) own3 started (by kernel_rfl) Try.func3
    (ChangeSpec.witness6 (enc := enc) (C := Try.checked) false ⟨#[], #[.agg #[.slice none 0 0, .slice none 0 0], .slice none 0 0], []⟩ 8 (by kernel_rfl) (by kernel_rfl) (by kernel_rfl) (by kernel_rfl)) ?_
  intro W base args ds gs before hval hW hcnd _
  exact law_calls laidOut3 shapes3 rfl (fun ds gs hd hg => by
    match ds, hd, gs, hg with
    | [d1, d2], _, [], _ => rfl) (tb := 4) (by kernel_rfl) (by kernel_rfl) law3 W base args ds gs before (fun g ls h => by cases h) hval hW false true

theorem over3 : Rows.fnExactPlanCellsRow.holds Try.pinned (OpenSpec.ofChange Rows.fnExactPlanCellsSpec) :=
  OpenClaim.holds_of_wide 3 Try.f3 rfl rfl rfl rfl rfl rfl rfl ⟨rfl, rfl, rfl, rfl, rfl⟩ rfl rfl rfl rfl rfl (by kernel_rfl) Try.func3 (by kernel_rfl)
    (of_decide_eq_true (by kernel_rfl)) (by unfold Func.isWrapper; first | (rw [if_pos (by decide +kernel)]; kernel_rfl) | (rw [if_neg (by decide +kernel)]; exact ⟨rfl, rfl⟩))
    (fun os started H enc _ => lifted3 os started H enc)
theorem proved : Rows.FnExactPlanCellsSaid := over3
#print axioms proved
end Go.Proofs.Ytddhiebcjmajmaa
