/- The law of LapCraftOk: true at every argument. -/
import Derived.Test.YtbghmmeeghdleaaChecked
import Derived.Test.YtbghmmeeghdleaaRows
import Derived.Test.YtbghmmeeghdleaaLc4
set_option linter.all false
namespace Go.Proofs.Ytbghmmeeghdleaa
open Go.Ve Go.ChangeShapes Go.WideShapes Go.RowKit
set_option linter.unusedVariables false
theorem own3 : ownKnob Try.prog.godebug = none := by kernel_rfl
theorem laidOut3 : laidOutB Try.prog = true := by kernel_rfl
theorem shapes3 : pshapes Try.prog 9 Try.f3.params.toList = some [.one (.sl sh_Zone), .st sh_Craft, .one (.int .i64)] := by kernel_rfl
theorem law3 (xs : List AV) (h : fitsPs [.one (.sl sh_Zone), .st sh_Craft, .one (.int .i64)] xs) : Contract Try.prog 3 xs [] (.bool true) [] := by
  simp only [fitsPs, fitsP, fits] at h
  obtain ⟨_, _, rfl, ⟨zs, rfl, hz, rz⟩, _, _, rfl, ⟨cs, rfl, hc⟩, _, _, rfl, ⟨now, rfl, _⟩, rfl⟩ := h
  obtain ⟨zs, rfl, pz⟩ := fit_rows2 fit_Zone rz
  rw [List.length_map] at hz
  simp only [sh_Craft, fitsL, fits] at hc
  obtain ⟨_, _, rfl, ⟨nm, rfl, h1⟩, _, _, rfl, ⟨q, rfl, _⟩, _, _, rfl, ⟨s, rfl, _⟩, _, _, rfl, ⟨nr, rfl, _⟩, _, _, rfl, ⟨no, rfl, _⟩, _, _, rfl, ⟨tu, rfl, h2, h3⟩, _, _, rfl, ⟨fl, rfl, h4, h5⟩, rfl⟩ := hc
  obtain ⟨tu, rfl⟩ := fit_rows fit_Box6 h3
  obtain ⟨fl, rfl⟩ := fit_rows fit_Int h5
  rw [List.length_map] at h2 h4
  exact c_FnExactLapCraftOk 1 1 1 zs nm q s nr no tu fl now ⟨by unfold maxLen at hz; omega, pz⟩ (by rw [← toList_size]; unfold maxLen at h1; omega) (by unfold maxLen at h2; omega) (by unfold maxLen at h4; omega)
set_option maxRecDepth 100000 in
theorem lifted3 (os : Os) (started : os.Started) (H : Type) (enc : TypeId × Value → H) :
    ReturnsInHanded {} Try.checked os 3 .any (Rows.fnExactLapCraftOkSpec.pre6 enc Try.prog Try.f3 Rows.fnExactLapCraftOkRow.domain false) (Rows.fnExactLapCraftOkSpec.post enc Try.prog Try.f3 false true false false) := by
  refine returnsInHanded_of_change (C := Try.checked) own3 started (by kernel_rfl) Try.func3
    (ChangeSpec.witness6 (enc := enc) (C := Try.checked) false ⟨#[], #[.slice none 0 0, .agg #[.string ⟨#[]⟩, .int .i64 0, .int .i64 0, .int .i64 0, .int .i64 0, .slice none 0 0, .slice none 0 0], .int .i64 0], []⟩ 8 (by kernel_rfl) (by kernel_rfl) (by kernel_rfl) (by kernel_rfl)) ?_
  intro W base args ds gs before hval hW hcnd _
  exact law_calls laidOut3 shapes3 rfl (fun ds hd => by
    match ds, hd with
    | [d1, d2, d3], _ => rfl) (tb := 4) (by kernel_rfl) (by kernel_rfl) law3 W base args ds gs before hval hW false true

theorem over3 : Rows.fnExactLapCraftOkRow.holds Try.pinned (OpenSpec.ofChange Rows.fnExactLapCraftOkSpec) :=
  OpenClaim.holds_of_wide 3 Try.f3 rfl rfl rfl rfl rfl rfl rfl ⟨rfl, rfl, rfl, rfl, rfl⟩ rfl rfl rfl rfl rfl (by kernel_rfl) Try.func3 (by kernel_rfl)
    (of_decide_eq_true (by kernel_rfl)) (by unfold Func.isWrapper; first | (rw [if_pos (by decide +kernel)]; kernel_rfl) | (rw [if_neg (by decide +kernel)]; exact ⟨rfl, rfl⟩))
    (fun os started H enc _ => lifted3 os started H enc)
theorem proved : Rows.FnExactLapCraftOkSaid := over3
#print axioms proved
end Go.Proofs.Ytbghmmeeghdleaa
