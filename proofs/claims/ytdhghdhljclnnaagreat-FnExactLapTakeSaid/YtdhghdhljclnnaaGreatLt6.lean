/- The program's LapTake returns what the reference's returns, for all arguments; the arguments read behind the call as they read before. -/
import Derived.Test.YtdhghdhljclnnaaGreatChecked
import Derived.Test.YtdhghdhljclnnaaGreatRows
import Derived.Test.YtdhghdhljclnnaaGreatLt5
set_option linter.all false
namespace Go.Proofs.YtdhghdhljclnnaaGreat
open Go.Ve Go.ChangeShapes Go.WideShapes Go.RowKit
set_option linter.unusedVariables false
theorem own3 : ownKnob Tryz.prog.godebug = none := by kernel_rfl
theorem laidOut3 : laidOutB Tryz.prog = true := by kernel_rfl
theorem shapes3 : pshapes Tryz.prog 9 Tryz.f3.params.toList = some [.one (.sl sh_Zone), .st sh_Craft, .st sh_Word, .one (.int .i64)] := by kernel_rfl
theorem law3 (xs : List AV) (h : fitsPs [.one (.sl sh_Zone), .st sh_Craft, .st sh_Word, .one (.int .i64)] xs) : Contract Tryz.prog 3 xs [] (.bool true) [] := by
  simp only [fitsPs, fitsP, fits] at h
  obtain ⟨_, _, rfl, ⟨zs, rfl, hz, rz⟩, _, _, rfl, ⟨cs, rfl, hc⟩, _, _, rfl, ⟨ws, rfl, hws⟩, _, _, rfl, ⟨now, rfl, _⟩, rfl⟩ := h
  obtain ⟨zs, rfl, pz⟩ := fit_rows2 fit_Zone rz
  rw [List.length_map] at hz
  obtain ⟨w, rfl, pw⟩ := fit_Word ws hws
  simp only [sh_Craft, fitsL, fits] at hc
  obtain ⟨_, _, rfl, ⟨nm, rfl, h1⟩, _, _, rfl, ⟨q, rfl, _⟩, _, _, rfl, ⟨s, rfl, _⟩, _, _, rfl, ⟨nr, rfl, _⟩, _, _, rfl, ⟨no, rfl, _⟩, _, _, rfl, ⟨tu, rfl, h2, h3⟩, _, _, rfl, ⟨fl, rfl, h4, h5⟩, rfl⟩ := hc
  obtain ⟨tu, rfl⟩ := fit_rows fit_Box6 h3
  obtain ⟨fl, rfl⟩ := fit_rows fit_Int h5
  rw [List.length_map] at h2 h4
  exact c_FnExactLapTake 1 1 1 zs nm q s nr no tu fl w now ⟨by unfold maxLen at hz; omega, pz⟩ (by rw [← toList_size]; unfold maxLen at h1; omega) (by unfold maxLen at h2; omega) (by unfold maxLen at h4; omega) pw
set_option maxRecDepth 100000 in
theorem lifted3 (os : Os) (started : os.Started) (H : Type) (enc : TypeId × Value → H) :
    ReturnsInHanded {} Tryz.checked os 3 .any (Rows.fnExactLapTakeSpec.pre6 enc Tryz.prog Tryz.f3 Rows.fnExactLapTakeRow.domain false) (Rows.fnExactLapTakeSpec.post enc Tryz.prog Tryz.f3 false true false false) := by
  refine returnsInHanded_of_change (C := Tryz.checked) own3 started (by kernel_rfl) Tryz.func3
    (ChangeSpec.witness6 (enc := enc) (C := Tryz.checked) false ⟨#[], #[.slice none 0 0, .agg #[.string ⟨#[]⟩, .int .i64 0, .int .i64 0, .int .i64 0, .int .i64 0, .slice none 0 0, .slice none 0 0], .agg #[.int .i64 0, .string ⟨#[]⟩, .string ⟨#[]⟩, .string ⟨#[]⟩, .int .i64 0, .int .i64 0, .int .i64 0, .slice none 0 0], .int .i64 0], []⟩ 8 (by kernel_rfl) (by kernel_rfl) (by kernel_rfl) (by kernel_rfl)) ?_
  intro W base args ds gs before hval hW hcnd _
  exact law_calls laidOut3 shapes3 rfl (fun ds hd => by
    match ds, hd with
    | [d1, d2, d3, d4], _ => rfl) (tb := 4) (by kernel_rfl) (by kernel_rfl) law3 W base args ds gs before hval hW false true

theorem over3 : Rows.fnExactLapTakeRow.holds Tryz.pinned (OpenSpec.ofChange Rows.fnExactLapTakeSpec) :=
  OpenClaim.holds_of_wide 3 Tryz.f3 rfl rfl rfl rfl rfl rfl rfl ⟨rfl, rfl, rfl, rfl, rfl⟩ rfl rfl rfl rfl rfl (by kernel_rfl) Tryz.func3 (by kernel_rfl)
    (of_decide_eq_true (by kernel_rfl)) (by unfold Func.isWrapper; first | (rw [if_pos (by decide +kernel)]; kernel_rfl) | (rw [if_neg (by decide +kernel)]; exact ⟨rfl, rfl⟩))
    (fun os started H enc _ => lifted3 os started H enc)
theorem proved : Rows.FnExactLapTakeSaid := over3
#print axioms proved
end Go.Proofs.YtdhghdhljclnnaaGreat
