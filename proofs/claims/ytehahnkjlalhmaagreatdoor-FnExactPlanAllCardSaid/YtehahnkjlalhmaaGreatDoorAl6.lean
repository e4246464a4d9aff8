/- At every book the law of PlanAll returns true: what impl gives is what the reference gives, its arguments read as before, and its answer owns its memory. -/
import Derived.LaidMore
import Derived.Lay
import Derived.OpenShut
import Derived.ProofKit
import Derived.SevenTiedAt
import Derived.Stop.Joined
import Derived.Test.YtehahnkjlalhmaaGreatDoorCards
import Derived.Test.YtehahnkjlalhmaaGreatDoorChecked
import Derived.Test.YtehahnkjlalhmaaGreatDoorTie
import Derived.Test.YtehahnkjlalhmaaGreatDoorAl5
set_option linter.all false
namespace Go.Proofs.YtehahnkjlalhmaaGreatDoor
open Go Go.Ve Go.ChangeShapes Go.WideShapes Go.RowKit
set_option linter.unusedVariables false
theorem own8 : ownKnob Tryz.prog.godebug = none := by kernel_rfl
theorem laidOut8 : laidOutB Tryz.prog = true := by kernel_rfl
theorem shapes8 : pshapes Tryz.prog 9 Tryz.f8.params.toList = some [.st sh_PBook] := by kernel_rfl
theorem law8 (xs : List AV) (h : fitsPs [.st sh_PBook] xs) : Contract Tryz.prog 8 xs [] (.bool true) [] := by
  simp only [fitsPs, fitsP, fits] at h
  obtain ⟨_, _, rfl, ⟨ss, rfl, hs⟩, rfl⟩ := h
  obtain ⟨s, rfl, ps⟩ := fit_PBook ss hs
  exact c_FnExactPlanAll s ps
abbrev laid1 : List (String × DataW Unit) := [("math/bits.deBruijn32tab", Rows.laid_math_bits_deBruijn32tab), ("math/bits.deBruijn64tab", Rows.laid_math_bits_deBruijn64tab), ("internal/strconv.uint64pow10", Rows.laid_internal_strconv_uint64pow10), ("unicode/utf8.acceptRanges", Rows.laid_unicode_utf8_acceptRanges), ("strconv.ErrRange", Rows.laid_strconv_ErrRange), ("strconv.ErrSyntax", Rows.laid_strconv_ErrSyntax), ("unicode/utf8.first", Rows.laid_unicode_utf8_first)]
set_option maxRecDepth 100000 in
theorem lifted8 (os : Os) (started : os.Started) (H : Type) (enc : TypeId × Value → H) :
    ReturnsInHanded {} Tryz.checked os 8 .any (fun w args => (Rows.fnExactPlanAllSpec.pre enc Tryz.prog Tryz.f8 [] false w args ∧ laidMetH Tryz.prog laid1 w) ∧ sizedMet enc Tryz.prog Tryz.f8 (OpenSpec.ofChange Rows.fnExactPlanAllSpec) false w args)
      (Rows.fnExactPlanAllSpec.post enc Tryz.prog Tryz.f8 false true false false) := by
  refine returnsInHanded_of_change_and (C := Tryz.checked) (X := fun w _ => laidMetH Tryz.prog laid1 w) (fun _ _ _ hh h => h.of_heap hh) own8 started (by kernel_rfl) Tryz.func8
    (ChangeSpec.witness_shaped (enc := enc) (C := Tryz.checked) (os := os) (X := fun w _ => laidMetH Tryz.prog laid1 w) false (World.laidAll Tryz.prog os laid1) #[.agg #[.slice none 0 0, .slice none 0 0, .slice none 0 0]] 8 (World.laidAll_os _ _ _)
      (World.shaped_of_ZipB (by kernel_rfl) (by kernel_rfl)) (by kernel_rfl) (by kernel_rfl) (by kernel_rfl)
      (by rw [MakeChecks.laidMetH_plain _ _ _ (by kernel_rfl)]; exact laidMet_laidAll _ (by kernel_rfl) (by kernel_rfl))) ?_
  intro W base args ds gs before hval hW _ _ hL _
  exact law_calls laidOut8 shapes8 rfl (fun ds gs hd hg => by
    match ds, hd, gs, hg with
    | [d1], _, [], _ => rfl) (tb := 4) (by kernel_rfl) (by kernel_rfl) law8 W base args ds gs before (fun g ls h => by cases h) hval hW false true
theorem over8 : Rows.FnExactPlanAllSaid :=
  OpenClaim.holds_of_wide 8 Tryz.f8 rfl rfl rfl rfl rfl rfl rfl ⟨rfl, rfl, rfl, rfl, rfl⟩ rfl rfl rfl rfl rfl (by kernel_rfl) Tryz.func8 (by kernel_rfl)
    (of_decide_eq_true (by kernel_rfl)) (by unfold Func.isWrapper; first | (rw [if_pos (by decide +kernel)]; kernel_rfl) | (rw [if_neg (by decide +kernel)]; exact ⟨rfl, rfl⟩))
    (fun os started H enc _ => lifted8 os started H enc)
theorem proved : Rows.FnExactPlanAllCardSaid :=
  Claim7.holds_tied_plain_at .later [] [.data, .data, .data, .data, .sentinel, .sentinel, .pinned] true (true, "0618956f03218340f0254d79b213447d6e1fb634543069a97a3c153b2cc0ab1b") true
    over8 (fun _ h => by cases h) (by kernel_rfl) (fun _ h => by cases h) fnExactPlanAll_row_tie rfl ⟨rfl, rfl⟩ (by kernel_rfl) rfl
    (fun f fn hf hfn => by
      obtain rfl : f = 8 := Option.some.inj ((show Tryz.prog.funcNamed "loop.example/lapwing/laws.FnExactPlanAll" = some 8 by kernel_rfl).symm.trans hf) |>.symm
      obtain rfl : fn = Tryz.f8 := (Option.some.inj (Tryz.func8.symm.trans hfn)).symm
      exact ⟨by kernel_rfl, fun j t ht => by
        have hall : (Tryz.f8.params.toList.all fun u => !Tryz.prog.wantsStandIn u) = true := by kernel_rfl
        have hm : t ∈ Tryz.f8.params.toList := by simpa using Array.mem_of_getElem? ht
        exact (show Tryz.prog.wantsStandIn t = false by simpa using List.all_eq_true.1 hall t hm)⟩)
    (by kernel_rfl)
#print axioms proved
end Go.Proofs.YtehahnkjlalhmaaGreatDoor
