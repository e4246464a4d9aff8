/- The program's HandWish returns what the reference's returns, for all arguments: the law FnExactHandWish of the given row, at every argument that its guards let in. -/
import Derived.Test.YtppifjfappcbgaaGreatChecked
import Derived.Test.YtppifjfappcbgaaGreatRows
import Derived.Test.YtppifjfappcbgaaGreatHw6
set_option linter.all false
namespace Go.Proofs.YtppifjfappcbgaaGreat
open Go.Ve Go.ChangeShapes Go.WideShapes Go.RowKit
set_option linter.unusedVariables false
theorem QuK : ownKnob Tryz.prog.godebug = none := by kernel_rfl
theorem Qrk : laidOutB Tryz.prog = true := by kernel_rfl
theorem QsW : QaV Tryz.prog 9 Tryz.f5.params.toList = some [.one (.sl Qju), .one .str, .st Qjv, .one .str, .one (.sl QcI)] := by kernel_rfl
theorem QuL (xs : List AV) (h : QgU [.one (.sl Qju), .one .str, .st Qjv, .one .str, .one (.sl QcI)] xs) : Contract Tryz.prog 5 xs [] (.bool true) [] := by
  simp only [QgU, Qp8, QjC] at h
  obtain ⟨_, _, rfl, ⟨zs, rfl, hz, rz⟩, _, _, rfl, ⟨me, rfl, _⟩, _, _, rfl, ⟨bs, rfl, hb⟩, _, _, rfl, ⟨fl, rfl, _⟩, _, _, rfl, ⟨ts, rfl, ht, rt⟩, rfl⟩ := h
  obtain ⟨zs, rfl, pz⟩ := Ux Qq3 rz
  obtain ⟨tu, rfl, _⟩ := Ux (p := fun _ => True) (fun r hr => (Qgs r hr).imp fun x hx => ⟨hx, trivial⟩) rt
  rw [List.length_map] at hz ht
  obtain ⟨b, rfl, pb⟩ := Qq6 bs hb
  exact Qfr 1 zs me fl tu b ⟨by unfold maxLen at hz; omega, pz⟩ pb (by unfold maxLen at ht; omega)
set_option maxRecDepth 100000 in
theorem QsX (os : Os) (started : os.Started) (H : Type) (enc : TypeId × Value → H) :
    ReturnsInHanded {} Tryz.checked os 5 .any (Rows.fnExactHandWishSpec.pre6 enc Tryz.prog Tryz.f5 Rows.fnExactHandWishRow.domain false) (Rows.fnExactHandWishSpec.post enc Tryz.prog Tryz.f5 false true false false) := by
  refine returnsInHanded_of_change (C := Tryz.checked) QuK started (by kernel_rfl) Tryz.func5
    (ChangeSpec.witness6 (enc := enc) (C := Tryz.checked) false ⟨#[], #[.slice none 0 0, .string ⟨#[]⟩, .agg #[.slice none 0 0, .slice none 0 0, .slice none 0 0], .string ⟨#[]⟩, .slice none 0 0], []⟩ 8 (by kernel_rfl) (by kernel_rfl) (by kernel_rfl) (by kernel_rfl)) ?_
  intro W base args ds gs before hval hW hcnd _
  exact Qor Qrk QsW rfl (fun ds gs hd hg => by
    match ds, hd, gs, hg with
    | [d1, d2, d3, d4, d5], _, [], _ => rfl) (tb := 4) (by kernel_rfl) (by kernel_rfl) QuL W base args ds gs before (fun g ls h => by cases h) hval hW false true

theorem Quk : Rows.fnExactHandWishRow.holds Tryz.pinned (OpenSpec.ofChange Rows.fnExactHandWishSpec) :=
  OpenClaim.holds_of_wide 5 Tryz.f5 rfl rfl rfl rfl rfl rfl rfl ⟨rfl, rfl, rfl, rfl, rfl⟩ rfl rfl rfl rfl rfl (by kernel_rfl) Tryz.func5 (by kernel_rfl)
    (of_decide_eq_true (by kernel_rfl)) (by unfold Func.isWrapper; first | (rw [if_pos (by decide +kernel)]; kernel_rfl) | (rw [if_neg (by decide +kernel)]; exact ⟨rfl, rfl⟩))
    (fun os started H enc _ => QsX os started H enc)
theorem proved : Rows.FnExactHandWishSaid := Quk
#print axioms proved
end Go.Proofs.YtppifjfappcbgaaGreat
