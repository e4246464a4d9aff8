/- THE PROOF OF FnFlyTurn: the law's row. -/
import Derived.Test.YtnggoadnhnbmkaaChecked
import Derived.Test.YtnggoadnhnbmkaaRows
import Derived.Test.YtnggoadnhnbmkaaTu4
set_option linter.all false
namespace Go.Ve
set_option linter.unusedVariables false
theorem fit_byte (r : List AV) (h : fitsL [.int .u8] r) : ∃ b : Nat, b ≤ 255 ∧ r = brow b := by
  simp only [fitsL, fits] at h
  obtain ⟨_, _, rfl, ⟨n, rfl, hw⟩, rfl⟩ := h
  simp only [Lit.wf, IntKind.min, IntKind.max, IntKind.signed, IntKind.bits] at hw
  simp at hw
  exact ⟨n.toNat, by omega, by unfold brow; rw [Int.toNat_of_nonneg (by omega)]⟩
theorem fit_bytes : ∀ {rows : List (List AV)}, (∀ r ∈ rows, fitsL [.int .u8] r) → ∃ cs : List Nat, (∀ b ∈ cs, b ≤ 255) ∧ rows = cs.map brow
  | [], _ => ⟨[], by simp, rfl⟩
  | r :: rows, k => by
    obtain ⟨b, hb, rfl⟩ := fit_byte r (k r (by simp))
    obtain ⟨l, hl, rfl⟩ := fit_bytes (rows := rows) fun r' h' => k r' (by simp [h'])
    exact ⟨b :: l, by simpa using ⟨hb, hl⟩, rfl⟩
end Go.Ve
namespace Go.Proofs.Ytnggoadnhnbmkaa
open Go.Ve Go.ChangeShapes Go.WideShapes Go.RowKit
set_option linter.unusedVariables false
theorem own : ownKnob Try.prog.godebug = none := by kernel_rfl
theorem laidOut : laidOutB Try.prog = true := by kernel_rfl
theorem shapes : pshapes Try.prog 9 Try.f8.params.toList = some [.one (.sl [.int .u8])] := by kernel_rfl
theorem law (xs : List AV) (h : fitsPs [.one (.sl [.int .u8])] xs) : Contract Try.prog 8 xs [] (.bool true) [] := by
  simp only [fitsPs, fitsP, fits] at h
  obtain ⟨_, _, rfl, ⟨rows, rfl, h2, h3⟩, rfl⟩ := h
  obtain ⟨cs, hcs, rfl⟩ := fit_bytes h3
  refine c_FnFlyTurn cs hcs ?_
  rw [List.length_map] at h2; unfold maxLen at h2; omega
set_option maxRecDepth 100000 in
theorem lifted (os : Os) (started : os.Started) (H : Type) (enc : TypeId × Value → H) :
    ReturnsInHanded {} Try.checked os 8 .any (Rows.fnFlyTurnSpec.pre6 enc Try.prog Try.f8 Rows.fnFlyTurnRow.domain false) (Rows.fnFlyTurnSpec.post enc Try.prog Try.f8 false true false false) := by
  refine returnsInHanded_of_change (C := Try.checked) own started (by kernel_rfl) Try.func8
    (ChangeSpec.witness6 (enc := enc) (C := Try.checked) false ⟨#[], #[.slice none 0 0], []⟩ 8 (by kernel_rfl) (by kernel_rfl) (by kernel_rfl) (by kernel_rfl)) ?_
  intro W base args ds gs before hval hW hcnd _
  exact law_calls laidOut shapes rfl (fun ds hd => by
    match ds, hd with
    | [d], _ => rfl) (tb := 4) (by kernel_rfl) (by kernel_rfl) law W base args ds gs before hval hW false true
theorem over : Rows.fnFlyTurnRow.holds Try.pinned (OpenSpec.ofChange Rows.fnFlyTurnSpec) :=
  OpenClaim.holds_of_wide 8 Try.f8 rfl rfl rfl rfl rfl rfl rfl ⟨rfl, rfl, rfl, rfl, rfl⟩ rfl rfl rfl rfl rfl (by kernel_rfl) Try.func8 (by kernel_rfl)
    (of_decide_eq_true (by kernel_rfl)) (by unfold Func.isWrapper; first | (rw [if_pos (by decide +kernel)]; kernel_rfl) | (rw [if_neg (by decide +kernel)]; exact ⟨rfl, rfl⟩))
    (fun os started H enc _ => lifted os started H enc)
theorem proved : Rows.FnFlyTurnSaid := over
#print axioms proved
end Go.Proofs.Ytnggoadnhnbmkaa
