/- impl.LapBase answers as spec.LapBase does, leaves what it was handed as it was, holds its own kinds and points, and answers the same again -/
import Derived.LaidMore
import Derived.OpenShut
import Derived.ProofKit
import Derived.SevenTiedAt
import Derived.Stop.Joined
import Derived.Test.YtgpmpajihobhhaaDoorCards
import Derived.Test.YtgpmpajihobhhaaDoorChecked
import Derived.Test.YtgpmpajihobhhaaDoorTie
import Derived.Test.YtgpmpajihobhhaaDoorSb5
set_option linter.all false
namespace Go.Proofs.YtgpmpajihobhhaaDoor
open Go Go.Ve Go.ChangeShapes Go.WideShapes Go.RowKit
set_option linter.unusedVariables false
theorem own11 : ownKnob Tryd.prog.godebug = none := by kernel_rfl
theorem laidOut11 : laidOutB Tryd.prog = true := by kernel_rfl
theorem shapes11 : pshapes Tryd.prog 9 Tryd.f11.params.toList = some [.st sh_Sky, .one (.sl sh_PKind)] := by kernel_rfl
theorem law11 (xs : List AV) (h : fitsPs [.st sh_Sky, .one (.sl sh_PKind)] xs) : Contract Tryd.prog 11 xs [] (.bool true) [] := by
  simp only [fitsPs, fitsP, fits] at h
  obtain ⟨_, _, rfl, ⟨ss, rfl, hs⟩, _, _, rfl, ⟨qs, rfl, hq, rq⟩, rfl⟩ := h
  obtain ⟨s, rfl, ps⟩ := fit_Sky ss hs
  obtain ⟨qs, rfl, pq⟩ := fit_rows2 fit_PKind rq
  rw [List.length_map] at hq
  exact c_FnExactLapBase s qs ps ⟨by unfold maxLen at hq; omega, pq⟩
abbrev laid1 : List (String × DataW Unit) := [("loop.example/lapwing/impl.turnBy", Rows.laid_loop_example_lapwing_impl_turnBy)]
theorem gT : Tryd.prog.globalNamed "loop.example/lapwing/impl.turnBy" = some 0 := by kernel_rfl
theorem tT : (Tryd.prog.globals[0]?).map (·.type) = some 181 := by kernel_rfl
theorem uT : Tryd.prog.underlying 181 = some (.array 9 104) := by kernel_rfl
theorem uP : Tryd.prog.underlying 104 = some (.array 2 3) := by kernel_rfl
theorem uI : Tryd.prog.underlying 3 = some (.int .i64) := by kernel_rfl
theorem cT : Tryd.prog.cellsOf 181 = 18 := by kernel_rfl
theorem cP : Tryd.prog.cellsOf 104 = 2 := by kernel_rfl
theorem cI : Tryd.prog.cellsOf 3 = 1 := by kernel_rfl
theorem pair_ints {W : World} {f : Nat} {a b : Value} {x : DataW Unit × List MemPlace} {held : Bool} {sp : Nat → Bool} (h : DataW.trod (fun _ => ()) Tryd.prog W 0 sp held f 104 [a, b] = some x) :
    ∃ m k : Int, a = .int .i64 m ∧ b = .int .i64 k ∧ x.1 = .agg [.lit (.int .i64 m), .lit (.int .i64 k)] := by
  obtain ⟨ys, m1, rfl, hx, hl, hn, hel⟩ := DataW.trod_array uP h
  have h0 := hel 0 (by decide)
  have h1 := hel 1 (by decide)
  match ys, hn with
  | [y0, y1], _ =>
    rw [cI] at h0 h1
    obtain ⟨m, e1, e2, _⟩ := DataW.trod_int uI (show DataW.trod (fun _ => ()) Tryd.prog W 0 sp held m1 3 [a] = some y0 from h0)
    obtain ⟨k, e3, e4, _⟩ := DataW.trod_int uI (show DataW.trod (fun _ => ()) Tryd.prog W 0 sp held m1 3 [b] = some y1 from h1)
    simp only [List.cons.injEq, and_true] at e1 e3
    exact ⟨m, k, e1, e3, by rw [hx, e2, e4]; rfl⟩
set_option maxRecDepth 100000 in
theorem glob_of_laid {W : World} (h : laidMetH Tryd.prog laid1 W) : globOk (outer W) := by
  rw [MakeChecks.laidMetH_plain _ _ _ (by kernel_rfl)] at h
  obtain ⟨ps, ⟨g0, t0, cs0, f0, p0, q0, hg0, ht0, hv0, hd0, _, _⟩, _, _⟩ := h
  obtain rfl := Option.some.inj (gT.symm.trans hg0)
  obtain rfl := Option.some.inj (tT.symm.trans ht0)
  obtain ⟨xs, m1, rfl, hx, hl, hn, hel⟩ := DataW.trod_array uT hd0
  have hcell := fun j => World.var?_cell hg0 hv0 j
  have hlt : 0 < W.heap.size := by
    have hv := hv0
    unfold World.var? at hv
    rw [hg0] at hv
    simp only [Option.bind_some] at hv
    split at hv
    · rename_i cs _ _ hh; exact (Array.getElem?_eq_some_iff.1 hh).1
    · cases hv
  obtain ⟨l⟩ := cs0
  rw [cT] at hl
  match l, hl with
  | [a0, b0, a1, b1, a2, b2, a3, b3, a4, b4, a5, b5, a6, b6, a7, b7, a8, b8], _ =>
    match xs, hn with
    | [x0, x1, x2, x3, x4, x5, x6, x7, x8], _ =>
      rw [cP] at hel
      obtain ⟨m0, k0, rfl, rfl, y0⟩ := pair_ints (x := x0) (hel 0 (by decide))
      obtain ⟨m1', k1, rfl, rfl, y1⟩ := pair_ints (x := x1) (hel 1 (by decide))
      obtain ⟨m2, k2, rfl, rfl, y2⟩ := pair_ints (x := x2) (hel 2 (by decide))
      obtain ⟨m3, k3, rfl, rfl, y3⟩ := pair_ints (x := x3) (hel 3 (by decide))
      obtain ⟨m4, k4, rfl, rfl, y4⟩ := pair_ints (x := x4) (hel 4 (by decide))
      obtain ⟨m5, k5, rfl, rfl, y5⟩ := pair_ints (x := x5) (hel 5 (by decide))
      obtain ⟨m6, k6, rfl, rfl, y6⟩ := pair_ints (x := x6) (hel 6 (by decide))
      obtain ⟨m7, k7, rfl, rfl, y7⟩ := pair_ints (x := x7) (hel 7 (by decide))
      obtain ⟨m8, k8, rfl, rfl, y8⟩ := pair_ints (x := x8) (hel 8 (by decide))
      have hx := congrArg Prod.fst hx
      simp only [List.map_cons, List.map_nil, y0, y1, y2, y3, y4, y5, y6, y7, y8, Rows.laid_loop_example_lapwing_impl_turnBy, DataW.agg.injEq, DataW.lit.injEq, Lit.int.injEq, List.cons.injEq, true_and, and_true] at hx
      obtain ⟨⟨rfl, rfl⟩, ⟨rfl, rfl⟩, ⟨rfl, rfl⟩, ⟨rfl, rfl⟩, ⟨rfl, rfl⟩, ⟨rfl, rfl⟩, ⟨rfl, rfl⟩, ⟨rfl, rfl⟩, rfl, rfl⟩ := hx
      intro g ls hg
      unfold gtab at hg
      split at hg
      · rename_i e
        subst e
        cases hg
        refine ⟨rfl, ⟨by show (97 : Nat) ≠ 98; decide, hlt, ?_⟩, [.int .i64 0, .int .i64 0, .int .i64 0, .int .i64 1, .int .i64 1, .int .i64 1, .int .i64 1, .int .i64 0, .int .i64 1, .int .i64 (-1), .int .i64 0, .int .i64 (-1), .int .i64 (-1), .int .i64 (-1), .int .i64 (-1), .int .i64 0, .int .i64 (-1), .int .i64 1], ?_, fun j c hj => ?_⟩
        · rintro ⟨o, v, h, _⟩; cases h
        · unfold turnCells; simp only [RelL, RelV]; exact ⟨_, _, rfl, rfl, _, _, rfl, rfl, _, _, rfl, rfl, _, _, rfl, rfl, _, _, rfl, rfl, _, _, rfl, rfl, _, _, rfl, rfl, _, _, rfl, rfl, _, _, rfl, rfl, _, _, rfl, rfl, _, _, rfl, rfl, _, _, rfl, rfl, _, _, rfl, rfl, _, _, rfl, rfl, _, _, rfl, rfl, _, _, rfl, rfl, _, _, rfl, rfl, _, _, rfl, rfl, rfl⟩
        · have := hcell j
          rw [Nat.zero_add]
          exact this.trans (by simpa using hj)
      · cases hg
theorem door_met (os : Os) (args : Array Value) : laidMetH Tryd.prog laid1 ((World.doorLaid Tryd.prog 400 os).forCall (fun _ _ => 0) ⟨#[], args, []⟩).memory :=
  laidMetH_of_parts3 (fuel := 8) (laidMet_of_run' 8 (by kernel_rfl) (by kernel_rfl)) (by kernel_rfl) (by kernel_rfl)
set_option maxRecDepth 100000 in
theorem lifted11 (os : Os) (started : os.Started) (H : Type) (enc : TypeId × Value → H) :
    ReturnsInHanded {} Tryd.checked os 11 .any (fun w args => (Rows.fnExactLapBaseSpec.pre enc Tryd.prog Tryd.f11 [] false w args ∧ laidMetH Tryd.prog laid1 w) ∧ sizedMet enc Tryd.prog Tryd.f11 (OpenSpec.ofChange Rows.fnExactLapBaseSpec) false w args)
      (Rows.fnExactLapBaseSpec.post enc Tryd.prog Tryd.f11 false true false false) := by
  refine returnsInHanded_of_change_and (C := Tryd.checked) (X := fun w _ => laidMetH Tryd.prog laid1 w) (fun _ _ _ hh h => h.of_heap hh) own11 started (by kernel_rfl) Tryd.func11
    (ChangeSpec.witness_shaped (enc := enc) (C := Tryd.checked) (os := os) (X := fun w _ => laidMetH Tryd.prog laid1 w) false (World.doorLaid Tryd.prog 400 os) #[.agg #[.int .i64 0, .int .i64 0, .int .i64 0, .slice none 0 0, .slice none 0 0, .slice none 0 0, .slice none 0 0], .slice none 0 0] 8 rfl (World.shaped_of_RefB (by kernel_rfl) (by kernel_rfl)) (by kernel_rfl) (by kernel_rfl) (by kernel_rfl) (door_met os _)) ?_
  intro W base args ds gs before hval hW _ _ hL _
  exact law_calls laidOut11 shapes11 (by kernel_rfl) (fun ds gs hd hg => by
    match ds, hd, gs, hg with
    | [d1, d2], _, [g1], _ => rfl) (tb := 4) (by kernel_rfl) (by kernel_rfl) law11 W base args ds gs before (glob_of_laid hL) hval hW false true
theorem over11 : Rows.FnExactLapBaseSaid :=
  OpenClaim.holds_of_wide 11 Tryd.f11 rfl rfl rfl rfl rfl rfl rfl ⟨rfl, rfl, rfl, rfl, rfl⟩ rfl rfl rfl rfl rfl (by kernel_rfl) Tryd.func11 (by kernel_rfl)
    (of_decide_eq_true (by kernel_rfl)) (by unfold Func.isWrapper; first | (rw [if_pos (by decide +kernel)]; kernel_rfl) | (rw [if_neg (by decide +kernel)]; exact ⟨rfl, rfl⟩))
    (fun os started H enc _ => lifted11 os started H enc)
theorem proved : Rows.FnExactLapBaseCardSaid :=
  Claim7.holds_tied_plain_at .later [] [.data] true (true, "deca57ba54e328ad3aa0fc794f96dab60eaed5d4ce17bbd3c262b3b6a46524b5") false
    over11 (fun _ h => by cases h) (by kernel_rfl) (fun _ h => by cases h) fnExactLapBase_row_tie rfl ⟨rfl, rfl⟩ (by kernel_rfl) rfl
    (fun f fn hf hfn => by
      obtain rfl : f = 11 := Option.some.inj ((show Tryd.prog.funcNamed "loop.example/lapwing/laws.FnExactLapBase" = some 11 by kernel_rfl).symm.trans hf) |>.symm
      obtain rfl : fn = Tryd.f11 := (Option.some.inj (Tryd.func11.symm.trans hfn)).symm
      exact ⟨by kernel_rfl, fun j t ht => by
        have hall : (Tryd.f11.params.toList.all fun u => !Tryd.prog.wantsStandIn u) = true := by kernel_rfl
        have hm : t ∈ Tryd.f11.params.toList := by simpa using Array.mem_of_getElem? ht
        exact (show Tryd.prog.wantsStandIn t = false by simpa using List.all_eq_true.1 hall t hm)⟩)
    (by kernel_rfl)
#print axioms proved
end Go.Proofs.YtgpmpajihobhhaaDoor
