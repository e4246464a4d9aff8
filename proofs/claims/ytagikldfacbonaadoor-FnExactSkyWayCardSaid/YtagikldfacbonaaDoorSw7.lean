/- The program's SkyWay returns what the reference's returns, for all arguments. -/
import Derived.LaidMore
import Derived.OpenShut
import Derived.ProofKit
import Derived.SevenTiedAt
import Derived.Stop.Joined
import Derived.Test.YtagikldfacbonaaDoorCards
import Derived.Test.YtagikldfacbonaaDoorChecked
import Derived.Test.YtagikldfacbonaaDoorTie
import Derived.Test.YtagikldfacbonaaDoorSw6
set_option linter.all false
namespace Go.Proofs.YtagikldfacbonaaDoor
open Go Go.Ve Go.ChangeShapes Go.WideShapes Go.RowKit
set_option linter.unusedVariables false
theorem QrH : ownKnob Tryd.prog.godebug = none := by kernel_rfl
theorem Qob : laidOutB Tryd.prog = true := by kernel_rfl
theorem Qqk : Qar Tryd.prog 9 Tryd.f4.params.toList = some [.st QjZ, .one .str, .one .str] := by kernel_rfl
theorem QrI (xs : List AV) (h : QeP [.st QjZ, .one .str, .one .str] xs) : Contract Tryd.prog 4 xs [] (.bool true) [] := by
  simp only [QeP, Qm6, Qhc] at h
  obtain ⟨_, _, rfl, ⟨ss, rfl, hs⟩, _, _, rfl, ⟨a, rfl, _⟩, _, _, rfl, ⟨b, rfl, _⟩, rfl⟩ := h
  obtain ⟨s, rfl, ps⟩ := QpN ss hs
  exact Qfq s a b ps
abbrev QmK : List (String × DataW Unit) := [("loop.example/lapwing/impl.turnBy", Rows.laid_loop_example_lapwing_impl_turnBy)]
theorem gT : Tryd.prog.globalNamed "loop.example/lapwing/impl.turnBy" = some 0 := by kernel_rfl
theorem tT : (Tryd.prog.globals[0]?).map (·.type) = some 126 := by kernel_rfl
theorem uT : Tryd.prog.underlying 126 = some (.array 9 95) := by kernel_rfl
theorem uP : Tryd.prog.underlying 95 = some (.array 2 3) := by kernel_rfl
theorem uI : Tryd.prog.underlying 3 = some (.int .i64) := by kernel_rfl
theorem cT : Tryd.prog.cellsOf 126 = 18 := by kernel_rfl
theorem cP : Tryd.prog.cellsOf 95 = 2 := by kernel_rfl
theorem cI : Tryd.prog.cellsOf 3 = 1 := by kernel_rfl
theorem Zz {W : World} {f : Nat} {a b : Value} {x : DataW Unit × List MemPlace} {held : Bool} {sp : Nat → Bool} (h : DataW.trod (fun _ => ()) Tryd.prog W 0 sp held f 95 [a, b] = some x) :
    ∃ m k : Int, a = .int .i64 m ∧ b = .int .i64 k ∧ x.1 = .agg [.lit (.int .i64 m), .lit (.int .i64 k)] := by
  obtain ⟨ys, m1, rfl, hx, hl, hn, hel⟩ := DataW.trod_array uP h
  have h0 := hel 0 (by decide)
  have h1 := hel 1 (by decide)
  match ys, hn with
  | [y0, y1], _ =>
    rw [cI] at h0 h1
    obtain ⟨m, e1, e2, _⟩ := DataW.trod_int uI (show DataW.trod (fun _ => ()) Tryd.prog W 0 sp held m1 3 [a] = some y0 from h0)
    obtain ⟨k, e3, e4, _⟩ := DataW.trod_int uI (show DataW.trod (fun _ => ()) Tryd.prog W 0 sp held m1 3 [b] = some y1 from h1)
    simp only [List.cons.injEq, and_true] at e1 e3
    exact ⟨m, k, e1, e3, by rw [hx, e2, e4]; rfl⟩
theorem QmL {P : Program} {W : World} {n : String} {g : Nat} {cs : Array Value} (hg : P.globalNamed n = some g) (hv : W.var? P n = some cs) : ∃ ty fz, W.heap[g]? = some (.cells cs ty fz) := by
  unfold World.var? at hv
  rw [hg] at hv
  simp only [Option.bind_some] at hv
  split at hv
  · rename_i c ty fz hh; cases hv; exact ⟨ty, fz, hh⟩
  · cases hv
set_option maxRecDepth 100000 in
theorem Qiv {W : World} (h : laidMetH Tryd.prog QmK W) : globOk (QeN W) := by
  rw [MakeChecks.laidMetH_plain _ _ _ (by kernel_rfl)] at h
  obtain ⟨ps, ⟨g0, t0, cs0, f0, p0, q0, hg0, ht0, hv0, hd0, _, _⟩, _, _⟩ := h
  obtain rfl := Option.some.inj (gT.symm.trans hg0)
  obtain rfl := Option.some.inj (tT.symm.trans ht0)
  obtain ⟨xs, m1, rfl, hx, hl, hn, hel⟩ := DataW.trod_array uT hd0
  have hcell := fun j => World.var?_cell hg0 hv0 j
  obtain ⟨ty0, fz0, hh0⟩ := QmL hg0 hv0
  have hlt : 0 < W.heap.size := by
    have hv := hv0
    unfold World.var? at hv
    rw [hg0] at hv
    simp only [Option.bind_some] at hv
    split at hv
    · rename_i cs _ _ hh; exact (Array.getElem?_eq_some_iff.1 hh).1
    · cases hv
  obtain ⟨l⟩ := cs0
  rw [cT] at hl
  match l, hl with
  | [a0, b0, a1, b1, a2, b2, a3, b3, a4, b4, a5, b5, a6, b6, a7, b7, a8, b8], _ =>
    match xs, hn with
    | [x0, x1, x2, x3, x4, x5, x6, x7, x8], _ =>
      rw [cP] at hel
      obtain ⟨m0, k0, rfl, rfl, y0⟩ := Zz (x := x0) (hel 0 (by decide))
      obtain ⟨m1', k1, rfl, rfl, y1⟩ := Zz (x := x1) (hel 1 (by decide))
      obtain ⟨m2, k2, rfl, rfl, y2⟩ := Zz (x := x2) (hel 2 (by decide))
      obtain ⟨m3, k3, rfl, rfl, y3⟩ := Zz (x := x3) (hel 3 (by decide))
      obtain ⟨m4, k4, rfl, rfl, y4⟩ := Zz (x := x4) (hel 4 (by decide))
      obtain ⟨m5, k5, rfl, rfl, y5⟩ := Zz (x := x5) (hel 5 (by decide))
      obtain ⟨m6, k6, rfl, rfl, y6⟩ := Zz (x := x6) (hel 6 (by decide))
      obtain ⟨m7, k7, rfl, rfl, y7⟩ := Zz (x := x7) (hel 7 (by decide))
      obtain ⟨m8, k8, rfl, rfl, y8⟩ := Zz (x := x8) (hel 8 (by decide))
      have hx := congrArg Prod.fst hx
      simp only [List.map_cons, List.map_nil, y0, y1, y2, y3, y4, y5, y6, y7, y8, Rows.laid_loop_example_lapwing_impl_turnBy, DataW.agg.injEq, DataW.lit.injEq, Lit.int.injEq, List.cons.injEq, true_and, and_true] at hx
      obtain ⟨⟨rfl, rfl⟩, ⟨rfl, rfl⟩, ⟨rfl, rfl⟩, ⟨rfl, rfl⟩, ⟨rfl, rfl⟩, ⟨rfl, rfl⟩, ⟨rfl, rfl⟩, ⟨rfl, rfl⟩, rfl, rfl⟩ := hx
      intro g ls hg
      unfold Qrh at hg
      split at hg
      · rename_i e
        subst e
        cases hg
        refine ⟨rfl, ⟨by show (97 : Nat) ≠ 98; decide, hlt, ?_⟩, [.int .i64 0, .int .i64 0, .int .i64 0, .int .i64 1, .int .i64 1, .int .i64 1, .int .i64 1, .int .i64 0, .int .i64 1, .int .i64 (-1), .int .i64 0, .int .i64 (-1), .int .i64 (-1), .int .i64 (-1), .int .i64 (-1), .int .i64 0, .int .i64 (-1), .int .i64 1], ?_, fun j c hj => ?_, ty0, fz0, hh0⟩
        · rintro ⟨o, v, h, _⟩; cases h
        · unfold Qb1; simp only [RelL, RelV]; exact ⟨_, _, rfl, rfl, _, _, rfl, rfl, _, _, rfl, rfl, _, _, rfl, rfl, _, _, rfl, rfl, _, _, rfl, rfl, _, _, rfl, rfl, _, _, rfl, rfl, _, _, rfl, rfl, _, _, rfl, rfl, _, _, rfl, rfl, _, _, rfl, rfl, _, _, rfl, rfl, _, _, rfl, rfl, _, _, rfl, rfl, _, _, rfl, rfl, _, _, rfl, rfl, _, _, rfl, rfl, rfl⟩
        · have := hcell j
          rw [Nat.zero_add]
          exact this.trans (by simpa using hj)
      · cases hg
theorem Qoc (os : Os) (args : Array Value) : laidMetH Tryd.prog QmK ((World.doorLaid Tryd.prog 400 os).forCall (fun _ _ => 0) ⟨#[], args, []⟩).memory :=
  laidMetH_of_parts3 (fuel := 8) (laidMet_of_run' 8 (by kernel_rfl) (by kernel_rfl)) (by kernel_rfl) (by kernel_rfl)
set_option maxRecDepth 100000 in
theorem Qql (os : Os) (started : os.Started) (H : Type) (enc : TypeId × Value → H) :
    ReturnsInHanded {} Tryd.checked os 4 .any (fun w args => (Rows.fnExactSkyWaySpec.pre enc Tryd.prog Tryd.f4 [] false w args ∧ laidMetH Tryd.prog QmK w) ∧ sizedMet enc Tryd.prog Tryd.f4 (OpenSpec.ofChange Rows.fnExactSkyWaySpec) false w args)
      (Rows.fnExactSkyWaySpec.post enc Tryd.prog Tryd.f4 false true false false) := by
  refine returnsInHanded_of_change_and (C := Tryd.checked) (X := fun w _ => laidMetH Tryd.prog QmK w) (fun _ _ _ hh h => h.of_heap hh) QrH started (by kernel_rfl) Tryd.func4
    (ChangeSpec.witness_shaped (enc := enc) (C := Tryd.checked) (os := os) (X := fun w _ => laidMetH Tryd.prog QmK w) false (World.doorLaid Tryd.prog 400 os) #[.agg #[.int .i64 0, .int .i64 0, .int .i64 0, .slice none 0 0, .slice none 0 0, .slice none 0 0, .slice none 0 0], .string ⟨#[]⟩, .string ⟨#[]⟩] 8 rfl (World.shaped_of_RefB (by kernel_rfl) (by kernel_rfl)) (by kernel_rfl) (by kernel_rfl) (by kernel_rfl) (Qoc os _)) ?_
  intro W base args ds gs before hval hW _ _ hL _
  exact Qlw Qob Qqk (by kernel_rfl) (fun ds gs hd hg => by
    match ds, hd, gs, hg with
    | [d1, d2, d3], _, [g1], _ => rfl) (tb := 4) (by kernel_rfl) (by kernel_rfl) QrI W base args ds gs before (Qiv hL) hval hW false true
theorem Qrz : Rows.FnExactSkyWaySaid :=
  OpenClaim.holds_of_wide 4 Tryd.f4 rfl rfl rfl rfl rfl rfl rfl ⟨rfl, rfl, rfl, rfl, rfl⟩ rfl rfl rfl rfl rfl (by kernel_rfl) Tryd.func4 (by kernel_rfl)
    (of_decide_eq_true (by kernel_rfl)) (by unfold Func.isWrapper; first | (rw [if_pos (by decide +kernel)]; kernel_rfl) | (rw [if_neg (by decide +kernel)]; exact ⟨rfl, rfl⟩))
    (fun os started H enc _ => Qql os started H enc)
theorem proved : Rows.FnExactSkyWayCardSaid :=
  Claim7.holds_tied_plain_at .later [] [.data] true (true, "15b2d3381b34cf3921a4b9f09d21dde00dee69c4055244df7c0ce32da3c35de0") false
    Qrz (fun _ h => by cases h) (by kernel_rfl) (fun _ h => by cases h) fnExactSkyWay_row_tie rfl ⟨rfl, rfl⟩ (by kernel_rfl) rfl
    (fun f fn hf hfn => by
      obtain rfl : f = 4 := Option.some.inj ((show Tryd.prog.funcNamed "loop.example/lapwing/laws.FnExactSkyWay" = some 4 by kernel_rfl).symm.trans hf) |>.symm
      obtain rfl : fn = Tryd.f4 := (Option.some.inj (Tryd.func4.symm.trans hfn)).symm
      exact ⟨by kernel_rfl, fun j t ht => by
        have hall : (Tryd.f4.params.toList.all fun u => !Tryd.prog.wantsStandIn u) = true := by kernel_rfl
        have hm : t ∈ Tryd.f4.params.toList := by simpa using Array.mem_of_getElem? ht
        exact (show Tryd.prog.wantsStandIn t = false by simpa using List.all_eq_true.1 hall t hm)⟩)
    (by kernel_rfl)
#print axioms proved
end Go.Proofs.YtagikldfacbonaaDoor
