/- At every text the law of PlanRead returns true: what impl reads is what the reference reads. -/
import Derived.LaidMore
import Derived.Lay
import Derived.OpenShut
import Derived.ProofKit
import Derived.SevenTiedAt
import Derived.SliceStrings
import Derived.Stop.Joined
import Derived.Test.YtjoablppladgcaaDoorCards
import Derived.Test.YtjoablppladgcaaDoorChecked
import Derived.Test.YtjoablppladgcaaDoorTie
import Derived.Test.YtjoablppladgcaaDoorRd3
set_option linter.all false
namespace Go.Proofs.YtjoablppladgcaaDoor
open Go Go.Ve Go.ChangeShapes Go.WideShapes Go.RowKit
set_option linter.unusedVariables false
theorem own3 : ownKnob Tryd.prog.godebug = none := by kernel_rfl
theorem laidOut3 : laidOutB Tryd.prog = true := by kernel_rfl
theorem shapes3 : pshapes Tryd.prog 9 Tryd.f3.params.toList = some [.one .str] := by kernel_rfl
theorem law3 (xs : List AV) (h : fitsPs [.one .str] xs) : Contract Tryd.prog 3 xs [] (.bool true) [] := by
  simp only [fitsPs, fitsP, fits] at h
  obtain ⟨_, _, rfl, ⟨v, rfl, hv⟩, rfl⟩ := h
  exact c_FnExactPlanRead v
abbrev laid1 : List (String × DataW Unit) := [("math/bits.deBruijn32tab", Rows.laid_math_bits_deBruijn32tab), ("math/bits.deBruijn64tab", Rows.laid_math_bits_deBruijn64tab), ("internal/strconv.uint64pow10", Rows.laid_internal_strconv_uint64pow10), ("unicode/utf8.acceptRanges", Rows.laid_unicode_utf8_acceptRanges), ("strconv.ErrRange", Rows.laid_strconv_ErrRange), ("strconv.ErrSyntax", Rows.laid_strconv_ErrSyntax), ("loop.example/lapwing/impl.whatWords", Rows.laid_loop_example_lapwing_impl_whatWords), ("unicode/utf8.first", Rows.laid_unicode_utf8_first)]
theorem laid_at {P : Program} {W : World} : ∀ {l : List (String × DataW Unit)} {ps : List MemPlace}, DataW.LaidVars P W l ps → ∀ x ∈ l, ∃ g t cs fuel p, P.globalNamed x.1 = some g ∧ (P.globals[g]?).map (·.type) = some t ∧ W.var? P x.1 = some cs ∧ DataW.trod (fun _ => ()) P W 0 (fun _ => true) false fuel t cs.toList = some (x.2, p)
  | [], ps, _, x, hx => by cases hx
  | y :: l, ps, h, x, hx => by
    obtain ⟨g, t, cs, f, p, q, h1, h2, h3, h4, h5, _⟩ := h
    rcases List.mem_cons.1 hx with rfl | hx
    · exact ⟨g, t, cs, f, p, h1, h2, h3, h4⟩
    · exact laid_at h5 x hx
theorem gT : Tryd.prog.globalNamed "loop.example/lapwing/impl.whatWords" = some 0 := by kernel_rfl
theorem tT : (Tryd.prog.globals[0]?).map (·.type) = some 28 := by kernel_rfl
theorem uT : Tryd.prog.underlying 28 = some (.slice 9) := by kernel_rfl
theorem uS : Tryd.prog.underlying 9 = some .string := by kernel_rfl
theorem cS : Tryd.prog.cellsOf 9 = 1 := by kernel_rfl
theorem g6 : Tryd.prog.globalNamed "internal/strconv.uint64pow10" = some 6 := by kernel_rfl
theorem t6 : (Tryd.prog.globals[6]?).map (·.type) = some 98 := by kernel_rfl
theorem u6 : Tryd.prog.underlying 98 = some (.array 20 74) := by kernel_rfl
theorem uU : Tryd.prog.underlying 74 = some (.int .u64) := by kernel_rfl
theorem cA : Tryd.prog.cellsOf 98 = 20 := by kernel_rfl
theorem cU : Tryd.prog.cellsOf 74 = 1 := by kernel_rfl
theorem strs_inj {a b : List ByteArray} (h : (strs a : List (DataW Unit)) = strs b) : a = b := by
  unfold strs at h
  induction a generalizing b with
  | nil => cases b with
    | nil => rfl
    | cons => simp at h
  | cons x a ih => cases b with
    | nil => simp at h
    | cons y b =>
      simp only [List.map_cons, List.cons.injEq, DataW.lit.injEq, Lit.string.injEq] at h
      rw [ih h.2, ByteArray.ext (Array.toList_inj.1 h.1)]
theorem var_whole {P : Program} {W : World} {n : String} {g : Nat} {cs : Array Value} (hg : P.globalNamed n = some g) (hv : W.var? P n = some cs) : ∃ ty fz, W.heap[g]? = some (.cells cs ty fz) := by
  unfold World.var? at hv
  rw [hg] at hv
  simp only [Option.bind_some] at hv
  split at hv
  · rename_i c ty fz hh; cases hv; exact ⟨ty, fz, hh⟩
  · cases hv
theorem lt_of_some {W : World} {g : Nat} {o : Obj} (h : W.heap[g]? = some o) : g < W.heap.size := (Array.getElem?_eq_some_iff.1 h).1
theorem ok97 {W : World} {g : Nat} (h : g < W.heap.size) : (outer W).ok 97 g := ⟨by show (97 : Nat) ≠ 98; decide, h, by rintro ⟨o, v, h, _⟩; cases h⟩
theorem rel_strs {C : Ctx} : ∀ l : List ByteArray, RelLL C (l.map srow) (l.map fun s => [Value.string s])
  | [] => by simp [RelLL]
  | x :: l => ⟨_, _, rfl, ⟨_, _, rfl, rfl, rfl⟩, rel_strs l⟩
theorem rel_ints {C : Ctx} {k : IntKind} : ∀ l : List Int, RelL C (l.map fun n => AV.int k n) (l.map fun n => Value.int k n)
  | [] => by simp [RelL]
  | x :: l => ⟨_, _, rfl, rfl, rel_ints l⟩
set_option maxRecDepth 100000 in
theorem words_rel {W : World} {f : Nat} {cs : Array Value} {p : List MemPlace} (hd : DataW.trod (fun _ => ()) Tryd.prog W 0 (fun _ => true) false f 28 cs.toList = some (Rows.laid_loop_example_lapwing_impl_whatWords, p)) :
    ∃ v, cs.toList = [v] ∧ RelV (outer W) (.sl 97 1 wordsT) v := by
  have hw : (Rows.laid_loop_example_lapwing_impl_whatWords : DataW Unit) = .slice (strs wordsL) [] := rfl
  rcases open_strings uT uS cS hd with ⟨_, hx⟩ | ⟨a, len, cap, ss, hcs, _, hl, hm, hsl, hx, hcell, _⟩
  · rw [hw] at hx; simp at hx
  · rw [hw] at hx
    simp only [Prod.mk.injEq, DataW.slice.injEq] at hx
    obtain ⟨⟨h1, h2⟩, _⟩ := hx
    have hd0 : ss.drop len = [] := (strs_inj (b := []) h2.symm)
    have h3 : ss.length ≤ len := by
      have := congrArg List.length hd0
      rw [List.length_drop] at this
      simp at this; omega
    have h4 : ss = wordsL := by
      have := strs_inj h1
      rw [List.take_of_length_le h3] at this; exact this.symm
    subst h4
    simp only [if_true] at hsl
    have hlen : len = 6 := by have : wordsL.length = 6 := rfl; omega
    have c0 := hcell 0 (by decide)
    obtain ⟨b, off, spot⟩ := a
    have hsp : spot = none := by
      unfold World.cell? at c0
      split at c0
      · split at c0
        · cases c0
        · rename_i h; cases spot with
          | none => rfl
          | some x => simp [Addr.add] at h
      · cases c0
    subst hsp
    have hb : b < W.heap.size := by
      unfold World.cell? at c0
      split at c0
      · rename_i hh; exact lt_of_some hh
      · cases c0
    refine ⟨_, hcs, ?_⟩
    subst hlen
    simp only [RelV]
    refine ⟨by intro r hr; rw [wordsT_L] at hr; obtain ⟨x, _, rfl⟩ := List.mem_map.1 hr; rfl, .inr ⟨b, off, cap, wordsL.map fun s => [Value.string s], rfl, hl, ok97 hb, by rw [wordsT_L]; exact rel_strs _, ?_⟩⟩
    intro i r hr
    rw [List.getElem?_map] at hr
    cases hi : wordsL[i]? with
    | none => rw [hi] at hr; cases hr
    | some x =>
      rw [hi] at hr
      cases hr
      have hil := (List.getElem?_eq_some_iff.1 hi).1
      have hc := hcell i hil
      rw [show wordsL.getD i ByteArray.empty = x by rw [List.getD_eq_getElem?_getD, hi]; rfl] at hc
      refine ⟨rfl, fun j c hj => ?_⟩
      cases j with
      | zero =>
        cases hj
        rw [Nat.mul_one, Nat.add_zero]
        have ha : (⟨b, off, none⟩ : Addr).add i = ⟨b, off + i, none⟩ := by
          simp only [Addr.add]
          split
          · rename_i e; subst e; rfl
          · rfl
        rw [ha] at hc
        exact hc
      | succ j => simp at hj
set_option maxRecDepth 100000 in
theorem pow_cells {W : World} {f : Nat} {cs : Array Value} {p : List MemPlace} (hd : DataW.trod (fun _ => ()) Tryd.prog W 0 (fun _ => true) false f 98 cs.toList = some (Rows.laid_internal_strconv_uint64pow10, p)) :
    cs.toList = pow10L.map fun n => Value.int .u64 n := by
  obtain ⟨xs, m1, _, hx, hl, hn, hel⟩ := DataW.trod_array u6 hd
  rw [cU] at hel
  rw [cA] at hl
  have one : ∀ (i : Nat) (a : Value) (y : DataW Unit × List MemPlace), i < 20 → (cs.toList.drop (i * 1)).take 1 = [a] → xs[i]? = some y → ∃ m : Int, a = .int .u64 m ∧ y.1 = .lit (.int .u64 m) := fun i a y hi ha hy => by
    have h0 := hel i hi
    rw [ha, hy] at h0
    obtain ⟨m, e1, e2, _⟩ := DataW.trod_int uU h0
    simp only [List.cons.injEq, and_true] at e1
    exact ⟨m, e1, by rw [e2]⟩
  obtain ⟨l⟩ := cs
  simp only at hl one ⊢
  match l, hl with
  | [a0, a1, a2, a3, a4, a5, a6, a7, a8, a9, a10, a11, a12, a13, a14, a15, a16, a17, a18, a19], _ =>
    match xs, hn with
    | [x0, x1, x2, x3, x4, x5, x6, x7, x8, x9, x10, x11, x12, x13, x14, x15, x16, x17, x18, x19], _ =>
      obtain ⟨m0, rfl, y0⟩ := one 0 a0 x0 (by decide) rfl rfl
      obtain ⟨m1, rfl, y1⟩ := one 1 a1 x1 (by decide) rfl rfl
      obtain ⟨m2, rfl, y2⟩ := one 2 a2 x2 (by decide) rfl rfl
      obtain ⟨m3, rfl, y3⟩ := one 3 a3 x3 (by decide) rfl rfl
      obtain ⟨m4, rfl, y4⟩ := one 4 a4 x4 (by decide) rfl rfl
      obtain ⟨m5, rfl, y5⟩ := one 5 a5 x5 (by decide) rfl rfl
      obtain ⟨m6, rfl, y6⟩ := one 6 a6 x6 (by decide) rfl rfl
      obtain ⟨m7, rfl, y7⟩ := one 7 a7 x7 (by decide) rfl rfl
      obtain ⟨m8, rfl, y8⟩ := one 8 a8 x8 (by decide) rfl rfl
      obtain ⟨m9, rfl, y9⟩ := one 9 a9 x9 (by decide) rfl rfl
      obtain ⟨m10, rfl, y10⟩ := one 10 a10 x10 (by decide) rfl rfl
      obtain ⟨m11, rfl, y11⟩ := one 11 a11 x11 (by decide) rfl rfl
      obtain ⟨m12, rfl, y12⟩ := one 12 a12 x12 (by decide) rfl rfl
      obtain ⟨m13, rfl, y13⟩ := one 13 a13 x13 (by decide) rfl rfl
      obtain ⟨m14, rfl, y14⟩ := one 14 a14 x14 (by decide) rfl rfl
      obtain ⟨m15, rfl, y15⟩ := one 15 a15 x15 (by decide) rfl rfl
      obtain ⟨m16, rfl, y16⟩ := one 16 a16 x16 (by decide) rfl rfl
      obtain ⟨m17, rfl, y17⟩ := one 17 a17 x17 (by decide) rfl rfl
      obtain ⟨m18, rfl, y18⟩ := one 18 a18 x18 (by decide) rfl rfl
      obtain ⟨m19, rfl, y19⟩ := one 19 a19 x19 (by decide) rfl rfl
      have hx := congrArg Prod.fst hx
      simp only [List.map_cons, List.map_nil, y0, y1, y2, y3, y4, y5, y6, y7, y8, y9, y10, y11, y12, y13, y14, y15, y16, y17, y18, y19, Rows.laid_internal_strconv_uint64pow10, DataW.agg.injEq, DataW.lit.injEq, Lit.int.injEq, List.cons.injEq, true_and, and_true] at hx
      obtain ⟨rfl, rfl, rfl, rfl, rfl, rfl, rfl, rfl, rfl, rfl, rfl, rfl, rfl, rfl, rfl, rfl, rfl, rfl, rfl, rfl⟩ := hx
      rfl
theorem glob_of_laid {W : World} (h : laidMetH Tryd.prog laid1 W) : globOk (outer W) := by
  rw [MakeChecks.laidMetH_plain _ _ _ (by kernel_rfl)] at h
  obtain ⟨ps, hL, _, _⟩ := h
  obtain ⟨g0, t0, cs0, f0, p0, hg0, ht0, hv0, hd0⟩ := laid_at hL ("loop.example/lapwing/impl.whatWords", Rows.laid_loop_example_lapwing_impl_whatWords) (by simp [laid1])
  obtain ⟨g1, t1, cs1, f1, p1, hg1, ht1, hv1, hd1⟩ := laid_at hL ("internal/strconv.uint64pow10", Rows.laid_internal_strconv_uint64pow10) (by simp [laid1])
  simp only at hg0 ht0 hv0 hd0 hg1 ht1 hv1 hd1
  obtain rfl := Option.some.inj (gT.symm.trans hg0)
  obtain rfl := Option.some.inj (tT.symm.trans ht0)
  obtain rfl := Option.some.inj (g6.symm.trans hg1)
  obtain rfl := Option.some.inj (t6.symm.trans ht1)
  obtain ⟨v, hc, hr⟩ := words_rel hd0
  have hp := pow_cells hd1
  obtain ⟨ty0, fz0, hh0⟩ := var_whole hg0 hv0
  obtain ⟨ty1, fz1, hh1⟩ := var_whole hg1 hv1
  have hcell0 := fun j => World.var?_cell hg0 hv0 j
  have hcell1 := fun j => World.var?_cell hg1 hv1 j
  intro g ls hg
  unfold gtab at hg
  split at hg
  · rename_i e
    subst e
    cases hg
    refine ⟨rfl, ok97 (lt_of_some hh0), cs0.toList, by rw [hc]; exact ⟨_, _, rfl, hr, rfl⟩, fun j c hj => ?_, ty0, fz0, by rw [Array.toArray_toList]; exact hh0⟩
    rw [Nat.zero_add]
    exact (hcell0 j).trans (by simpa using hj)
  · split at hg
    · rename_i e
      subst e
      cases hg
      refine ⟨rfl, ok97 (lt_of_some hh1), cs1.toList, by rw [hp]; exact rel_ints _, fun j c hj => ?_, ty1, fz1, by rw [Array.toArray_toList]; exact hh1⟩
      rw [Nat.zero_add]
      exact (hcell1 j).trans (by simpa using hj)
    · cases hg
set_option maxRecDepth 100000 in
theorem lifted3 (os : Os) (started : os.Started) (H : Type) (enc : TypeId × Value → H) :
    ReturnsInHanded {} Tryd.checked os 3 .any (fun w args => (Rows.fnExactPlanReadSpec.pre enc Tryd.prog Tryd.f3 [] false w args ∧ laidMetH Tryd.prog laid1 w) ∧ sizedMet enc Tryd.prog Tryd.f3 (OpenSpec.ofChange Rows.fnExactPlanReadSpec) false w args)
      (Rows.fnExactPlanReadSpec.post enc Tryd.prog Tryd.f3 false true false false) := by
  refine returnsInHanded_of_change_and (C := Tryd.checked) (X := fun w _ => laidMetH Tryd.prog laid1 w) (fun _ _ _ hh h => h.of_heap hh) own3 started (by kernel_rfl) Tryd.func3
    (ChangeSpec.witness_shaped (enc := enc) (C := Tryd.checked) (os := os) (X := fun w _ => laidMetH Tryd.prog laid1 w) false (World.laidAll Tryd.prog os laid1) #[.string ⟨#[]⟩] 8 (World.laidAll_os _ _ _)
      (World.shaped_of_ZipB (by kernel_rfl) (by kernel_rfl)) (by kernel_rfl) (by kernel_rfl) (by kernel_rfl)
      (by rw [MakeChecks.laidMetH_plain _ _ _ (by kernel_rfl)]; exact laidMet_laidAll _ (by kernel_rfl) (by kernel_rfl))) ?_
  intro W base args ds gs before hval hW _ _ hL _
  exact law_calls laidOut3 shapes3 (by kernel_rfl) (fun ds gs hd hg => by
    match ds, hd, gs, hg with
    | [d1], _, [g1], _ => rfl) (tb := 4) (by kernel_rfl) (by kernel_rfl) law3 W base args ds gs before (glob_of_laid hL) hval hW false true
theorem over3 : Rows.FnExactPlanReadSaid :=
  OpenClaim.holds_of_wide 3 Tryd.f3 rfl rfl rfl rfl rfl rfl rfl ⟨rfl, rfl, rfl, rfl, rfl⟩ rfl rfl rfl rfl rfl (by kernel_rfl) Tryd.func3 (by kernel_rfl)
    (of_decide_eq_true (by kernel_rfl)) (by unfold Func.isWrapper; first | (rw [if_pos (by decide +kernel)]; kernel_rfl) | (rw [if_neg (by decide +kernel)]; exact ⟨rfl, rfl⟩))
    (fun os started H enc _ => lifted3 os started H enc)
theorem proved : Rows.FnExactPlanReadCardSaid :=
  Claim7.holds_tied_plain_at .later [] [.data, .data, .data, .data, .sentinel, .sentinel, .widerDeep, .pinned] true (true, "c03f3a03201a07017c87296b3389787eacd64f44364db4db2b58a6e2f5b96f8d") true
    over3 (fun _ h => by cases h) (by kernel_rfl) (fun _ h => by cases h) fnExactPlanRead_row_tie rfl ⟨rfl, rfl⟩ (by kernel_rfl) rfl
    (fun f fn hf hfn => by
      obtain rfl : f = 3 := Option.some.inj ((show Tryd.prog.funcNamed "loop.example/lapwing/laws.FnExactPlanRead" = some 3 by kernel_rfl).symm.trans hf) |>.symm
      obtain rfl : fn = Tryd.f3 := (Option.some.inj (Tryd.func3.symm.trans hfn)).symm
      exact ⟨by kernel_rfl, fun j t ht => by
        have hall : (Tryd.f3.params.toList.all fun u => !Tryd.prog.wantsStandIn u) = true := by kernel_rfl
        have hm : t ∈ Tryd.f3.params.toList := by simpa using Array.mem_of_getElem? ht
        exact (show Tryd.prog.wantsStandIn t = false by simpa using List.all_eq_true.1 hall t hm)⟩)
    (by kernel_rfl)
#print axioms proved
end Go.Proofs.YtjoablppladgcaaDoor

