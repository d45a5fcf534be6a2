/- DiffThird: for every three lists of what is found the law returns true; the lists read behind as they read before. Of the package-level variables the table of letters is read, as the program's text lays it. -/
import Derived.Test.YtkbofkpkemfedaaDoorHThird3
import Derived.Test.YtkbofkpkemfedaaDoorRows
import Derived.Test.YtkbofkpkemfedaaDoorCards
import Derived.Test.YtkbofkpkemfedaaDoorTie
import Derived.ProofKit
import Derived.LaidMore
import Derived.OpenShut
import Derived.Stop.Joined
import Derived.SizedLaws
import Derived.Deep.SlicePairs
import Derived.Deep.Slices
import Derived.SliceStrings
import Derived.Lib.LaidU8
import Derived.Lay
import Derived.LaidOnce
import Derived.SevenTiedAt
namespace Go.Proofs.YtkbofkpkemfedaaDoor.diffThird
open Go.ChangeShapes Go.WideShapes Go.ChangeAt Go.RowKit Go.Deep
open Go.Proofs.YtkbofkpkemfedaaDoorW.PrintWords
theorem own : ownKnob Tryd.prog.godebug = none := by kernel_rfl
theorem laidOut : laidOutB Tryd.prog = true := by kernel_rfl
theorem gLetters : Tryd.prog.globalNamed "garret/diff.letters" = some 0 := by kernel_rfl
theorem tLetters : (Tryd.prog.globals[0]?).map (·.type) = some 52 := by kernel_rfl
/-- What the condition gives the walks: the six letters. -/
theorem letters_of {W : World} (h : laidMetH Tryd.prog Rows.diffThirdRow.laid W) : Q.Letters W := by
  rw [MakeChecks.laidMetH_plain _ _ _ (by kernel_rfl)] at h
  obtain ⟨g, t, cs, fuel, p, hg, ht, hv, hd⟩ := Lib.laidMet.reads (n := "garret/diff.letters") (d := Rows.laid_garret_diff_letters) h (by simp [Rows.diffThirdRow])
  obtain rfl := Option.some.inj (gLetters.symm.trans hg)
  obtain rfl := Option.some.inj (tLetters.symm.trans ht)
  have c9 : Tryd.prog.cellsOf 9 = 1 := by kernel_rfl
  obtain ⟨xs, m, _, hx, _, hlen, hel⟩ := DataW.trod_array Tryd.underlying52 hd
  simp only [Prod.mk.injEq] at hx
  have hx1 := hx.1
  unfold Rows.laid_garret_diff_letters at hx1
  injection hx1 with hx1
  have each : ∀ (i : Nat) (s : ByteArray), i < 6 → (xs.map (·.1))[i]? = some (.lit (.string s.data.toList)) → W.cell? ⟨0, i, none⟩ = some (.string s) := by
    intro i s hi hs
    have h1 := hel i hi
    rw [c9, Nat.mul_one] at h1
    rw [List.getElem?_map] at hs
    obtain ⟨y, hy, hys⟩ := Option.map_eq_some_iff.1 hs
    rw [hy] at h1
    obtain ⟨s', hs', hys', _⟩ := DataW.trod_string Tryd.underlying9 h1
    rw [hys'] at hys
    simp only [DataW.lit.injEq, Lit.string.injEq] at hys
    have e : s' = s := by
      cases s'; cases s
      simp only [ByteArray.mk.injEq]
      exact Array.toList_inj.1 hys
    subst e
    rw [World.var?_cell hg hv i]
    have h2 : cs.toList[i]? = some (.string s') := by
      have h3 := congrArg (·[0]?) hs'
      simpa [List.getElem?_take, List.getElem?_drop] using h3
    simpa using h2
  rw [← hx1] at each
  exact ⟨each 0 ⟨#[63]⟩ (by decide) rfl, each 1 ⟨#[43]⟩ (by decide) rfl, each 2 ⟨#[45]⟩ (by decide) rfl, each 3 ⟨#[77]⟩ (by decide) rfl, each 4 ⟨#[84]⟩ (by decide) rfl, each 5 ⟨#[85]⟩ (by decide) rfl⟩
theorem len10 {α : Type} : ∀ (l : List α), l.length = 10 → ∃ a0 a1 a2 a3 a4 a5 a6 a7 a8 a9, l = [a0, a1, a2, a3, a4, a5, a6, a7, a8, a9]
  | [a0, a1, a2, a3, a4, a5, a6, a7, a8, a9], _ => ⟨a0, a1, a2, a3, a4, a5, a6, a7, a8, a9, rfl⟩
section
variable {H : Type} {enc : TypeId × Value → H} {w : World} {base : Nat} {spare : Nat → Bool} {held : Bool}
theorem some_of {α : Type} {xs : List α} {n i : Nat} (h : xs.length = n) (hi : i < n) : ∃ y, xs[i]? = some y := ⟨xs[i], List.getElem?_eq_getElem (by omega)⟩
/-- A list of ids that came in. -/
theorem ids_of {n : Nat} {v : Value} {y : DataW H × List MemPlace} (h : DataW.trod enc Tryd.prog w base spare held n 40 [v] = some y) :
    ∃ (A : Option Addr) (m c : Nat) (ids : List ByteArray), v = .slice A m c ∧ Kd.C Kd.string w A m ids ∧ m ≤ c := by
  have c9 : Tryd.prog.cellsOf 9 = 1 := by kernel_rfl
  rcases open_strings Tryd.underlying40 Tryd.underlying9 c9 h with ⟨hc, _⟩ | ⟨a, len, cap, ss, hc, _, hl, hm, hss, _, hcell, _⟩
  · simp only [List.cons.injEq, and_true] at hc
    exact ⟨none, 0, 0, [], hc, Kd.C_nil Kd.string w, Nat.le_refl _⟩
  · simp only [List.cons.injEq, and_true] at hc
    have hls : len ≤ ss.length := by rw [hss]; split <;> omega
    refine ⟨some a, len, cap, ss.take len, hc, ⟨by rw [List.length_take]; omega, by unfold maxLen at hm; omega, fun _ => ⟨a, rfl, fun j q hj => ⟨[.string q], rfl, rfl, fun i u hu => ?_⟩⟩⟩, hl⟩
    have hjl := (List.getElem?_eq_some_iff.1 hj).1
    rw [List.length_take] at hjl
    match i, hu with
    | 0, hu =>
      simp only [List.getElem?_cons_zero, Option.some.injEq] at hu
      subst hu
      have h1 := hcell j (by omega)
      rw [List.getElem?_take, if_pos (by omega)] at hj
      rw [List.getD_eq_getElem?_getD, hj] at h1
      show w.cell? (a.add (j * 1 + 0)) = _
      rw [Nat.mul_one, Nat.add_zero]
      exact h1
/-- One that is found. -/
theorem el_found {n : Nat} {cs : List Value} {y : DataW H × List MemPlace} (h : DataW.trod enc Tryd.prog w base spare held n 48 cs = some y) : ∃ x : Q.F, cs = Q.encF x ∧ Q.Rd w x := by
  have c48 : Tryd.prog.cellsOf 48 = 10 := by kernel_rfl
  have c45 : Tryd.prog.cellsOf 45 = 9 := by kernel_rfl
  have c40 : Tryd.prog.cellsOf 40 = 1 := by kernel_rfl
  have c9 : Tryd.prog.cellsOf 9 = 1 := by kernel_rfl
  have c3 : Tryd.prog.cellsOf 3 = 1 := by kernel_rfl
  obtain ⟨xs, m, _, _, hl, hxl, hf⟩ := DataW.trod_struct Tryd.underlying48 h
  rw [c48] at hl
  obtain ⟨v0, v1, v2, v3, v4, v5, v6, v7, v8, v9, rfl⟩ := len10 cs hl
  obtain ⟨y0, hy0⟩ := some_of (i := 0) hxl (by decide)
  obtain ⟨y1, hy1⟩ := some_of (i := 1) hxl (by decide)
  have h0 : DataW.trod enc Tryd.prog w base spare held m 9 (([v0, v1, v2, v3, v4, v5, v6, v7, v8, v9].drop 0).take (Tryd.prog.cellsOf 9)) = some y0 := (hf 0 _ rfl).trans hy0
  have h1 : DataW.trod enc Tryd.prog w base spare held m 45 (([v0, v1, v2, v3, v4, v5, v6, v7, v8, v9].drop 1).take (Tryd.prog.cellsOf 45)) = some y1 := (hf 1 _ rfl).trans hy1
  rw [c9] at h0
  rw [c45] at h1
  obtain ⟨zs, m2, _, _, _, hzl, hg⟩ := DataW.trod_struct Tryd.underlying45 h1
  have st : ∀ {k : Nat} {v : Value} {y : DataW H × List MemPlace}, DataW.trod enc Tryd.prog w base spare held k 9 [v] = some y → ∃ s : ByteArray, v = .string s := fun {k v y} ht => by
    obtain ⟨s, e, _⟩ := DataW.trod_string Tryd.underlying9 ht
    simp only [List.cons.injEq, and_true] at e
    exact ⟨s, e⟩
  have it : ∀ {k : Nat} {v : Value} {y : DataW H × List MemPlace}, DataW.trod enc Tryd.prog w base spare held k 3 [v] = some y → ∃ z : Int, v = .int .i64 z := fun {k v y} ht => by
    obtain ⟨s, e, _⟩ := DataW.trod_int Tryd.underlying3 ht
    simp only [List.cons.injEq, and_true] at e
    exact ⟨s, e⟩
  obtain ⟨z0, hz0⟩ := some_of (i := 0) hzl (by decide)
  obtain ⟨z1, hz1⟩ := some_of (i := 1) hzl (by decide)
  obtain ⟨z2, hz2⟩ := some_of (i := 2) hzl (by decide)
  obtain ⟨z3, hz3⟩ := some_of (i := 3) hzl (by decide)
  obtain ⟨z4, hz4⟩ := some_of (i := 4) hzl (by decide)
  obtain ⟨z5, hz5⟩ := some_of (i := 5) hzl (by decide)
  obtain ⟨z6, hz6⟩ := some_of (i := 6) hzl (by decide)
  obtain ⟨z7, hz7⟩ := some_of (i := 7) hzl (by decide)
  obtain ⟨z8, hz8⟩ := some_of (i := 8) hzl (by decide)
  have g0 : DataW.trod enc Tryd.prog w base spare held m2 9 (([v1, v2, v3, v4, v5, v6, v7, v8, v9].drop 0).take (Tryd.prog.cellsOf 9)) = some z0 := (hg 0 _ rfl).trans hz0
  have g1 : DataW.trod enc Tryd.prog w base spare held m2 3 (([v1, v2, v3, v4, v5, v6, v7, v8, v9].drop 1).take (Tryd.prog.cellsOf 3)) = some z1 := (hg 1 _ rfl).trans hz1
  have g2 : DataW.trod enc Tryd.prog w base spare held m2 3 (([v1, v2, v3, v4, v5, v6, v7, v8, v9].drop 2).take (Tryd.prog.cellsOf 3)) = some z2 := (hg 2 _ rfl).trans hz2
  have g3 : DataW.trod enc Tryd.prog w base spare held m2 3 (([v1, v2, v3, v4, v5, v6, v7, v8, v9].drop 3).take (Tryd.prog.cellsOf 3)) = some z3 := (hg 3 _ rfl).trans hz3
  have g4 : DataW.trod enc Tryd.prog w base spare held m2 3 (([v1, v2, v3, v4, v5, v6, v7, v8, v9].drop 4).take (Tryd.prog.cellsOf 3)) = some z4 := (hg 4 _ rfl).trans hz4
  have g5 : DataW.trod enc Tryd.prog w base spare held m2 3 (([v1, v2, v3, v4, v5, v6, v7, v8, v9].drop 5).take (Tryd.prog.cellsOf 3)) = some z5 := (hg 5 _ rfl).trans hz5
  have g6 : DataW.trod enc Tryd.prog w base spare held m2 40 (([v1, v2, v3, v4, v5, v6, v7, v8, v9].drop 6).take (Tryd.prog.cellsOf 40)) = some z6 := (hg 6 _ rfl).trans hz6
  have g7 : DataW.trod enc Tryd.prog w base spare held m2 9 (([v1, v2, v3, v4, v5, v6, v7, v8, v9].drop 7).take (Tryd.prog.cellsOf 9)) = some z7 := (hg 7 _ rfl).trans hz7
  have g8 : DataW.trod enc Tryd.prog w base spare held m2 9 (([v1, v2, v3, v4, v5, v6, v7, v8, v9].drop 8).take (Tryd.prog.cellsOf 9)) = some z8 := (hg 8 _ rfl).trans hz8
  rw [c9] at g0 g7 g8
  rw [c3] at g1 g2 g3 g4 g5
  rw [c40] at g6
  obtain ⟨s0, rfl⟩ := st h0
  obtain ⟨s1, rfl⟩ := st g0
  obtain ⟨i2, rfl⟩ := it g1
  obtain ⟨i3, rfl⟩ := it g2
  obtain ⟨i4, rfl⟩ := it g3
  obtain ⟨i5, rfl⟩ := it g4
  obtain ⟨i6, rfl⟩ := it g5
  obtain ⟨A, k, c, ids, rfl, hC, hkc⟩ := ids_of g6
  obtain ⟨s8, rfl⟩ := st g7
  obtain ⟨s9, rfl⟩ := st g8
  exact ⟨⟨s0, s1, i2, i3, i4, i5, i6, A, k, c, s8, s9, ids⟩, rfl, hC, hkc⟩
/-- A list of what is found that came in. -/
theorem open_found {v : Value} {d : DataW H} {p : List MemPlace} {r : Reach} {b0 : Nat} (hv : Value.okWide Tryd.prog w r b0 22 v) (h : DataW.Trod enc Tryd.prog w base spare held 22 v d p) :
    ∃ (A : Option Addr) (c : Nat) (l : List Q.F), v = .slice A l.length c ∧ Kd.C Q.kF w A l.length l ∧ (∀ x ∈ l, Q.Rd w x) ∧ l.length ≤ 9223372036854775807 := by
  obtain ⟨A, n, c, rfl⟩ := okWide_slice Tryd.underlying22 hv
  obtain ⟨fuel, hf⟩ := h
  have c48 : Tryd.prog.cellsOf 48 = 10 := by kernel_rfl
  rcases open_slice Tryd.underlying22 hf with ⟨hc, hx⟩ | ⟨a, len, cap, m, k, D, P, hcs, _, hl, hm, hmm, hx, hcell⟩
  · simp only [Value.cells, List.cons.injEq, Value.slice.injEq, and_true] at hc
    obtain ⟨rfl, rfl, rfl⟩ := hc
    exact ⟨none, 0, [], rfl, Kd.C_nil Q.kF w, by simp, by simp⟩
  · simp only [Value.cells, List.cons.injEq, Value.slice.injEq, and_true] at hcs
    obtain ⟨rfl, rfl, rfl⟩ := hcs
    have hlm : n ≤ m := by rw [hmm]; split <;> omega
    have each : ∀ i, i < n → ∃ x : Q.F, (∀ j u, (Q.encF x)[j]? = some u → w.cell? (a.add (i * 10 + j)) = some u) ∧ Q.Rd w x := by
      intro i hi
      obtain ⟨cs, hc, ht⟩ := hcell i (by omega)
      obtain ⟨x, rfl, hR⟩ := el_found ht
      refine ⟨x, fun j u hu => ?_, hR⟩
      rw [c48] at hc
      obtain ⟨_, _, hat⟩ := World.cells?_some hc
      have hj : j < 10 := by have := (List.getElem?_eq_some_iff.1 hu).1; simpa [Q.encF] using this
      rw [← Go.Deep.add_add, hat j hj, hu]
    obtain ⟨X, hX⟩ : ∃ X : Nat → Q.F, ∀ i, i < n → (∀ j u, (Q.encF (X i))[j]? = some u → w.cell? (a.add (i * 10 + j)) = some u) ∧ Q.Rd w (X i) := ⟨fun i => if hi : i < n then (each i hi).choose else ⟨⟨#[]⟩, ⟨#[]⟩, 0, 0, 0, 0, 0, none, 0, 0, ⟨#[]⟩, ⟨#[]⟩, []⟩, fun i hi => by simp only [dif_pos hi]; exact (each i hi).choose_spec⟩
    have hln : ((List.range n).map X).length = n := by rw [List.length_map, List.length_range]
    refine ⟨some a, c, (List.range n).map X, by rw [hln], ?_, ?_, by rw [hln]; unfold maxLen at hm; omega⟩
    · rw [hln]
      refine ⟨hln, by unfold maxLen at hm; omega, fun _ => ⟨a, rfl, fun j q hj => ?_⟩⟩
      have hjn : j < n := by
        have := (List.getElem?_eq_some_iff.1 hj).1
        omega
      rw [List.getElem?_map, List.getElem?_range hjn] at hj
      simp only [Option.map_some, Option.some.injEq] at hj
      subst hj
      exact ⟨Q.encF (X j), rfl, rfl, (hX j hjn).1⟩
    · intro x hxm
      obtain ⟨i, hi, rfl⟩ := List.mem_map.1 hxm
      exact (hX i (List.mem_range.1 hi)).2
end
set_option maxRecDepth 100000 in
theorem lifted (os : Os) (started : os.Started) (H : Type) (enc : TypeId × Value → H) :
    ReturnsInHanded {} Tryd.checked os 3 .any (fun w args => (Rows.diffThirdSpec.pre enc Tryd.prog Tryd.f3 [] false w args ∧ laidMetH Tryd.prog Rows.diffThirdRow.laid w) ∧ sizedMet enc Tryd.prog Tryd.f3 (OpenSpec.ofChange Rows.diffThirdSpec) false w args)
      (Rows.diffThirdSpec.post enc Tryd.prog Tryd.f3 false true false false) := by
  refine returnsInHanded_of_change_and (C := Tryd.checked) (X := fun w _ => laidMetH Tryd.prog Rows.diffThirdRow.laid w) (fun _ _ _ hh h => h.of_heap hh) own started (by kernel_rfl) Tryd.func3
    (ChangeSpec.witness_shaped (enc := enc) (C := Tryd.checked) (os := os) (X := fun w _ => laidMetH Tryd.prog Rows.diffThirdRow.laid w) false (World.laidAll Tryd.prog os Rows.diffThirdRow.laid) #[.slice none 0 0, .slice none 0 0, .slice none 0 0] 8 (World.laidAll_os _ _ _)
      (World.shaped_of_ZipB (by kernel_rfl) (by kernel_rfl)) (by kernel_rfl) (by kernel_rfl) (by kernel_rfl)
      (by rw [MakeChecks.laidMetH_plain _ _ _ (by kernel_rfl)]; exact laidMet_laidAll _ (by kernel_rfl) (by kernel_rfl))) ?_
  intro W base args ds gs before hval0 hW _ hsz0 hL _
  have hval : ∀ (j : Nat) t v, Tryd.f3.params[j]? = some t → args[j]? = some v → Value.okWide Tryd.prog W .any base t v := hval0
  have hW' := hW
  obtain ⟨p, q, hA0, hV, rfl, _, _⟩ := hW
  have hA : DataW.TrodAll enc Tryd.prog W 0 (fun _ => true) true Tryd.f3.params.toList args.toList ds p := hA0
  rw [Tryd.params3] at hA hval
  obtain ⟨v0, v1, v2, d0, d1, d2, p0, p1, p2, rfl, rfl, rfl, h0, h1, h2⟩ := trodAll_three hA
  obtain ⟨rfl, rfl⟩ := trodVars_none hV
  have hlt : ∀ x ∈ p0 ++ p1 ++ p2, x.block < W.heap.size := fun x hx => by simpa using hW'.lt x (by simpa using hx)
  have h0k := h0
  have h1k := h1
  have h2k := h2
  obtain ⟨A0, c0, l0, rfl, hC0, hD0, hM0⟩ := open_found (hval 0 22 v0 rfl rfl) h0
  obtain ⟨A1, c1, l1, rfl, hC1, hD1, hM1⟩ := open_found (hval 1 22 v1 rfl rfl) h1
  obtain ⟨A2, c2, l2, rfl, hC2, hD2, hM2⟩ := open_found (hval 2 22 v2 rfl rfl) h2
  simp only [List.append_nil] at hW'
  refine (Q.third_calls A0 c0 l0 A1 c1 l1 A2 c2 l2 W hC0 hC1 hC2 hD0 hD1 hD2 hM0 hM1 hM2 (letters_of hL)).mono fun e W' ⟨he, hb⟩ => ?_
  subst he
  exact ⟨_, rfl, _, _, _, [], _, [], hW', trodAll_mk1 (shut_bool Tryd.underlying4 _), trodAll_mk3 (Below.trod laidOut (by kernel_rfl) (of_decide_eq_true (by kernel_rfl)) h0k hb (fun x hx => hlt x (by simp [hx]))) (Below.trod laidOut (by kernel_rfl) (of_decide_eq_true (by kernel_rfl)) h1k hb (fun x hx => hlt x (by simp [hx]))) (Below.trod laidOut (by kernel_rfl) (of_decide_eq_true (by kernel_rfl)) h2k hb (fun x hx => hlt x (by simp [hx]))), rfl, hb.frame _, fun h => by cases h⟩
theorem holds : Rows.DiffThirdSaid :=
  OpenClaim.holds_of_wide 3 Tryd.f3 rfl rfl rfl rfl rfl rfl rfl ⟨rfl, rfl, rfl, rfl, rfl⟩ rfl rfl rfl rfl rfl (by kernel_rfl) Tryd.func3 (by kernel_rfl)
    (of_decide_eq_true (by kernel_rfl)) (by unfold Func.isWrapper; first | (rw [if_pos (by decide +kernel)]; kernel_rfl) | (rw [if_neg (by decide +kernel)]; exact ⟨rfl, rfl⟩))
    (fun os started H enc _ => lifted os started H enc)
theorem card_holds : Rows.DiffThirdCardSaid :=
  Claim7.holds_tied_plain_at .later [] [.data, .data, .pinned] true (true, "0f255b3a645efe13e3e73a1f3a5a58d619276273c9ad0125a11de032fc28a9be") false holds (fun _ h => by cases h) (by kernel_rfl) (fun _ h => by cases h) diffThird_row_tie rfl ⟨rfl, rfl⟩ (by kernel_rfl) rfl
    (fun f fn hf hfn => by
      obtain rfl : f = 3 := Option.some.inj ((show Tryd.prog.funcNamed "garret/garretlaw27.DiffThird" = some 3 by kernel_rfl).symm.trans hf) |>.symm
      obtain rfl : fn = Tryd.f3 := (Option.some.inj (Tryd.func3.symm.trans hfn)).symm
      exact ⟨by kernel_rfl, fun j t ht => by
        rw [Tryd.params3] at ht
        have hm : t ∈ [22, 22, 22] := by simpa using Array.mem_of_getElem? ht
        have hall : ([22, 22, 22].all fun u => !Tryd.prog.wantsStandIn u) = true := by kernel_rfl
        exact (show Tryd.prog.wantsStandIn t = false by simpa using List.all_eq_true.1 hall t hm)⟩)
    (by kernel_rfl)
#print axioms card_holds
end Go.Proofs.YtkbofkpkemfedaaDoor.diffThird
namespace Go.Proofs.YtkbofkpkemfedaaDoor
/-- The card, under a short name, for the claim. -/
theorem diffThird_card_holds : Rows.DiffThirdCardSaid := diffThird.card_holds
end Go.Proofs.YtkbofkpkemfedaaDoor
