/- DiffTexts: for every list of changes the law returns true; the list reads behind as it read before. Of the package-level variables the table of letters is read, as the program's text lays it. -/
import Derived.Test.YtkbofkpkemfedaaDoorHLaw
import Derived.Test.YtkbofkpkemfedaaDoorRows
import Derived.Test.YtkbofkpkemfedaaDoorCards
import Derived.Test.YtkbofkpkemfedaaDoorTie
import Derived.ProofKit
import Derived.LaidMore
import Derived.OpenShut
import Derived.Stop.Joined
import Derived.SizedLaws
import Derived.Deep.SlicePairs
import Derived.Lib.LaidU8
import Derived.Lay
import Derived.LaidOnce
import Derived.SevenTiedAt
namespace Go.Proofs.YtkbofkpkemfedaaDoor.diffTexts
open Go.ChangeShapes Go.WideShapes Go.ChangeAt Go.RowKit Go.Deep
open Go.Proofs.YtkbofkpkemfedaaDoorW.PrintWords
theorem own : ownKnob Tryd.prog.godebug = none := by kernel_rfl
theorem laidOut : laidOutB Tryd.prog = true := by kernel_rfl
theorem gLetters : Tryd.prog.globalNamed "garret/diff.letters" = some 0 := by kernel_rfl
theorem tLetters : (Tryd.prog.globals[0]?).map (·.type) = some 52 := by kernel_rfl
/-- What the condition gives the walks: the six letters. -/
theorem letters_of {W : World} (h : laidMetH Tryd.prog Rows.diffTextsRow.laid W) : Q.Letters W := by
  rw [MakeChecks.laidMetH_plain _ _ _ (by kernel_rfl)] at h
  obtain ⟨g, t, cs, fuel, p, hg, ht, hv, hd⟩ := Lib.laidMet.reads (n := "garret/diff.letters") (d := Rows.laid_garret_diff_letters) h (by simp [Rows.diffTextsRow])
  obtain rfl := Option.some.inj (gLetters.symm.trans hg)
  obtain rfl := Option.some.inj (tLetters.symm.trans ht)
  have c9 : Tryd.prog.cellsOf 9 = 1 := by kernel_rfl
  obtain ⟨xs, m, _, hx, _, hlen, hel⟩ := DataW.trod_array Tryd.underlying52 hd
  simp only [Prod.mk.injEq] at hx
  have hx1 := hx.1
  unfold Rows.laid_garret_diff_letters at hx1
  injection hx1 with hx1
  have each : ∀ (i : Nat) (s : ByteArray), i < 6 → (xs.map (·.1))[i]? = some (.lit (.string s.data.toList)) → W.cell? ⟨0, i, none⟩ = some (.string s) := by
    intro i s hi hs
    have h1 := hel i hi
    rw [c9, Nat.mul_one] at h1
    rw [List.getElem?_map] at hs
    obtain ⟨y, hy, hys⟩ := Option.map_eq_some_iff.1 hs
    rw [hy] at h1
    obtain ⟨s', hs', hys', _⟩ := DataW.trod_string Tryd.underlying9 h1
    rw [hys'] at hys
    simp only [DataW.lit.injEq, Lit.string.injEq] at hys
    have e : s' = s := by
      cases s'; cases s
      simp only [ByteArray.mk.injEq]
      exact Array.toList_inj.1 hys
    subst e
    rw [World.var?_cell hg hv i]
    have h2 : cs.toList[i]? = some (.string s') := by
      have h3 := congrArg (·[0]?) hs'
      simpa [List.getElem?_take, List.getElem?_drop] using h3
    simpa using h2
  rw [← hx1] at each
  exact ⟨each 0 ⟨#[63]⟩ (by decide) rfl, each 1 ⟨#[43]⟩ (by decide) rfl, each 2 ⟨#[45]⟩ (by decide) rfl, each 3 ⟨#[77]⟩ (by decide) rfl, each 4 ⟨#[84]⟩ (by decide) rfl, each 5 ⟨#[85]⟩ (by decide) rfl⟩
theorem weights_mem_all {H : Type} {P : Program} {e : TypeId} : ∀ {ds : List (DataW H)} {d : DataW H}, d ∈ ds → ∀ n ∈ d.weights P e, n ∈ DataW.weightsAll P e ds
  | d0 :: r, d, hm, n, hn => by
    simp only [DataW.weightsAll, List.mem_append]
    rcases List.mem_cons.1 hm with rfl | hm
    · exact .inl hn
    · exact .inr (weights_mem_all hm n hn)
section
variable {H : Type} {enc : TypeId × Value → H} {w : World} {base : Nat} {spare : Nat → Bool} {held : Bool}
/-- A list of changes that came in. -/
theorem open_changes {v : Value} {d : DataW H} {p : List MemPlace} {r : Reach} {b0 : Nat} (hv : Value.okWide Tryd.prog w r b0 29 v) (h : DataW.Trod enc Tryd.prog w base spare held 29 v d p)
    (hs : (DataW.weights Tryd.prog 29 d).all (· ≤ reachBytes) = true) :
    ∃ (A : Option Addr) (c : Nat) (l : List Q.S32), v = .slice A l.length c ∧ l.length ≤ c ∧ Kd.C Q.k32 w A l.length l ∧ ∀ x ∈ l, x.f0.size ≤ 140737488355328 := by
  obtain ⟨A, n, c, rfl⟩ := okWide_slice Tryd.underlying29 hv
  obtain ⟨fuel, hf⟩ := h
  have ce : Tryd.prog.cellsOf 32 = 2 := by kernel_rfl
  have c9 : Tryd.prog.cellsOf 9 = 1 := by kernel_rfl
  have c3 : Tryd.prog.cellsOf 3 = 1 := by kernel_rfl
  rcases open_slice_pairs Tryd.underlying29 Tryd.underlying32 ce rfl rfl c9 c3 hf with ⟨hc, hx⟩ | ⟨a, len, cap, m, k, V0, V1, D0, D1, P0, P1, hcs, _, hl, hm, hmm, hx, hcell⟩
  · simp only [Value.cells, List.cons.injEq, Value.slice.injEq, and_true] at hc
    obtain ⟨rfl, rfl, rfl⟩ := hc
    exact ⟨none, 0, [], rfl, Nat.le_refl _, Kd.C_nil Q.k32 w, by simp⟩
  · simp only [Value.cells, List.cons.injEq, Value.slice.injEq, and_true] at hcs
    obtain ⟨rfl, rfl, rfl⟩ := hcs
    have hlm : n ≤ m := by rw [hmm]; split <;> omega
    simp only [Prod.mk.injEq] at hx
    have each : ∀ i, i < n → ∃ x : Q.S32, V0 i = .string x.f0 ∧ V1 i = .int .i64 x.f1 ∧ D0 i = .lit (.string x.f0.data.toList) := by
      intro i hi
      obtain ⟨_, _, t0, t1⟩ := hcell i (by omega)
      obtain ⟨s, h1, h2, _⟩ := DataW.trod_string Tryd.underlying9 t0
      obtain ⟨z, h3, _, _⟩ := DataW.trod_int Tryd.underlying3 t1
      simp only [List.cons.injEq, and_true, Prod.mk.injEq] at h1 h2 h3
      exact ⟨⟨s, z⟩, h1, h3, h2.1⟩
    obtain ⟨X, hX⟩ : ∃ X : Nat → Q.S32, ∀ i, i < n → V0 i = .string (X i).f0 ∧ V1 i = .int .i64 (X i).f1 ∧ D0 i = .lit (.string (X i).f0.data.toList) := ⟨fun i => if hi : i < n then (each i hi).choose else Q.z32, fun i hi => by simp only [dif_pos hi]; exact (each i hi).choose_spec⟩
    have hln : ((List.range n).map X).length = n := by rw [List.length_map, List.length_range]
    refine ⟨some a, c, (List.range n).map X, by rw [hln], by rw [hln]; exact hl, ?_, ?_⟩
    · rw [hln]
      refine ⟨hln, by unfold maxLen at hm; omega, fun _ => ⟨a, rfl, fun j q hj => ?_⟩⟩
      have hjn : j < n := by
        have := (List.getElem?_eq_some_iff.1 hj).1
        omega
      rw [List.getElem?_map, List.getElem?_range hjn] at hj
      simp only [Option.map_some, Option.some.injEq] at hj
      subst hj
      obtain ⟨e0, e1, _⟩ := hX j hjn
      obtain ⟨g0, g1, _, _⟩ := hcell j (by omega)
      refine ⟨[.string (X j).f0, .int .i64 (X j).f1], rfl, Q.k32_mk w (X j), fun i u hu => ?_⟩
      match i, hu with
      | 0, hu =>
        simp only [List.getElem?_cons_zero, Option.some.injEq] at hu
        subst hu
        rw [← e0]; exact g0
      | 1, hu =>
        simp only [List.getElem?_cons_succ, List.getElem?_cons_zero, Option.some.injEq] at hu
        subst hu
        rw [← e1]; exact g1
    · intro x hxm
      obtain ⟨i, hi, rfl⟩ := List.mem_map.1 hxm
      have hin := List.mem_range.1 hi
      obtain ⟨_, _, e2⟩ := hX i hin
      have hw := List.all_eq_true.1 hs (X i).f0.data.toList.length (by
        rw [hx.1]
        simp only [DataW.weights, Tryd.underlying29, List.mem_cons, List.mem_append]
        refine .inr (.inl (weights_mem_all (d := .agg [D0 i, D1 i]) (List.mem_map.2 ⟨i, hi, rfl⟩) _ ?_))
        simp only [DataW.weights, Tryd.underlying32]
        simp [DataW.weightsEach, e2, DataW.weights])
      have hw2 : (X i).f0.data.toList.length ≤ reachBytes := by simpa using hw
      unfold reachBytes at hw2
      rw [Array.length_toList] at hw2
      have : (X i).f0.size = (X i).f0.data.size := rfl
      omega
end
set_option maxRecDepth 100000 in
theorem lifted (os : Os) (started : os.Started) (H : Type) (enc : TypeId × Value → H) :
    ReturnsInHanded {} Tryd.checked os 4 .any (fun w args => (Rows.diffTextsSpec.pre enc Tryd.prog Tryd.f4 [] false w args ∧ laidMetH Tryd.prog Rows.diffTextsRow.laid w) ∧ sizedMet enc Tryd.prog Tryd.f4 (OpenSpec.ofChange Rows.diffTextsSpec) false w args)
      (Rows.diffTextsSpec.post enc Tryd.prog Tryd.f4 false true false false) := by
  refine returnsInHanded_of_change_and (C := Tryd.checked) (X := fun w _ => laidMetH Tryd.prog Rows.diffTextsRow.laid w) (fun _ _ _ hh h => h.of_heap hh) own started (by kernel_rfl) Tryd.func4
    (ChangeSpec.witness_shaped (enc := enc) (C := Tryd.checked) (os := os) (X := fun w _ => laidMetH Tryd.prog Rows.diffTextsRow.laid w) false (World.laidAll Tryd.prog os Rows.diffTextsRow.laid) #[.slice none 0 0] 8 (World.laidAll_os _ _ _)
      (World.shaped_of_ZipB (by kernel_rfl) (by kernel_rfl)) (by kernel_rfl) (by kernel_rfl) (by kernel_rfl)
      (by rw [MakeChecks.laidMetH_plain _ _ _ (by kernel_rfl)]; exact laidMet_laidAll _ (by kernel_rfl) (by kernel_rfl))) ?_
  intro W base args ds gs before hval0 hW _ hsz0 hL _
  have hval : ∀ (j : Nat) t v, Tryd.f4.params[j]? = some t → args[j]? = some v → Value.okWide Tryd.prog W .any base t v := hval0
  have hsz : (DataW.weightsEach Tryd.prog (Tryd.f4.params.toList ++ Rows.diffTextsSpec.plain.varTypes Tryd.prog) (ds ++ gs)).all (· ≤ reachBytes) = true := hsz0
  have hW' := hW
  obtain ⟨p, q, hA0, hV, rfl, _, _⟩ := hW
  have hA : DataW.TrodAll enc Tryd.prog W 0 (fun _ => true) true Tryd.f4.params.toList args.toList ds p := hA0
  rw [Tryd.params4] at hA hval hsz
  obtain ⟨v0, d0, rfl, rfl, h0⟩ := trodAll_one hA
  obtain ⟨rfl, rfl⟩ := trodVars_none hV
  have h0k := h0
  have hlt : ∀ x ∈ p, x.block < W.heap.size := fun x hx => by simpa using hW'.lt x (by simpa using hx)
  have hsd : (DataW.weights Tryd.prog 29 d0).all (· ≤ reachBytes) = true := by
    rw [List.all_eq_true] at hsz ⊢
    exact fun n hn => hsz n (DataW.weights_mem_each (j := 0) (t := 29) (d := d0) rfl rfl n hn)
  obtain ⟨A, c, l, rfl, hc, hC, hz⟩ := open_changes (hval 0 29 v0 rfl rfl) h0 hsd
  simp only [List.append_nil] at hW'
  refine (Q.law_calls A c l W hC hc (letters_of hL) hz).mono fun e W' ⟨he, hb⟩ => ?_
  subst he
  exact ⟨_, rfl, _, _, _, [], _, [], hW', trodAll_mk1 (shut_bool Tryd.underlying4 _), trodAll_mk1 (Below.trod laidOut (by kernel_rfl) (of_decide_eq_true (by kernel_rfl)) h0k hb hlt), rfl, hb.frame _, fun h => by cases h⟩
theorem holds : Rows.DiffTextsSaid :=
  OpenClaim.holds_of_wide 4 Tryd.f4 rfl rfl rfl rfl rfl rfl rfl ⟨rfl, rfl, rfl, rfl, rfl⟩ rfl rfl rfl rfl rfl (by kernel_rfl) Tryd.func4 (by kernel_rfl)
    (of_decide_eq_true (by kernel_rfl)) (by unfold Func.isWrapper; first | (rw [if_pos (by decide +kernel)]; kernel_rfl) | (rw [if_neg (by decide +kernel)]; exact ⟨rfl, rfl⟩))
    (fun os started H enc _ => lifted os started H enc)
theorem card_holds : Rows.DiffTextsCardSaid :=
  Claim7.holds_tied_plain_at .later [] [.data, .data, .pinned] true (true, "0f255b3a645efe13e3e73a1f3a5a58d619276273c9ad0125a11de032fc28a9be") false holds (fun _ h => by cases h) (by kernel_rfl) (fun _ h => by cases h) diffTexts_row_tie rfl ⟨rfl, rfl⟩ (by kernel_rfl) rfl
    (fun f fn hf hfn => by
      obtain rfl : f = 4 := Option.some.inj ((show Tryd.prog.funcNamed "garret/garretlaw27.DiffTexts" = some 4 by kernel_rfl).symm.trans hf) |>.symm
      obtain rfl : fn = Tryd.f4 := (Option.some.inj (Tryd.func4.symm.trans hfn)).symm
      exact ⟨by kernel_rfl, fun j t ht => by
        rw [Tryd.params4] at ht
        have hm : t ∈ [29] := by simpa using Array.mem_of_getElem? ht
        have hall : ([29].all fun u => !Tryd.prog.wantsStandIn u) = true := by kernel_rfl
        exact (show Tryd.prog.wantsStandIn t = false by simpa using List.all_eq_true.1 hall t hm)⟩)
    (by kernel_rfl)
#print axioms card_holds
end Go.Proofs.YtkbofkpkemfedaaDoor.diffTexts
namespace Go.Proofs.YtkbofkpkemfedaaDoor
/-- The card, under a short name, for the claim. -/
theorem diffTexts_card_holds : Rows.DiffTextsCardSaid := diffTexts.card_holds
end Go.Proofs.YtkbofkpkemfedaaDoor
