/- path.Less at "a" and "a": its callees walked at these texts. -/
import Derived.Test.YtkbofkpkemfedaaDoorQx25
import Derived.Test.YtkbofkpkemfedaaDoorQx2
import Derived.Laws.Externs
import Derived.Lib.Bytealg
import Derived.Laws.Cover1
import Derived.LoopN


namespace Go.Proofs.YtkbofkpkemfedaaDoor.Q
open Go.RowKit Go.Proofs.YtkbofkpkemfedaaDoorW.PrintWords Go.Proofs.YtkbofkpkemfedaaDoorW.PrintLast Go.Proofs.YtkbofkpkemfedaaDoorW.PrintMore
attribute [local go_sem] max2_int min2_int max_two min_two max_three min_three max_four min_four
set_option maxHeartbeats 1000000 in
set_option maxRecDepth 100000 in
/-- How often "/" stands in "a". -/
theorem count_calls (w : World) : Calls Tryd.prog 26 #[.string ⟨#[97]⟩, .string ⟨#[47]⟩] w fun e w' => e = .returned (.int .i64 0) ∧ w' = w := by
  go_enter Tryd.func26, Tryd.ntmps26
  go_wp2
  rw [run_callFunc_extern Tryd.func30 (by kernel_rfl) (by kernel_rfl) (by kernel_rfl) (e := Extern.BytealgCount.count) (by kernel_rfl), Lib.run_countString]
  simp only [Result.andThen]
  rw [Oper.upon_value]
  go_wp2
  go_ret
  exact ⟨rfl, rfl⟩
theorem make_one (W : World) : (Instr.makeSlice 40 (.int .i64 1) (.int .i64 1)).run Tryd.prog W = .ok (.slice (some ⟨W.heap.size, 0, none⟩) 1 1) (W.alloc (.cells #[.string ⟨#[]⟩] 9)) := by
  obtain ⟨i, hi, hz⟩ := Option.map_eq_some_iff.1 info9
  simp only [Prod.mk.injEq] at hz
  have h := run_makeSlice (P := Tryd.prog) W 40 9 i (.string ⟨#[]⟩) Tryd.underlying40 hi hz.1 .i64 .i64 1 1 (by decide) (by decide) (by rw [hz.2.1]; decide) (by rw [hz.2.2]; decide) (by decide)
  rw [hz.2.1] at h
  rw [h]
  have e : madeCells (Value.string ⟨#[]⟩).cells (Int.toNat 1 * 1) = #[.string ⟨#[]⟩] := by kernel_rfl
  rw [e]
  rfl
set_option maxHeartbeats 1000000 in
set_option maxRecDepth 100000 in
theorem genSplit_calls (w : World) : Calls Tryd.prog 24 #[.string ⟨#[97]⟩, .string ⟨#[47]⟩, .int .i64 0, .int .i64 (-1)] w fun e w' => ∃ g, e = .returned (.slice (some ⟨g, 0, none⟩) 1 1) ∧ w'.heap[g]? = some (.cells #[.string ⟨#[97]⟩] 9 (0, 0)) ∧ Below w.heap.size w w' := by
  have hmk := make_one
  go_enter Tryd.func24, Tryd.ntmps24
  go_wp2_with (go_at_call 26; refine (count_calls _).mono ?_; rintro e w1 ⟨rfl, rfl⟩)
  refine wp_loop_rounds 1 ?_
  rw [rounds_succ]
  go_wp2
  go_ret
  exact ⟨_, rfl, blk_new _ _, below_alloc (Below.refl _ _) _⟩
set_option maxHeartbeats 1000000 in
set_option maxRecDepth 100000 in
theorem split_calls (w : World) : Calls Tryd.prog 21 #[.string ⟨#[97]⟩, .string ⟨#[47]⟩] w fun e w' => ∃ g, e = .returned (.slice (some ⟨g, 0, none⟩) 1 1) ∧ w'.heap[g]? = some (.cells #[.string ⟨#[97]⟩] 9 (0, 0)) ∧ Below w.heap.size w w' := by
  go_enter Tryd.func21, Tryd.ntmps21
  go_wp2_with (go_at_call 24; refine (genSplit_calls _).mono ?_; rintro e w1 ⟨g, rfl, h1, h2⟩)
  go_ret
  exact ⟨_, rfl, h1, h2⟩
set_option maxHeartbeats 1000000 in
set_option maxRecDepth 100000 in
theorem parts_calls (w : World) : Calls Tryd.prog 17 #[.string ⟨#[97]⟩] w fun e w' => ∃ g, e = .returned (.slice (some ⟨g, 0, none⟩) 1 1) ∧ w'.heap[g]? = some (.cells #[.string ⟨#[97]⟩] 9 (0, 0)) ∧ Below w.heap.size w w' := by
  go_enter Tryd.func17, Tryd.ntmps17
  go_wp2_with (go_at_call 21; refine (split_calls _).mono ?_; rintro e w1 ⟨g, rfl, h1, h2⟩)
  go_ret
  exact ⟨_, rfl, h1, h2⟩
set_option maxHeartbeats 1000000 in
set_option maxRecDepth 100000 in
theorem cmp_calls (w : World) : Calls Tryd.prog 20 #[.string ⟨#[97]⟩, .string ⟨#[97]⟩] w fun e w' => e = .returned (.int .i64 0) ∧ Drawn0 w w' := by
  have h1 : Op.bytesLess [97] [97] = false := by decide
  have e1 : cmp_isNaN_string.f ⟨#[97]⟩ = some false := by unfold cmp_isNaN_string.f; simp
  go_enter Tryd.func20, Tryd.ntmps20
  go_wp2_with (go_at_call 23; refine (cmp_isNaN_string.calls _ _ _ e1).mono ?_; rintro e w1 ⟨rfl, m, rfl⟩)
  go_ret
  exact ⟨rfl, by repeat (first | exact Drawn0.refl _ | apply Drawn0.step)⟩
set_option maxHeartbeats 1000000 in
set_option maxRecDepth 100000 in
theorem compare_calls (g1 g2 : Nat) (w : World) (hc1 : w.cell? ⟨g1, 0, none⟩ = some (.string ⟨#[97]⟩)) (hc2 : w.cell? ⟨g2, 0, none⟩ = some (.string ⟨#[97]⟩)) : Calls Tryd.prog 16 #[.slice (some ⟨g1, 0, none⟩) 1 1, .slice (some ⟨g2, 0, none⟩) 1 1] w fun e w' => e = .returned (.int .i64 0) ∧ Drawn0 w w' := by
  go_enter Tryd.func16, Tryd.ntmps16
  go_wp2
  refine wp_loop_rounds 2 ?_
  rw [rounds_succ]
  go_wp2_with (go_at_call 20; refine (cmp_calls _).mono ?_; rintro e w1 ⟨rfl, m1, rfl⟩)
  rw [rounds_succ]
  go_wp2
  go_ret
  exact ⟨rfl, by repeat (first | exact Drawn0.refl _ | apply Drawn0.step)⟩
set_option maxHeartbeats 1000000 in
set_option maxRecDepth 100000 in
theorem less_calls (w : World) : Calls Tryd.prog 14 #[.string ⟨#[97]⟩, .string ⟨#[97]⟩] w fun e w' => e = .returned (.bool false) ∧ Below w.heap.size w w' := by
  go_enter Tryd.func14, Tryd.ntmps14
  go_wp2_with (first
    | (go_at_call 16; refine (compare_calls g1 g2 w2 ((blk_cell H12.out 0).trans rfl) ((blk_cell H2.out 0).trans rfl)).mono ?_; rintro e w3 ⟨rfl, m1, rfl⟩)
    | (go_at_call 17; refine (parts_calls w).mono ?_; rintro e w1 ⟨g1, rfl, h1, hb1⟩; have H1 := Aside0.mk h1; have HB1 := Aside0.mk hb1; clear h1 hb1)
    | (go_at_call 17; refine (parts_calls w1).mono ?_; rintro e w2 ⟨g2, rfl, h1, hb1⟩; have H2 := Aside0.mk h1; have HB2 := Aside0.mk (below_step HB1.out hb1); have H12 := Aside0.mk (blk_below H1.out hb1); clear h1 hb1))
  go_ret
  exact ⟨rfl, pw_below_drewN HB2.out _⟩
end Go.Proofs.YtkbofkpkemfedaaDoor.Q
