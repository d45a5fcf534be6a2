/- diff.Trees at the two lists of the example: walked round by round. -/
import Derived.Test.YtkbofkpkemfedaaDoorHLess
import Derived.Test.YtkbofkpkemfedaaDoorQx26
import Derived.Deep.RegionHeld3
import Derived.LoopN
import Derived.BigQuiet


namespace Go.Proofs.YtkbofkpkemfedaaDoor.Q
open Go.RowKit Go.Proofs.YtkbofkpkemfedaaDoorW.PrintWords Go.Proofs.YtkbofkpkemfedaaDoorW.PrintLast Go.Proofs.YtkbofkpkemfedaaDoorW.PrintMore
attribute [local go_sem] max2_int min2_int max_two min_two max_three min_three max_four min_four
abbrev found2 : Array Value := #[.string ⟨#[97]⟩, .string ⟨#[97]⟩, .int .i64 2, .int .i64 0, .int .i64 0, .int .i64 0, .int .i64 0, .slice none 0 0, .string ⟨#[]⟩, .string ⟨#[]⟩, .string ⟨#[97, 47, 98]⟩, .string ⟨#[98]⟩, .int .i64 1, .int .i64 0, .int .i64 0, .int .i64 0, .int .i64 0, .slice none 0 0, .string ⟨#[]⟩, .string ⟨#[]⟩]
theorem tr_of {w W : World} {B : Nat} (h1 : Below w.heap.size w W) (h2 : W.heap[B]? = some (.cells found2 47 (0, 0))) : W.cell? ⟨B, 0, none⟩ = some (.string ⟨#[97]⟩) ∧ W.cell? ⟨B, 1, none⟩ = some (.string ⟨#[97]⟩) ∧ W.cell? ⟨B, 2, none⟩ = some (.int .i64 2) ∧ W.cell? ⟨B, 3, none⟩ = some (.int .i64 0) ∧ W.cell? ⟨B, 4, none⟩ = some (.int .i64 0) ∧ W.cell? ⟨B, 5, none⟩ = some (.int .i64 0) ∧ W.cell? ⟨B, 6, none⟩ = some (.int .i64 0) ∧ W.cell? ⟨B, 7, none⟩ = some (.slice none 0 0) ∧ W.cell? ⟨B, 8, none⟩ = some (.string ⟨#[]⟩) ∧ W.cell? ⟨B, 9, none⟩ = some (.string ⟨#[]⟩) ∧ W.cell? ⟨B, 10, none⟩ = some (.string ⟨#[97, 47, 98]⟩) ∧ Below w.heap.size w W ∧ W.heap[B]? = some (.cells found2 47 (0, 0)) := ⟨(blk_cell h2 0).trans rfl, (blk_cell h2 1).trans rfl, (blk_cell h2 2).trans rfl, (blk_cell h2 3).trans rfl, (blk_cell h2 4).trans rfl, (blk_cell h2 5).trans rfl, (blk_cell h2 6).trans rfl, (blk_cell h2 7).trans rfl, (blk_cell h2 8).trans rfl, (blk_cell h2 9).trans rfl, (blk_cell h2 10).trans rfl, h1, h2⟩
theorem tr_keep {w W w' : World} {B : Nat} (hb : Below W.heap.size W w') (h : W.cell? ⟨B, 0, none⟩ = some (.string ⟨#[97]⟩) ∧ W.cell? ⟨B, 1, none⟩ = some (.string ⟨#[97]⟩) ∧ W.cell? ⟨B, 2, none⟩ = some (.int .i64 2) ∧ W.cell? ⟨B, 3, none⟩ = some (.int .i64 0) ∧ W.cell? ⟨B, 4, none⟩ = some (.int .i64 0) ∧ W.cell? ⟨B, 5, none⟩ = some (.int .i64 0) ∧ W.cell? ⟨B, 6, none⟩ = some (.int .i64 0) ∧ W.cell? ⟨B, 7, none⟩ = some (.slice none 0 0) ∧ W.cell? ⟨B, 8, none⟩ = some (.string ⟨#[]⟩) ∧ W.cell? ⟨B, 9, none⟩ = some (.string ⟨#[]⟩) ∧ W.cell? ⟨B, 10, none⟩ = some (.string ⟨#[97, 47, 98]⟩) ∧ Below w.heap.size w W ∧ W.heap[B]? = some (.cells found2 47 (0, 0))) : w'.cell? ⟨B, 0, none⟩ = some (.string ⟨#[97]⟩) ∧ w'.cell? ⟨B, 1, none⟩ = some (.string ⟨#[97]⟩) ∧ w'.cell? ⟨B, 2, none⟩ = some (.int .i64 2) ∧ w'.cell? ⟨B, 3, none⟩ = some (.int .i64 0) ∧ w'.cell? ⟨B, 4, none⟩ = some (.int .i64 0) ∧ w'.cell? ⟨B, 5, none⟩ = some (.int .i64 0) ∧ w'.cell? ⟨B, 6, none⟩ = some (.int .i64 0) ∧ w'.cell? ⟨B, 7, none⟩ = some (.slice none 0 0) ∧ w'.cell? ⟨B, 8, none⟩ = some (.string ⟨#[]⟩) ∧ w'.cell? ⟨B, 9, none⟩ = some (.string ⟨#[]⟩) ∧ w'.cell? ⟨B, 10, none⟩ = some (.string ⟨#[97, 47, 98]⟩) ∧ Below w.heap.size w w' ∧ w'.heap[B]? = some (.cells found2 47 (0, 0)) := by
  obtain ⟨_, _, _, _, _, _, _, _, _, _, _, h1, h2⟩ := h
  exact tr_of (below_step h1 hb) (blk_below h2 hb)
theorem tr_below {w W : World} {B : Nat} (h : W.cell? ⟨B, 0, none⟩ = some (.string ⟨#[97]⟩) ∧ W.cell? ⟨B, 1, none⟩ = some (.string ⟨#[97]⟩) ∧ W.cell? ⟨B, 2, none⟩ = some (.int .i64 2) ∧ W.cell? ⟨B, 3, none⟩ = some (.int .i64 0) ∧ W.cell? ⟨B, 4, none⟩ = some (.int .i64 0) ∧ W.cell? ⟨B, 5, none⟩ = some (.int .i64 0) ∧ W.cell? ⟨B, 6, none⟩ = some (.int .i64 0) ∧ W.cell? ⟨B, 7, none⟩ = some (.slice none 0 0) ∧ W.cell? ⟨B, 8, none⟩ = some (.string ⟨#[]⟩) ∧ W.cell? ⟨B, 9, none⟩ = some (.string ⟨#[]⟩) ∧ W.cell? ⟨B, 10, none⟩ = some (.string ⟨#[97, 47, 98]⟩) ∧ Below w.heap.size w W ∧ W.heap[B]? = some (.cells found2 47 (0, 0))) : Below w.heap.size w W ∧ W.heap[B]? = some (.cells found2 47 (0, 0)) := by
  obtain ⟨_, _, _, _, _, _, _, _, _, _, _, h1, h2⟩ := h
  exact ⟨h1, h2⟩
theorem tr_drew {w W : World} {B : Nat} (h : W.cell? ⟨B, 0, none⟩ = some (.string ⟨#[97]⟩) ∧ W.cell? ⟨B, 1, none⟩ = some (.string ⟨#[97]⟩) ∧ W.cell? ⟨B, 2, none⟩ = some (.int .i64 2) ∧ W.cell? ⟨B, 3, none⟩ = some (.int .i64 0) ∧ W.cell? ⟨B, 4, none⟩ = some (.int .i64 0) ∧ W.cell? ⟨B, 5, none⟩ = some (.int .i64 0) ∧ W.cell? ⟨B, 6, none⟩ = some (.int .i64 0) ∧ W.cell? ⟨B, 7, none⟩ = some (.slice none 0 0) ∧ W.cell? ⟨B, 8, none⟩ = some (.string ⟨#[]⟩) ∧ W.cell? ⟨B, 9, none⟩ = some (.string ⟨#[]⟩) ∧ W.cell? ⟨B, 10, none⟩ = some (.string ⟨#[97, 47, 98]⟩) ∧ Below w.heap.size w W ∧ W.heap[B]? = some (.cells found2 47 (0, 0))) : W.drew.cell? ⟨B, 0, none⟩ = some (.string ⟨#[97]⟩) ∧ W.drew.cell? ⟨B, 1, none⟩ = some (.string ⟨#[97]⟩) ∧ W.drew.cell? ⟨B, 2, none⟩ = some (.int .i64 2) ∧ W.drew.cell? ⟨B, 3, none⟩ = some (.int .i64 0) ∧ W.drew.cell? ⟨B, 4, none⟩ = some (.int .i64 0) ∧ W.drew.cell? ⟨B, 5, none⟩ = some (.int .i64 0) ∧ W.drew.cell? ⟨B, 6, none⟩ = some (.int .i64 0) ∧ W.drew.cell? ⟨B, 7, none⟩ = some (.slice none 0 0) ∧ W.drew.cell? ⟨B, 8, none⟩ = some (.string ⟨#[]⟩) ∧ W.drew.cell? ⟨B, 9, none⟩ = some (.string ⟨#[]⟩) ∧ W.drew.cell? ⟨B, 10, none⟩ = some (.string ⟨#[97, 47, 98]⟩) ∧ Below w.heap.size w W.drew ∧ W.drew.heap[B]? = some (.cells found2 47 (0, 0)) := tr_keep (below_drew1 (Below.refl _ _)) h
theorem kind_dir (w : World) : Calls Tryd.prog 15 #[.agg #[.string ⟨#[97]⟩, .int .i64 2, .int .i64 0, .int .i64 0, .int .i64 0, .int .i64 0, .slice none 0 0, .string ⟨#[]⟩, .string ⟨#[]⟩], .agg #[.string ⟨#[97]⟩, .int .i64 2, .int .i64 0, .int .i64 0, .int .i64 0, .int .i64 0, .slice none 0 0, .string ⟨#[]⟩, .string ⟨#[]⟩]] w fun e w' => e = .returned (.int .i64 0) ∧ Below w.heap.size w w' := by
  have hk : diff_kind.f 5 ⟨#[97]⟩ 2 0 0 0 0 [] ⟨#[]⟩ ⟨#[]⟩ ⟨#[97]⟩ 2 0 0 0 0 [] ⟨#[]⟩ ⟨#[]⟩ = some 0 := by decide +kernel
  refine (diff_kind.calls 5 ⟨#[97]⟩ 2 0 0 0 0 (fun _ => False) (.slice none 0 0) [] ⟨#[]⟩ ⟨#[]⟩ ⟨#[97]⟩ 2 0 0 0 0 (fun _ => False) (.slice none 0 0) [] ⟨#[]⟩ ⟨#[]⟩ 0 w w (Below.refl _ _) (Kd.R_nil _ _ _ _ _) (fun _ h => h.elim) (Kd.R_nil _ _ _ _ _) (fun _ h => h.elim) hk).mono ?_
  rintro e w' ⟨rfl, hb, _⟩
  exact ⟨rfl, hb⟩
set_option maxHeartbeats 2000000 in
set_option maxRecDepth 100000 in
theorem trees_calls (B : Nat) (w : World) (hb : w.heap[B]? = some (.cells found2 47 (0, 0))) :
    Calls Tryd.prog 7 #[.slice (some ⟨B, 0, none⟩) 2 2, .slice (some ⟨B, 0, none⟩) 1 2] w fun e w' => ∃ v0_ : Value, e = .returned v0_ ∧ Kd.R k32 32 w' w.heap.size (fun _ => True) v0_ [⟨⟨#[97, 47, 98]⟩, 2⟩] ∧ Below w.heap.size w w' := by
  have HBK := Aside0.mk hb
  have hst : w.cell? ⟨B, 0, none⟩ = some (.string ⟨#[97]⟩) ∧ w.cell? ⟨B, 1, none⟩ = some (.string ⟨#[97]⟩) ∧ w.cell? ⟨B, 2, none⟩ = some (.int .i64 2) ∧ w.cell? ⟨B, 3, none⟩ = some (.int .i64 0) ∧ w.cell? ⟨B, 4, none⟩ = some (.int .i64 0) ∧ w.cell? ⟨B, 5, none⟩ = some (.int .i64 0) ∧ w.cell? ⟨B, 6, none⟩ = some (.int .i64 0) ∧ w.cell? ⟨B, 7, none⟩ = some (.slice none 0 0) ∧ w.cell? ⟨B, 8, none⟩ = some (.string ⟨#[]⟩) ∧ w.cell? ⟨B, 9, none⟩ = some (.string ⟨#[]⟩) ∧ w.cell? ⟨B, 10, none⟩ = some (.string ⟨#[97, 47, 98]⟩) ∧ Below w.heap.size w w ∧ w.heap[B]? = some (.cells found2 47 (0, 0)) := tr_of (Below.refl _ _) hb
  clear hb
  go_enter Tryd.func7, Tryd.ntmps7
  go_wp2_with (fail)
  go_step3
  go_wp2_with (fail)
  go_step3
  go_wp2_with (fail)
  refine wp_loop_rounds 4 ?_
  rw [rounds_succ]
  go_wp2_with (fail)
  go_region_held3 (fun w' => w'.cell? ⟨B, 0, none⟩ = some (.string ⟨#[97]⟩) ∧ w'.cell? ⟨B, 1, none⟩ = some (.string ⟨#[97]⟩) ∧ w'.cell? ⟨B, 2, none⟩ = some (.int .i64 2) ∧ w'.cell? ⟨B, 3, none⟩ = some (.int .i64 0) ∧ w'.cell? ⟨B, 4, none⟩ = some (.int .i64 0) ∧ w'.cell? ⟨B, 5, none⟩ = some (.int .i64 0) ∧ w'.cell? ⟨B, 6, none⟩ = some (.int .i64 0) ∧ w'.cell? ⟨B, 7, none⟩ = some (.slice none 0 0) ∧ w'.cell? ⟨B, 8, none⟩ = some (.string ⟨#[]⟩) ∧ w'.cell? ⟨B, 9, none⟩ = some (.string ⟨#[]⟩) ∧ w'.cell? ⟨B, 10, none⟩ = some (.string ⟨#[97, 47, 98]⟩) ∧ Below w.heap.size w w' ∧ w'.heap[B]? = some (.cells found2 47 (0, 0))) (first | assumption | (exact tr_keep (by assumption) (by assumption)) | (exact tr_drew (by assumption)))
    (first
      | (go_at_call 14; (with_reducible refine (less_calls _).mono ?_); rintro _ w' ⟨rfl, hb⟩)
      | (go_at_call 15; (with_reducible refine (kind_dir _).mono ?_); rintro _ w' ⟨rfl, hb⟩))
  go_wp2_with (fail)
  go_region_held3 (fun w' => w'.cell? ⟨B, 0, none⟩ = some (.string ⟨#[97]⟩) ∧ w'.cell? ⟨B, 1, none⟩ = some (.string ⟨#[97]⟩) ∧ w'.cell? ⟨B, 2, none⟩ = some (.int .i64 2) ∧ w'.cell? ⟨B, 3, none⟩ = some (.int .i64 0) ∧ w'.cell? ⟨B, 4, none⟩ = some (.int .i64 0) ∧ w'.cell? ⟨B, 5, none⟩ = some (.int .i64 0) ∧ w'.cell? ⟨B, 6, none⟩ = some (.int .i64 0) ∧ w'.cell? ⟨B, 7, none⟩ = some (.slice none 0 0) ∧ w'.cell? ⟨B, 8, none⟩ = some (.string ⟨#[]⟩) ∧ w'.cell? ⟨B, 9, none⟩ = some (.string ⟨#[]⟩) ∧ w'.cell? ⟨B, 10, none⟩ = some (.string ⟨#[97, 47, 98]⟩) ∧ Below w.heap.size w w' ∧ w'.heap[B]? = some (.cells found2 47 (0, 0))) (first | assumption | (exact tr_keep (by assumption) (by assumption)) | (exact tr_drew (by assumption)))
    (first
      | (go_at_call 14; (with_reducible refine (less_calls _).mono ?_); rintro _ w' ⟨rfl, hb⟩)
      | (go_at_call 15; (with_reducible refine (kind_dir _).mono ?_); rintro _ w' ⟨rfl, hb⟩))
  go_wp2_with (fail)
  go_region_held3 (fun w' => w'.cell? ⟨B, 0, none⟩ = some (.string ⟨#[97]⟩) ∧ w'.cell? ⟨B, 1, none⟩ = some (.string ⟨#[97]⟩) ∧ w'.cell? ⟨B, 2, none⟩ = some (.int .i64 2) ∧ w'.cell? ⟨B, 3, none⟩ = some (.int .i64 0) ∧ w'.cell? ⟨B, 4, none⟩ = some (.int .i64 0) ∧ w'.cell? ⟨B, 5, none⟩ = some (.int .i64 0) ∧ w'.cell? ⟨B, 6, none⟩ = some (.int .i64 0) ∧ w'.cell? ⟨B, 7, none⟩ = some (.slice none 0 0) ∧ w'.cell? ⟨B, 8, none⟩ = some (.string ⟨#[]⟩) ∧ w'.cell? ⟨B, 9, none⟩ = some (.string ⟨#[]⟩) ∧ w'.cell? ⟨B, 10, none⟩ = some (.string ⟨#[97, 47, 98]⟩) ∧ Below w.heap.size w w' ∧ w'.heap[B]? = some (.cells found2 47 (0, 0))) (first | assumption | (exact tr_keep (by assumption) (by assumption)) | (exact tr_drew (by assumption)))
    (first
      | (go_at_call 14; (with_reducible refine (less_calls _).mono ?_); rintro _ w' ⟨rfl, hb⟩)
      | (go_at_call 15; (with_reducible refine (kind_dir _).mono ?_); rintro _ w' ⟨rfl, hb⟩))
  go_wp2_with (fail)
  rw [rounds_succ]
  go_wp2_with (fail)
  go_quiet (fail)
  have HST := tr_below (by assumption)
  have HB3 := Aside0.mk HST.1
  have HK3 := Aside0.mk HST.2
  go_wp2_with (first | ((with_reducible refine gate_builtin (b := .append) (xs := #[.tmp 71, .tmp 78]) rfl ?_); at_builtin; refine Kd.R_append k32 (w0 := w) w.heap.size rfl (.tmp 71) (.tmp 78) 29 32 (.agg #[(.string ⟨#[]⟩), (.int .i64 0)]) 24 rfl Tryd.underlying29 info32 rfl (by decide) (by omega) (.slice none 0 0) [] (⟨⟨#[97, 47, 98]⟩, 2⟩ : S32) [.string ⟨#[97, 47, 98]⟩, .int .i64 2] (fun _ => True) (fun _ => False) rfl rfl ?aP (fun _ hk => hk.elim) (fun _ _ => trivial) (Kd.R_nil _ _ _ _ _) ?aB ?aS (by decide) ?_; (case aP => exact k32_mkM _ _ _ (⟨⟨#[97, 47, 98]⟩, 2⟩ : S32)); (case aB => exact pw_below_drewN HB3.out _); (case aS => exact HB3.out.size); intro v4 w4 ho hb hg hat; have HO := Aside0.mk ho; have HB4 := Aside0.mk hb; clear ho hb hg hat))
  rw [rounds_succ]
  go_wp2_with (fail)
  rw [Exit.noGoto_ret]
  go_ret
  exact ⟨_, rfl, HO.out, HB4.out⟩
end Go.Proofs.YtkbofkpkemfedaaDoor.Q
