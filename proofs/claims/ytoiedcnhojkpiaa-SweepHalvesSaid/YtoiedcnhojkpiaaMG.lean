/- Of the proofs about sweep: several texts, joined. -/
import Derived.Test.YtoiedcnhojkpiaaMA
import Derived.Test.YtoiedcnhojkpiaaMK
-- Made by wip/qprint.sh (a patched copy of the kit's print program) out of the translation. Lean checks it.
namespace Go.Proofs.Ytoiedcnhojkpiaa.Q
open Go.RowKit Go.Proofs.YtoiedcnhojkpiaaW.PrintWords Go.Proofs.YtoiedcnhojkpiaaW.PrintLast Go.Proofs.YtoiedcnhojkpiaaW.PrintMore
attribute [local go_sem] max2_int min2_int max_two min_two max_three min_three max_four min_four   -- for this text's walks alone
set_option linter.unusedVariables false
set_option linter.unusedSimpArgs false

/-! ### garretref15_Less: function 61 -/
def garretref15_Less.f (a0_0 : ByteArray) (a0_1 : ByteArray) (a0_2 : Int) (a0_3 : Int) (a0_4 : Int) (a0_5 : Int) (a1_0 : ByteArray) (a1_1 : ByteArray) (a1_2 : Int) (a1_3 : Int) (a1_4 : Int) (a1_5 : Int) : Option (Bool) := if a0_0.toList = a1_0.toList then (if a0_1.toList = a1_1.toList then (if a0_3 = a1_3 then (if a0_4 = a1_4 then (if a0_5 = a1_5 then (some (decide (a0_2 < a1_2))) else (some (decide (a0_5 < a1_5)))) else (some (decide (a0_4 < a1_4)))) else (some (decide (a0_3 < a1_3)))) else (some (Op.bytesLess a0_1.toList a1_1.toList))) else (some (Op.bytesLess a0_0.toList a1_0.toList))
def garretref15_Less.T3 : Bool × List (List Nat × List Nat) := (true, [([], []), ([0], [0]), ([], []), ([2], [2]), ([], []), ([], []), ([4, 1, 0, 1, 4, 5], [1, 4]), ([5, 3, 6, 0, 1, 2, 3, 4, 5, 6], [3, 5])])
def garretref15_Less.B3 : List Nat := [0, 1, 0, 4, 0, 0, 51, 127]
theorem garretref15_Less.tab3 : rtab .any (opsOf Try.f61 3) = garretref15_Less.T3 := by kernel_rfl
theorem garretref15_Less.bits3 : waitsOk garretref15_Less.T3.2 garretref15_Less.B3 = true := by kernel_rfl
set_option maxHeartbeats 8000000 in
set_option maxRecDepth 100000 in
theorem garretref15_Less.calls (a0_0 : ByteArray) (a0_1 : ByteArray) (a0_2 : Int) (a0_3 : Int) (a0_4 : Int) (a0_5 : Int) (a1_0 : ByteArray) (a1_1 : ByteArray) (a1_2 : Int) (a1_3 : Int) (a1_4 : Int) (a1_5 : Int) (r : Bool) (w : World) (h : garretref15_Less.f a0_0 a0_1 a0_2 a0_3 a0_4 a0_5 a1_0 a1_1 a1_2 a1_3 a1_4 a1_5 = some r) :
    Calls Try.prog 61 #[.agg #[.string a0_0, .string a0_1, .int .i64 a0_2, .int .i64 a0_3, .int .i64 a0_4, .int .i64 a0_5], .agg #[.string a1_0, .string a1_1, .int .i64 a1_2, .int .i64 a1_3, .int .i64 a1_4, .int .i64 a1_5]] w fun e w' => e = .returned (.bool r) ∧ Below w.heap.size w w' := by
  have hu52 := Try.underlying52
  have hu50 := Try.underlying50
  have HB := Aside0.mk (Below.refl w.heap.size w)
  have H : (if a0_0.toList = a1_0.toList then (if a0_1.toList = a1_1.toList then (if a0_3 = a1_3 then (if a0_4 = a1_4 then (if a0_5 = a1_5 then (some (decide (a0_2 < a1_2))) else (some (decide (a0_5 < a1_5)))) else (some (decide (a0_4 < a1_4)))) else (some (decide (a0_3 < a1_3)))) else (some (Op.bytesLess a0_1.toList a1_1.toList))) else (some (Op.bytesLess a0_0.toList a1_0.toList))) = some r := h
  clear h
  by_cases c3 : a0_0.toList = a1_0.toList
  · rw [if_pos c3] at H
    have c3b0 : (a0_0.toList == a1_0.toList) = true := beq_iff_eq.mpr c3
    have c3b1 : (a0_0.toList != a1_0.toList) = false := bne_eq_false_iff_eq.mpr c3
    clear c3
    go_enter Try.func61, Try.ntmps61
    try go_wp2_with (first | ((with_reducible refine gate_dst (N := 2) rfl ?_); refine box_event ?hg (N := 2) ?hd (cs := #[.string a0_0, .string a0_1, .int .i64 a0_2, .int .i64 a0_3, .int .i64 a0_4, .int .i64 a0_5]) (t := 52) ?hr ?_; (case hd => rfl); (case hg => rfl); (case hr => first | (go_simp; done) | (go_simp; rfl)); intro gb277 hg w8 hbox hb; have n0_ := Aside0.mk (below_step (by repeat (first | (with_reducible first | exact HB.out | apply below_alloc | apply pw_below_drewN | apply below_drew1) | exact HB.out)) hb); have n1_ := Aside0.mk (hbox); have n2_ := Aside0.mk ((by rw [hg]; exact (below_size (by repeat (first | (with_reducible first | exact HB.out | apply below_alloc | apply pw_below_drewN | apply below_drew1) | exact HB.out))) : w.heap.size ≤ gb277)); have n3_ := Aside0.mk ((by rw [hg]; exact (below_size (by repeat (first | (with_reducible first | exact HB.out | apply below_alloc | apply pw_below_drewN | apply below_drew1) | exact HB.out))) : w.heap.size ≤ gb277)); clear HB; have HB := n0_; have BK277 := n1_; have GW277 := n2_; have GE277 := n3_; clear n0_ n1_ n2_ n3_; clear hb hbox hg) | ((with_reducible refine gate_dst (N := 3) rfl ?_); refine box_event ?hg (N := 3) ?hd (cs := #[.string a1_0, .string a1_1, .int .i64 a1_2, .int .i64 a1_3, .int .i64 a1_4, .int .i64 a1_5]) (t := 52) ?hr ?_; (case hd => rfl); (case hg => rfl); (case hr => first | (go_simp; done) | (go_simp; rfl)); intro gb278 hg w9 hbox hb; have n0_ := Aside0.mk (blk_below (g := gb277) (o := .cells #[.string a0_0, .string a0_1, .int .i64 a0_2, .int .i64 a0_3, .int .i64 a0_4, .int .i64 a0_5] 52 (0, 0)) (by (with_reducible repeat (first | refine blk_drewN ?_ _ | refine blk_drew ?_ | refine blk_alloc ?_ _)); exact BK277.out) hb); have n1_ := Aside0.mk (below_step (by repeat (first | (with_reducible first | exact HB.out | apply below_alloc | apply pw_below_drewN | apply below_drew1 | refine below_set ?_ GE277.out) | exact HB.out)) hb); have n2_ := Aside0.mk (hbox); have n3_ := Aside0.mk ((by rw [hg]; exact (below_size (by repeat (first | (with_reducible first | exact HB.out | apply below_alloc | apply pw_below_drewN | apply below_drew1 | refine below_set ?_ GE277.out) | exact HB.out))) : w.heap.size ≤ gb278)); have n4_ := Aside0.mk ((by rw [hg]; exact (below_size (by repeat (first | (with_reducible first | exact HB.out | apply below_alloc | apply pw_below_drewN | apply below_drew1 | refine below_set ?_ GE277.out) | exact HB.out))) : w.heap.size ≤ gb278)); have n5_ := Aside0.mk ((by rw [hg]; exact Nat.ne_of_lt (blk_lt (g := gb277) (o := .cells #[.string a0_0, .string a0_1, .int .i64 a0_2, .int .i64 a0_3, .int .i64 a0_4, .int .i64 a0_5] 52 (0, 0)) (by (with_reducible repeat (first | refine blk_drewN ?_ _ | refine blk_drew ?_ | refine blk_alloc ?_ _)); exact BK277.out)) : gb277 ≠ gb278)); have n6_ := Aside0.mk ((by rw [hg]; exact Nat.ne_of_gt (blk_lt (g := gb277) (o := .cells #[.string a0_0, .string a0_1, .int .i64 a0_2, .int .i64 a0_3, .int .i64 a0_4, .int .i64 a0_5] 52 (0, 0)) (by (with_reducible repeat (first | refine blk_drewN ?_ _ | refine blk_drew ?_ | refine blk_alloc ?_ _)); exact BK277.out)) : gb278 ≠ gb277)); clear BK277; clear HB; have BK277 := n0_; have HB := n1_; have BK278 := n2_; have GW278 := n3_; have GE278 := n4_; have NB277_278 := n5_; have NB278_277 := n6_; clear n0_ n1_ n2_ n3_ n4_ n5_ n6_; clear hb hbox hg; have hnb10 := NB277_278.out; have hnc10 := NB278_277.out; have hcz11_0 : w9.cell? ⟨gb277, 0, none⟩ = some (.string a0_0) := (blk_cell BK277.out 0).trans rfl; have hcz11_1 : w9.cell? ⟨gb277, 1, none⟩ = some (.string a0_1) := (blk_cell BK277.out 1).trans rfl; have hcz11_2 : w9.cell? ⟨gb277, 2, none⟩ = some (.int .i64 a0_2) := (blk_cell BK277.out 2).trans rfl; have hcz11_3 : w9.cell? ⟨gb277, 3, none⟩ = some (.int .i64 a0_3) := (blk_cell BK277.out 3).trans rfl; have hcz11_4 : w9.cell? ⟨gb277, 4, none⟩ = some (.int .i64 a0_4) := (blk_cell BK277.out 4).trans rfl; have hcz11_5 : w9.cell? ⟨gb277, 5, none⟩ = some (.int .i64 a0_5) := (blk_cell BK277.out 5).trans rfl; have hfz11_0 := blk_frozen BK277.out 0; have hfz11_1 := blk_frozen BK277.out 1; have hfz11_2 := blk_frozen BK277.out 2; have hfz11_3 := blk_frozen BK277.out 3; have hfz11_4 := blk_frozen BK277.out 4; have hfz11_5 := blk_frozen BK277.out 5; have hcz12_0 : w9.cell? ⟨gb278, 0, none⟩ = some (.string a1_0) := (blk_cell BK278.out 0).trans rfl; have hcz12_1 : w9.cell? ⟨gb278, 1, none⟩ = some (.string a1_1) := (blk_cell BK278.out 1).trans rfl; have hcz12_2 : w9.cell? ⟨gb278, 2, none⟩ = some (.int .i64 a1_2) := (blk_cell BK278.out 2).trans rfl; have hcz12_3 : w9.cell? ⟨gb278, 3, none⟩ = some (.int .i64 a1_3) := (blk_cell BK278.out 3).trans rfl; have hcz12_4 : w9.cell? ⟨gb278, 4, none⟩ = some (.int .i64 a1_4) := (blk_cell BK278.out 4).trans rfl; have hcz12_5 : w9.cell? ⟨gb278, 5, none⟩ = some (.int .i64 a1_5) := (blk_cell BK278.out 5).trans rfl; have hfz12_0 := blk_frozen BK278.out 0; have hfz12_1 := blk_frozen BK278.out 1; have hfz12_2 := blk_frozen BK278.out 2; have hfz12_3 := blk_frozen BK278.out 3; have hfz12_4 := blk_frozen BK278.out 4; have hfz12_5 := blk_frozen BK278.out 5))
    have n0_ := Aside0.mk (blk_drew BK277.out)
    have n1_ := Aside0.mk (blk_drew BK278.out)
    have n2_ := Aside0.mk (below_drew1 HB.out)
    clear BK277
    clear BK278
    clear HB
    have BK277 := n0_
    have BK278 := n1_
    have HB := n2_
    clear n0_ n1_ n2_
    refine start_ (n := 8) (S := fun w' => w'.cell? ⟨gb277, 0, none⟩ = some (.string a0_0) ∧ w'.cell? ⟨gb277, 1, none⟩ = some (.string a0_1) ∧ w'.cell? ⟨gb277, 2, none⟩ = some (.int .i64 a0_2) ∧ w'.cell? ⟨gb277, 3, none⟩ = some (.int .i64 a0_3) ∧ w'.cell? ⟨gb277, 4, none⟩ = some (.int .i64 a0_4) ∧ w'.cell? ⟨gb277, 5, none⟩ = some (.int .i64 a0_5) ∧ w'.cell? ⟨gb278, 0, none⟩ = some (.string a1_0) ∧ w'.cell? ⟨gb278, 1, none⟩ = some (.string a1_1) ∧ w'.cell? ⟨gb278, 2, none⟩ = some (.int .i64 a1_2) ∧ w'.cell? ⟨gb278, 3, none⟩ = some (.int .i64 a1_3) ∧ w'.cell? ⟨gb278, 4, none⟩ = some (.int .i64 a1_4) ∧ w'.cell? ⟨gb278, 5, none⟩ = some (.int .i64 a1_5)) (ds := []) #[false, false, false, false, false, false, false, false] (by kernel_rfl) rfl rfl ⟨(blk_cell BK277.out 0).trans rfl, (blk_cell BK277.out 1).trans rfl, (blk_cell BK277.out 2).trans rfl, (blk_cell BK277.out 3).trans rfl, (blk_cell BK277.out 4).trans rfl, (blk_cell BK277.out 5).trans rfl, (blk_cell BK278.out 0).trans rfl, (blk_cell BK278.out 1).trans rfl, (blk_cell BK278.out 2).trans rfl, (blk_cell BK278.out 3).trans rfl, (blk_cell BK278.out 4).trans rfl, (blk_cell BK278.out 5).trans rfl⟩ (fun hHeld => ?_); refine with_tabW garretref15_Less.tab3 garretref15_Less.bits3 (fun HT_ HW_ => ?_)
    generalize w9.drew = w13 at BK277 BK278 HB hHeld ⊢
    refine pure_ (i := 0) (N := some 17) (v := ?_) (a' := ?_) #[true, false, false, false, false, false, false, false] rfl rfl (any_of HT_.out (by kernel_rfl)) (fun _ _ _ h => h) (Or.inl ⟨by rfl, ?_⟩) ?_ ?_
    rotate_left
    · intro w'
      go_simp
      with_reducible rfl
    rotate_left
    · simp only [Act.put, List.setIfInBounds_toArray, List.set_cons_zero, List.set_cons_succ, i64_w, i32_w]
      rfl
    refine pure_ (i := 2) (N := some 19) (v := ?_) (a' := ?_) #[true, false, true, false, false, false, false, false] rfl rfl (any_of HT_.out (by kernel_rfl)) (fun _ _ _ h => h) (Or.inl ⟨by rfl, ?_⟩) ?_ ?_
    rotate_left
    · intro w'
      go_simp
      with_reducible rfl
    rotate_left
    · simp only [Act.put, List.setIfInBounds_toArray, List.set_cons_zero, List.set_cons_succ, i64_w, i32_w]
      rfl
    refine take_ (i := 1) (N := some 18) (v := ?_) (a' := ?_) #[true, true, true, false, false, false, false, false] rfl rfl (take_ofW HT_.out HW_.out (by kernel_rfl)) (fun _ _ _ h => h) (Or.inl ⟨by rfl, ?_⟩) hHeld ?_ ?_
    rotate_left
    · rintro w' ⟨s0, s1, s2, s3, s4, s5, s6, s7, s8, s9, s10, s11⟩
      go_simp
      with_reducible rfl
    rotate_left
    · simp only [Act.put, List.setIfInBounds_toArray, List.set_cons_zero, List.set_cons_succ, i64_w, i32_w]
      rfl
    refine take_ (i := 3) (N := some 20) (v := ?_) (a' := ?_) #[true, true, true, true, false, false, false, false] rfl rfl (take_ofW HT_.out HW_.out (by kernel_rfl)) (fun _ _ _ h => h) (Or.inl ⟨by rfl, ?_⟩) hHeld ?_ ?_
    rotate_left
    · rintro w' ⟨s0, s1, s2, s3, s4, s5, s6, s7, s8, s9, s10, s11⟩
      go_simp
      with_reducible rfl
    rotate_left
    · simp only [Act.put, List.setIfInBounds_toArray, List.set_cons_zero, List.set_cons_succ, i64_w, i32_w]
      rfl
    refine join_ (σ := Nat × Nat) 2 #[true, true, true, true, true, true, false, false] (fun s_ => [(5, .pointer (some ⟨s_.1, 0, none⟩)), (6, .pointer (some ⟨s_.2, 0, none⟩))]) (fun s_ w' => (w'.cell? ⟨gb277, 0, none⟩ = some (.string a0_0) ∧ w'.cell? ⟨gb277, 1, none⟩ = some (.string a0_1) ∧ w'.cell? ⟨gb277, 2, none⟩ = some (.int .i64 a0_2) ∧ w'.cell? ⟨gb277, 3, none⟩ = some (.int .i64 a0_3) ∧ w'.cell? ⟨gb277, 4, none⟩ = some (.int .i64 a0_4) ∧ w'.cell? ⟨gb277, 5, none⟩ = some (.int .i64 a0_5) ∧ w'.cell? ⟨gb278, 0, none⟩ = some (.string a1_0) ∧ w'.cell? ⟨gb278, 1, none⟩ = some (.string a1_1) ∧ w'.cell? ⟨gb278, 2, none⟩ = some (.int .i64 a1_2) ∧ w'.cell? ⟨gb278, 3, none⟩ = some (.int .i64 a1_3) ∧ w'.cell? ⟨gb278, 4, none⟩ = some (.int .i64 a1_4) ∧ w'.cell? ⟨gb278, 5, none⟩ = some (.int .i64 a1_5)) ∧ (w'.heap[gb277]? = some (.cells #[.string a0_0, .string a0_1, .int .i64 a0_2, .int .i64 a0_3, .int .i64 a0_4, .int .i64 a0_5] 52 (0, 0))) ∧ (w'.heap[gb278]? = some (.cells #[.string a1_0, .string a1_1, .int .i64 a1_2, .int .i64 a1_3, .int .i64 a1_4, .int .i64 a1_5] 52 (0, 0))) ∧ (w'.heap[s_.1]? = some (.cells #[.string (⟨#[]⟩ : ByteArray), .int .i64 0, .int .i64 0, .int .i64 0, .int .i64 0] 50 (0, 0))) ∧ (w'.heap[s_.2]? = some (.cells #[.string (⟨#[]⟩ : ByteArray), .int .i64 0, .int .i64 0, .int .i64 0, .int .i64 0] 50 (0, 0))) ∧ (w.heap.size ≤ s_.1) ∧ (w.heap.size ≤ s_.1) ∧ (gb277 ≠ s_.1) ∧ (s_.1 ≠ gb277) ∧ (gb278 ≠ s_.1) ∧ (s_.1 ≠ gb278) ∧ (s_.2 ≠ s_.1) ∧ (s_.1 ≠ s_.2) ∧ (w.heap.size ≤ s_.2) ∧ (w.heap.size ≤ s_.2) ∧ (gb277 ≠ s_.2) ∧ (s_.2 ≠ gb277) ∧ (gb278 ≠ s_.2) ∧ (s_.2 ≠ gb278) ∧ (Below w.heap.size w w')) ?_ ?_
    rotate_left
    · intro hCont
      refine two_ (i := 4) (j := 5) (Ni := some 5) (Nj := some 6) #[true, true, true, true, true, false, false, false] #[true, true, true, true, false, true, false, false] rfl rfl rfl rfl (two_of HT_.out (by kernel_rfl)) (by decide) (by decide) (fun K hK => ?_) (fun K hK => ?_)
      · skip
        refine box_step ?hg (N := 5) ?hd (cs := #[.string (⟨#[]⟩ : ByteArray), .int .i64 0, .int .i64 0, .int .i64 0, .int .i64 0]) (t := 50) ?hr ?_; (case hd => rfl); (case hg => rfl); (case hr => first | (go_simp; done) | (go_simp; rfl))
        intro gb279 hg w14 hbox hb
        have n0_ := Aside0.mk (blk_below (g := gb277) (o := .cells #[.string a0_0, .string a0_1, .int .i64 a0_2, .int .i64 a0_3, .int .i64 a0_4, .int .i64 a0_5] 52 (0, 0)) (by (with_reducible repeat (first | refine blk_drewN ?_ _ | refine blk_drew ?_ | refine blk_alloc ?_ _)); exact BK277.out) hb)
        have n1_ := Aside0.mk (blk_below (g := gb278) (o := .cells #[.string a1_0, .string a1_1, .int .i64 a1_2, .int .i64 a1_3, .int .i64 a1_4, .int .i64 a1_5] 52 (0, 0)) (by (with_reducible repeat (first | refine blk_drewN ?_ _ | refine blk_drew ?_ | refine blk_alloc ?_ _)); exact BK278.out) hb)
        have n2_ := Aside0.mk (below_step (by repeat (first | (with_reducible first | exact HB.out | apply below_alloc | apply pw_below_drewN | apply below_drew1 | refine below_set ?_ GE277.out | refine below_set ?_ GE278.out) | exact HB.out)) hb)
        have n3_ := Aside0.mk (hbox)
        have n4_ := Aside0.mk ((by rw [hg]; exact (below_size (by repeat (first | (with_reducible first | exact HB.out | apply below_alloc | apply pw_below_drewN | apply below_drew1 | refine below_set ?_ GE277.out | refine below_set ?_ GE278.out) | exact HB.out))) : w.heap.size ≤ gb279))
        have n5_ := Aside0.mk ((by rw [hg]; exact (below_size (by repeat (first | (with_reducible first | exact HB.out | apply below_alloc | apply pw_below_drewN | apply below_drew1 | refine below_set ?_ GE277.out | refine below_set ?_ GE278.out) | exact HB.out))) : w.heap.size ≤ gb279))
        have n6_ := Aside0.mk ((by rw [hg]; exact Nat.ne_of_lt (blk_lt (g := gb277) (o := .cells #[.string a0_0, .string a0_1, .int .i64 a0_2, .int .i64 a0_3, .int .i64 a0_4, .int .i64 a0_5] 52 (0, 0)) (by (with_reducible repeat (first | refine blk_drewN ?_ _ | refine blk_drew ?_ | refine blk_alloc ?_ _)); exact BK277.out)) : gb277 ≠ gb279))
        have n7_ := Aside0.mk ((by rw [hg]; exact Nat.ne_of_gt (blk_lt (g := gb277) (o := .cells #[.string a0_0, .string a0_1, .int .i64 a0_2, .int .i64 a0_3, .int .i64 a0_4, .int .i64 a0_5] 52 (0, 0)) (by (with_reducible repeat (first | refine blk_drewN ?_ _ | refine blk_drew ?_ | refine blk_alloc ?_ _)); exact BK277.out)) : gb279 ≠ gb277))
        have n8_ := Aside0.mk ((by rw [hg]; exact Nat.ne_of_lt (blk_lt (g := gb278) (o := .cells #[.string a1_0, .string a1_1, .int .i64 a1_2, .int .i64 a1_3, .int .i64 a1_4, .int .i64 a1_5] 52 (0, 0)) (by (with_reducible repeat (first | refine blk_drewN ?_ _ | refine blk_drew ?_ | refine blk_alloc ?_ _)); exact BK278.out)) : gb278 ≠ gb279))
        have n9_ := Aside0.mk ((by rw [hg]; exact Nat.ne_of_gt (blk_lt (g := gb278) (o := .cells #[.string a1_0, .string a1_1, .int .i64 a1_2, .int .i64 a1_3, .int .i64 a1_4, .int .i64 a1_5] 52 (0, 0)) (by (with_reducible repeat (first | refine blk_drewN ?_ _ | refine blk_drew ?_ | refine blk_alloc ?_ _)); exact BK278.out)) : gb279 ≠ gb278))
        clear BK277
        clear BK278
        clear HB
        have BK277 := n0_
        have BK278 := n1_
        have HB := n2_
        have BK279 := n3_
        have GW279 := n4_
        have GE279 := n5_
        have NB277_279 := n6_
        have NB279_277 := n7_
        have NB278_279 := n8_
        have NB279_278 := n9_
        clear n0_ n1_ n2_ n3_ n4_ n5_ n6_ n7_ n8_ n9_
        clear hb hbox hg
        refine hK.out _ _ ⟨(blk_cell BK277.out 0).trans rfl, (blk_cell BK277.out 1).trans rfl, (blk_cell BK277.out 2).trans rfl, (blk_cell BK277.out 3).trans rfl, (blk_cell BK277.out 4).trans rfl, (blk_cell BK277.out 5).trans rfl, (blk_cell BK278.out 0).trans rfl, (blk_cell BK278.out 1).trans rfl, (blk_cell BK278.out 2).trans rfl, (blk_cell BK278.out 3).trans rfl, (blk_cell BK278.out 4).trans rfl, (blk_cell BK278.out 5).trans rfl⟩ (fun hHeld => ?_)
        clear hK K
        refine norm_ (a' := ?_) ?_ ?_
        rotate_left
        · show Act.put _ (some 5) _ = _
          simp only [Act.put, List.setIfInBounds_toArray, List.set_cons_zero, List.set_cons_succ, i64_w, i32_w]
          rfl
        refine one_ (i := 5) (N := some 6) #[true, true, true, true, true, true, false, false] rfl rfl (one_of HT_.out (by kernel_rfl)) (by decide) (fun K hK => ?_)
        refine box_step ?hg (N := 6) ?hd (cs := #[.string (⟨#[]⟩ : ByteArray), .int .i64 0, .int .i64 0, .int .i64 0, .int .i64 0]) (t := 50) ?hr ?_; (case hd => rfl); (case hg => rfl); (case hr => first | (go_simp; done) | (go_simp; rfl))
        intro gb280 hg w15 hbox hb
        have n0_ := Aside0.mk (blk_below (g := gb277) (o := .cells #[.string a0_0, .string a0_1, .int .i64 a0_2, .int .i64 a0_3, .int .i64 a0_4, .int .i64 a0_5] 52 (0, 0)) (by (with_reducible repeat (first | refine blk_drewN ?_ _ | refine blk_drew ?_ | refine blk_alloc ?_ _)); exact BK277.out) hb)
        have n1_ := Aside0.mk (blk_below (g := gb278) (o := .cells #[.string a1_0, .string a1_1, .int .i64 a1_2, .int .i64 a1_3, .int .i64 a1_4, .int .i64 a1_5] 52 (0, 0)) (by (with_reducible repeat (first | refine blk_drewN ?_ _ | refine blk_drew ?_ | refine blk_alloc ?_ _)); exact BK278.out) hb)
        have n2_ := Aside0.mk (blk_below (g := gb279) (o := .cells #[.string (⟨#[]⟩ : ByteArray), .int .i64 0, .int .i64 0, .int .i64 0, .int .i64 0] 50 (0, 0)) (by (with_reducible repeat (first | refine blk_drewN ?_ _ | refine blk_drew ?_ | refine blk_alloc ?_ _)); exact BK279.out) hb)
        have n3_ := Aside0.mk (below_step (by repeat (first | (with_reducible first | exact HB.out | apply below_alloc | apply pw_below_drewN | apply below_drew1 | refine below_set ?_ GE277.out | refine below_set ?_ GE278.out | refine below_set ?_ GE279.out) | exact HB.out)) hb)
        have n4_ := Aside0.mk (hbox)
        have n5_ := Aside0.mk ((by rw [hg]; exact (below_size (by repeat (first | (with_reducible first | exact HB.out | apply below_alloc | apply pw_below_drewN | apply below_drew1 | refine below_set ?_ GE277.out | refine below_set ?_ GE278.out | refine below_set ?_ GE279.out) | exact HB.out))) : w.heap.size ≤ gb280))
        have n6_ := Aside0.mk ((by rw [hg]; exact (below_size (by repeat (first | (with_reducible first | exact HB.out | apply below_alloc | apply pw_below_drewN | apply below_drew1 | refine below_set ?_ GE277.out | refine below_set ?_ GE278.out | refine below_set ?_ GE279.out) | exact HB.out))) : w.heap.size ≤ gb280))
        have n7_ := Aside0.mk ((by rw [hg]; exact Nat.ne_of_lt (blk_lt (g := gb277) (o := .cells #[.string a0_0, .string a0_1, .int .i64 a0_2, .int .i64 a0_3, .int .i64 a0_4, .int .i64 a0_5] 52 (0, 0)) (by (with_reducible repeat (first | refine blk_drewN ?_ _ | refine blk_drew ?_ | refine blk_alloc ?_ _)); exact BK277.out)) : gb277 ≠ gb280))
        have n8_ := Aside0.mk ((by rw [hg]; exact Nat.ne_of_gt (blk_lt (g := gb277) (o := .cells #[.string a0_0, .string a0_1, .int .i64 a0_2, .int .i64 a0_3, .int .i64 a0_4, .int .i64 a0_5] 52 (0, 0)) (by (with_reducible repeat (first | refine blk_drewN ?_ _ | refine blk_drew ?_ | refine blk_alloc ?_ _)); exact BK277.out)) : gb280 ≠ gb277))
        have n9_ := Aside0.mk ((by rw [hg]; exact Nat.ne_of_lt (blk_lt (g := gb278) (o := .cells #[.string a1_0, .string a1_1, .int .i64 a1_2, .int .i64 a1_3, .int .i64 a1_4, .int .i64 a1_5] 52 (0, 0)) (by (with_reducible repeat (first | refine blk_drewN ?_ _ | refine blk_drew ?_ | refine blk_alloc ?_ _)); exact BK278.out)) : gb278 ≠ gb280))
        have n10_ := Aside0.mk ((by rw [hg]; exact Nat.ne_of_gt (blk_lt (g := gb278) (o := .cells #[.string a1_0, .string a1_1, .int .i64 a1_2, .int .i64 a1_3, .int .i64 a1_4, .int .i64 a1_5] 52 (0, 0)) (by (with_reducible repeat (first | refine blk_drewN ?_ _ | refine blk_drew ?_ | refine blk_alloc ?_ _)); exact BK278.out)) : gb280 ≠ gb278))
        have n11_ := Aside0.mk ((by rw [hg]; exact Nat.ne_of_lt (blk_lt (g := gb279) (o := .cells #[.string (⟨#[]⟩ : ByteArray), .int .i64 0, .int .i64 0, .int .i64 0, .int .i64 0] 50 (0, 0)) (by (with_reducible repeat (first | refine blk_drewN ?_ _ | refine blk_drew ?_ | refine blk_alloc ?_ _)); exact BK279.out)) : gb279 ≠ gb280))
        have n12_ := Aside0.mk ((by rw [hg]; exact Nat.ne_of_gt (blk_lt (g := gb279) (o := .cells #[.string (⟨#[]⟩ : ByteArray), .int .i64 0, .int .i64 0, .int .i64 0, .int .i64 0] 50 (0, 0)) (by (with_reducible repeat (first | refine blk_drewN ?_ _ | refine blk_drew ?_ | refine blk_alloc ?_ _)); exact BK279.out)) : gb280 ≠ gb279))
        clear BK277
        clear BK278
        clear BK279
        clear HB
        have BK277 := n0_
        have BK278 := n1_
        have BK279 := n2_
        have HB := n3_
        have BK280 := n4_
        have GW280 := n5_
        have GE280 := n6_
        have NB277_280 := n7_
        have NB280_277 := n8_
        have NB278_280 := n9_
        have NB280_278 := n10_
        have NB279_280 := n11_
        have NB280_279 := n12_
        clear n0_ n1_ n2_ n3_ n4_ n5_ n6_ n7_ n8_ n9_ n10_ n11_ n12_
        clear hb hbox hg
        refine hK.out _ _ ⟨(blk_cell BK277.out 0).trans rfl, (blk_cell BK277.out 1).trans rfl, (blk_cell BK277.out 2).trans rfl, (blk_cell BK277.out 3).trans rfl, (blk_cell BK277.out 4).trans rfl, (blk_cell BK277.out 5).trans rfl, (blk_cell BK278.out 0).trans rfl, (blk_cell BK278.out 1).trans rfl, (blk_cell BK278.out 2).trans rfl, (blk_cell BK278.out 3).trans rfl, (blk_cell BK278.out 4).trans rfl, (blk_cell BK278.out 5).trans rfl⟩ (fun hHeld => ?_)
        clear hK K
        refine norm_ (a' := ?_) ?_ ?_
        rotate_left
        · show Act.put _ (some 6) _ = _
          simp only [Act.put, List.setIfInBounds_toArray, List.set_cons_zero, List.set_cons_succ, i64_w, i32_w]
          rfl
        exact norm_ (by simp only [putAll, Act.put, List.setIfInBounds_toArray, List.set_cons_zero, List.set_cons_succ]) (hCont (gb279, gb280) _ ⟨hHeld, (by (with_reducible repeat (first | refine blk_drewN ?_ _ | refine blk_drew ?_ | refine blk_alloc ?_ _)); exact BK277.out), (by (with_reducible repeat (first | refine blk_drewN ?_ _ | refine blk_drew ?_ | refine blk_alloc ?_ _)); exact BK278.out), (by (with_reducible repeat (first | refine blk_drewN ?_ _ | refine blk_drew ?_ | refine blk_alloc ?_ _)); exact BK279.out), (by (with_reducible repeat (first | refine blk_drewN ?_ _ | refine blk_drew ?_ | refine blk_alloc ?_ _)); exact BK280.out), GW279.out, GE279.out, NB277_279.out, NB279_277.out, NB278_279.out, NB279_278.out, NB280_279.out, NB279_280.out, GW280.out, GE280.out, NB277_280.out, NB280_277.out, NB278_280.out, NB280_278.out, (by repeat (first | (with_reducible first | exact HB.out | apply below_alloc | apply pw_below_drewN | apply below_drew1 | refine below_set ?_ GE277.out | refine below_set ?_ GE278.out | refine below_set ?_ GE279.out | refine below_set ?_ GE280.out) | exact HB.out))⟩)
      · skip
        refine box_step ?hg (N := 6) ?hd (cs := #[.string (⟨#[]⟩ : ByteArray), .int .i64 0, .int .i64 0, .int .i64 0, .int .i64 0]) (t := 50) ?hr ?_; (case hd => rfl); (case hg => rfl); (case hr => first | (go_simp; done) | (go_simp; rfl))
        intro gb280 hg w14 hbox hb
        have n0_ := Aside0.mk (blk_below (g := gb277) (o := .cells #[.string a0_0, .string a0_1, .int .i64 a0_2, .int .i64 a0_3, .int .i64 a0_4, .int .i64 a0_5] 52 (0, 0)) (by (with_reducible repeat (first | refine blk_drewN ?_ _ | refine blk_drew ?_ | refine blk_alloc ?_ _)); exact BK277.out) hb)
        have n1_ := Aside0.mk (blk_below (g := gb278) (o := .cells #[.string a1_0, .string a1_1, .int .i64 a1_2, .int .i64 a1_3, .int .i64 a1_4, .int .i64 a1_5] 52 (0, 0)) (by (with_reducible repeat (first | refine blk_drewN ?_ _ | refine blk_drew ?_ | refine blk_alloc ?_ _)); exact BK278.out) hb)
        have n2_ := Aside0.mk (below_step (by repeat (first | (with_reducible first | exact HB.out | apply below_alloc | apply pw_below_drewN | apply below_drew1 | refine below_set ?_ GE277.out | refine below_set ?_ GE278.out) | exact HB.out)) hb)
        have n3_ := Aside0.mk (hbox)
        have n4_ := Aside0.mk ((by rw [hg]; exact (below_size (by repeat (first | (with_reducible first | exact HB.out | apply below_alloc | apply pw_below_drewN | apply below_drew1 | refine below_set ?_ GE277.out | refine below_set ?_ GE278.out) | exact HB.out))) : w.heap.size ≤ gb280))
        have n5_ := Aside0.mk ((by rw [hg]; exact (below_size (by repeat (first | (with_reducible first | exact HB.out | apply below_alloc | apply pw_below_drewN | apply below_drew1 | refine below_set ?_ GE277.out | refine below_set ?_ GE278.out) | exact HB.out))) : w.heap.size ≤ gb280))
        have n6_ := Aside0.mk ((by rw [hg]; exact Nat.ne_of_lt (blk_lt (g := gb277) (o := .cells #[.string a0_0, .string a0_1, .int .i64 a0_2, .int .i64 a0_3, .int .i64 a0_4, .int .i64 a0_5] 52 (0, 0)) (by (with_reducible repeat (first | refine blk_drewN ?_ _ | refine blk_drew ?_ | refine blk_alloc ?_ _)); exact BK277.out)) : gb277 ≠ gb280))
        have n7_ := Aside0.mk ((by rw [hg]; exact Nat.ne_of_gt (blk_lt (g := gb277) (o := .cells #[.string a0_0, .string a0_1, .int .i64 a0_2, .int .i64 a0_3, .int .i64 a0_4, .int .i64 a0_5] 52 (0, 0)) (by (with_reducible repeat (first | refine blk_drewN ?_ _ | refine blk_drew ?_ | refine blk_alloc ?_ _)); exact BK277.out)) : gb280 ≠ gb277))
        have n8_ := Aside0.mk ((by rw [hg]; exact Nat.ne_of_lt (blk_lt (g := gb278) (o := .cells #[.string a1_0, .string a1_1, .int .i64 a1_2, .int .i64 a1_3, .int .i64 a1_4, .int .i64 a1_5] 52 (0, 0)) (by (with_reducible repeat (first | refine blk_drewN ?_ _ | refine blk_drew ?_ | refine blk_alloc ?_ _)); exact BK278.out)) : gb278 ≠ gb280))
        have n9_ := Aside0.mk ((by rw [hg]; exact Nat.ne_of_gt (blk_lt (g := gb278) (o := .cells #[.string a1_0, .string a1_1, .int .i64 a1_2, .int .i64 a1_3, .int .i64 a1_4, .int .i64 a1_5] 52 (0, 0)) (by (with_reducible repeat (first | refine blk_drewN ?_ _ | refine blk_drew ?_ | refine blk_alloc ?_ _)); exact BK278.out)) : gb280 ≠ gb278))
        clear BK277
        clear BK278
        clear HB
        have BK277 := n0_
        have BK278 := n1_
        have HB := n2_
        have BK280 := n3_
        have GW280 := n4_
        have GE280 := n5_
        have NB277_280 := n6_
        have NB280_277 := n7_
        have NB278_280 := n8_
        have NB280_278 := n9_
        clear n0_ n1_ n2_ n3_ n4_ n5_ n6_ n7_ n8_ n9_
        clear hb hbox hg
        refine hK.out _ _ ⟨(blk_cell BK277.out 0).trans rfl, (blk_cell BK277.out 1).trans rfl, (blk_cell BK277.out 2).trans rfl, (blk_cell BK277.out 3).trans rfl, (blk_cell BK277.out 4).trans rfl, (blk_cell BK277.out 5).trans rfl, (blk_cell BK278.out 0).trans rfl, (blk_cell BK278.out 1).trans rfl, (blk_cell BK278.out 2).trans rfl, (blk_cell BK278.out 3).trans rfl, (blk_cell BK278.out 4).trans rfl, (blk_cell BK278.out 5).trans rfl⟩ (fun hHeld => ?_)
        clear hK K
        refine norm_ (a' := ?_) ?_ ?_
        rotate_left
        · show Act.put _ (some 6) _ = _
          simp only [Act.put, List.setIfInBounds_toArray, List.set_cons_zero, List.set_cons_succ, i64_w, i32_w]
          rfl
        refine one_ (i := 4) (N := some 5) #[true, true, true, true, true, true, false, false] rfl rfl (one_of HT_.out (by kernel_rfl)) (by decide) (fun K hK => ?_)
        refine box_step ?hg (N := 5) ?hd (cs := #[.string (⟨#[]⟩ : ByteArray), .int .i64 0, .int .i64 0, .int .i64 0, .int .i64 0]) (t := 50) ?hr ?_; (case hd => rfl); (case hg => rfl); (case hr => first | (go_simp; done) | (go_simp; rfl))
        intro gb279 hg w15 hbox hb
        have n0_ := Aside0.mk (blk_below (g := gb277) (o := .cells #[.string a0_0, .string a0_1, .int .i64 a0_2, .int .i64 a0_3, .int .i64 a0_4, .int .i64 a0_5] 52 (0, 0)) (by (with_reducible repeat (first | refine blk_drewN ?_ _ | refine blk_drew ?_ | refine blk_alloc ?_ _)); exact BK277.out) hb)
        have n1_ := Aside0.mk (blk_below (g := gb278) (o := .cells #[.string a1_0, .string a1_1, .int .i64 a1_2, .int .i64 a1_3, .int .i64 a1_4, .int .i64 a1_5] 52 (0, 0)) (by (with_reducible repeat (first | refine blk_drewN ?_ _ | refine blk_drew ?_ | refine blk_alloc ?_ _)); exact BK278.out) hb)
        have n2_ := Aside0.mk (blk_below (g := gb280) (o := .cells #[.string (⟨#[]⟩ : ByteArray), .int .i64 0, .int .i64 0, .int .i64 0, .int .i64 0] 50 (0, 0)) (by (with_reducible repeat (first | refine blk_drewN ?_ _ | refine blk_drew ?_ | refine blk_alloc ?_ _)); exact BK280.out) hb)
        have n3_ := Aside0.mk (below_step (by repeat (first | (with_reducible first | exact HB.out | apply below_alloc | apply pw_below_drewN | apply below_drew1 | refine below_set ?_ GE277.out | refine below_set ?_ GE278.out | refine below_set ?_ GE280.out) | exact HB.out)) hb)
        have n4_ := Aside0.mk (hbox)
        have n5_ := Aside0.mk ((by rw [hg]; exact (below_size (by repeat (first | (with_reducible first | exact HB.out | apply below_alloc | apply pw_below_drewN | apply below_drew1 | refine below_set ?_ GE277.out | refine below_set ?_ GE278.out | refine below_set ?_ GE280.out) | exact HB.out))) : w.heap.size ≤ gb279))
        have n6_ := Aside0.mk ((by rw [hg]; exact (below_size (by repeat (first | (with_reducible first | exact HB.out | apply below_alloc | apply pw_below_drewN | apply below_drew1 | refine below_set ?_ GE277.out | refine below_set ?_ GE278.out | refine below_set ?_ GE280.out) | exact HB.out))) : w.heap.size ≤ gb279))
        have n7_ := Aside0.mk ((by rw [hg]; exact Nat.ne_of_lt (blk_lt (g := gb277) (o := .cells #[.string a0_0, .string a0_1, .int .i64 a0_2, .int .i64 a0_3, .int .i64 a0_4, .int .i64 a0_5] 52 (0, 0)) (by (with_reducible repeat (first | refine blk_drewN ?_ _ | refine blk_drew ?_ | refine blk_alloc ?_ _)); exact BK277.out)) : gb277 ≠ gb279))
        have n8_ := Aside0.mk ((by rw [hg]; exact Nat.ne_of_gt (blk_lt (g := gb277) (o := .cells #[.string a0_0, .string a0_1, .int .i64 a0_2, .int .i64 a0_3, .int .i64 a0_4, .int .i64 a0_5] 52 (0, 0)) (by (with_reducible repeat (first | refine blk_drewN ?_ _ | refine blk_drew ?_ | refine blk_alloc ?_ _)); exact BK277.out)) : gb279 ≠ gb277))
        have n9_ := Aside0.mk ((by rw [hg]; exact Nat.ne_of_lt (blk_lt (g := gb278) (o := .cells #[.string a1_0, .string a1_1, .int .i64 a1_2, .int .i64 a1_3, .int .i64 a1_4, .int .i64 a1_5] 52 (0, 0)) (by (with_reducible repeat (first | refine blk_drewN ?_ _ | refine blk_drew ?_ | refine blk_alloc ?_ _)); exact BK278.out)) : gb278 ≠ gb279))
        have n10_ := Aside0.mk ((by rw [hg]; exact Nat.ne_of_gt (blk_lt (g := gb278) (o := .cells #[.string a1_0, .string a1_1, .int .i64 a1_2, .int .i64 a1_3, .int .i64 a1_4, .int .i64 a1_5] 52 (0, 0)) (by (with_reducible repeat (first | refine blk_drewN ?_ _ | refine blk_drew ?_ | refine blk_alloc ?_ _)); exact BK278.out)) : gb279 ≠ gb278))
        have n11_ := Aside0.mk ((by rw [hg]; exact Nat.ne_of_lt (blk_lt (g := gb280) (o := .cells #[.string (⟨#[]⟩ : ByteArray), .int .i64 0, .int .i64 0, .int .i64 0, .int .i64 0] 50 (0, 0)) (by (with_reducible repeat (first | refine blk_drewN ?_ _ | refine blk_drew ?_ | refine blk_alloc ?_ _)); exact BK280.out)) : gb280 ≠ gb279))
        have n12_ := Aside0.mk ((by rw [hg]; exact Nat.ne_of_gt (blk_lt (g := gb280) (o := .cells #[.string (⟨#[]⟩ : ByteArray), .int .i64 0, .int .i64 0, .int .i64 0, .int .i64 0] 50 (0, 0)) (by (with_reducible repeat (first | refine blk_drewN ?_ _ | refine blk_drew ?_ | refine blk_alloc ?_ _)); exact BK280.out)) : gb279 ≠ gb280))
        clear BK277
        clear BK278
        clear BK280
        clear HB
        have BK277 := n0_
        have BK278 := n1_
        have BK280 := n2_
        have HB := n3_
        have BK279 := n4_
        have GW279 := n5_
        have GE279 := n6_
        have NB277_279 := n7_
        have NB279_277 := n8_
        have NB278_279 := n9_
        have NB279_278 := n10_
        have NB280_279 := n11_
        have NB279_280 := n12_
        clear n0_ n1_ n2_ n3_ n4_ n5_ n6_ n7_ n8_ n9_ n10_ n11_ n12_
        clear hb hbox hg
        refine hK.out _ _ ⟨(blk_cell BK277.out 0).trans rfl, (blk_cell BK277.out 1).trans rfl, (blk_cell BK277.out 2).trans rfl, (blk_cell BK277.out 3).trans rfl, (blk_cell BK277.out 4).trans rfl, (blk_cell BK277.out 5).trans rfl, (blk_cell BK278.out 0).trans rfl, (blk_cell BK278.out 1).trans rfl, (blk_cell BK278.out 2).trans rfl, (blk_cell BK278.out 3).trans rfl, (blk_cell BK278.out 4).trans rfl, (blk_cell BK278.out 5).trans rfl⟩ (fun hHeld => ?_)
        clear hK K
        refine norm_ (a' := ?_) ?_ ?_
        rotate_left
        · show Act.put _ (some 5) _ = _
          simp only [Act.put, List.setIfInBounds_toArray, List.set_cons_zero, List.set_cons_succ, i64_w, i32_w]
          rfl
        exact norm_ (by simp only [putAll, Act.put, List.setIfInBounds_toArray, List.set_cons_zero, List.set_cons_succ]) (hCont (gb279, gb280) _ ⟨hHeld, (by (with_reducible repeat (first | refine blk_drewN ?_ _ | refine blk_drew ?_ | refine blk_alloc ?_ _)); exact BK277.out), (by (with_reducible repeat (first | refine blk_drewN ?_ _ | refine blk_drew ?_ | refine blk_alloc ?_ _)); exact BK278.out), (by (with_reducible repeat (first | refine blk_drewN ?_ _ | refine blk_drew ?_ | refine blk_alloc ?_ _)); exact BK279.out), (by (with_reducible repeat (first | refine blk_drewN ?_ _ | refine blk_drew ?_ | refine blk_alloc ?_ _)); exact BK280.out), GW279.out, GE279.out, NB277_279.out, NB279_277.out, NB278_279.out, NB279_278.out, NB280_279.out, NB279_280.out, GW280.out, GE280.out, NB277_280.out, NB280_277.out, NB278_280.out, NB280_278.out, (by repeat (first | (with_reducible first | exact HB.out | apply below_alloc | apply pw_below_drewN | apply below_drew1 | refine below_set ?_ GE277.out | refine below_set ?_ GE278.out | refine below_set ?_ GE280.out | refine below_set ?_ GE279.out) | exact HB.out))⟩)
    rintro ⟨gb279, gb280⟩ w16 ⟨hS_, h0_, h1_, h2_, h3_, h4_, h5_, h6_, h7_, h8_, h9_, h10_, h11_, h12_, h13_, h14_, h15_, h16_, h17_, h18_⟩
    have n0_ : Aside0 (w16.heap[gb277]? = some (.cells #[.string a0_0, .string a0_1, .int .i64 a0_2, .int .i64 a0_3, .int .i64 a0_4, .int .i64 a0_5] 52 (0, 0))) := ⟨h0_⟩
    have n1_ : Aside0 (w16.heap[gb278]? = some (.cells #[.string a1_0, .string a1_1, .int .i64 a1_2, .int .i64 a1_3, .int .i64 a1_4, .int .i64 a1_5] 52 (0, 0))) := ⟨h1_⟩
    have n2_ : Aside0 (w16.heap[gb279]? = some (.cells #[.string (⟨#[]⟩ : ByteArray), .int .i64 0, .int .i64 0, .int .i64 0, .int .i64 0] 50 (0, 0))) := ⟨h2_⟩
    have n3_ : Aside0 (w16.heap[gb280]? = some (.cells #[.string (⟨#[]⟩ : ByteArray), .int .i64 0, .int .i64 0, .int .i64 0, .int .i64 0] 50 (0, 0))) := ⟨h3_⟩
    have n4_ : Aside0 (w.heap.size ≤ gb279) := ⟨h4_⟩
    have n5_ : Aside0 (w.heap.size ≤ gb279) := ⟨h5_⟩
    have n6_ : Aside0 (gb277 ≠ gb279) := ⟨h6_⟩
    have n7_ : Aside0 (gb279 ≠ gb277) := ⟨h7_⟩
    have n8_ : Aside0 (gb278 ≠ gb279) := ⟨h8_⟩
    have n9_ : Aside0 (gb279 ≠ gb278) := ⟨h9_⟩
    have n10_ : Aside0 (gb280 ≠ gb279) := ⟨h10_⟩
    have n11_ : Aside0 (gb279 ≠ gb280) := ⟨h11_⟩
    have n12_ : Aside0 (w.heap.size ≤ gb280) := ⟨h12_⟩
    have n13_ : Aside0 (w.heap.size ≤ gb280) := ⟨h13_⟩
    have n14_ : Aside0 (gb277 ≠ gb280) := ⟨h14_⟩
    have n15_ : Aside0 (gb280 ≠ gb277) := ⟨h15_⟩
    have n16_ : Aside0 (gb278 ≠ gb280) := ⟨h16_⟩
    have n17_ : Aside0 (gb280 ≠ gb278) := ⟨h17_⟩
    have n18_ : Aside0 (Below w.heap.size w w16) := ⟨h18_⟩
    clear BK277
    clear BK278
    clear HB
    clear h0_ h1_ h2_ h3_ h4_ h5_ h6_ h7_ h8_ h9_ h10_ h11_ h12_ h13_ h14_ h15_ h16_ h17_ h18_
    have BK277 := n0_
    have BK278 := n1_
    have BK279 := n2_
    have BK280 := n3_
    have GW279 := n4_
    have GE279 := n5_
    have NB277_279 := n6_
    have NB279_277 := n7_
    have NB278_279 := n8_
    have NB279_278 := n9_
    have NB280_279 := n10_
    have NB279_280 := n11_
    have GW280 := n12_
    have GE280 := n13_
    have NB277_280 := n14_
    have NB280_277 := n15_
    have NB278_280 := n16_
    have NB280_278 := n17_
    have HB := n18_
    clear n0_ n1_ n2_ n3_ n4_ n5_ n6_ n7_ n8_ n9_ n10_ n11_ n12_ n13_ n14_ n15_ n16_ n17_ n18_
    have hHeld : w16.cell? ⟨gb277, 0, none⟩ = some (.string a0_0) ∧ w16.cell? ⟨gb277, 1, none⟩ = some (.string a0_1) ∧ w16.cell? ⟨gb277, 2, none⟩ = some (.int .i64 a0_2) ∧ w16.cell? ⟨gb277, 3, none⟩ = some (.int .i64 a0_3) ∧ w16.cell? ⟨gb277, 4, none⟩ = some (.int .i64 a0_4) ∧ w16.cell? ⟨gb277, 5, none⟩ = some (.int .i64 a0_5) ∧ w16.cell? ⟨gb278, 0, none⟩ = some (.string a1_0) ∧ w16.cell? ⟨gb278, 1, none⟩ = some (.string a1_1) ∧ w16.cell? ⟨gb278, 2, none⟩ = some (.int .i64 a1_2) ∧ w16.cell? ⟨gb278, 3, none⟩ = some (.int .i64 a1_3) ∧ w16.cell? ⟨gb278, 4, none⟩ = some (.int .i64 a1_4) ∧ w16.cell? ⟨gb278, 5, none⟩ = some (.int .i64 a1_5) := hS_
    refine norm_ (a' := ?_) ?_ ?_
    rotate_left
    · simp only [putAll, Act.put, List.setIfInBounds_toArray, List.set_cons_zero, List.set_cons_succ]
      rfl
    refine one_ (i := 6) (N := none) #[true, true, true, true, true, true, true, false] rfl rfl (one_of HT_.out (by kernel_rfl)) (by decide) (fun K hK => ?_)
    have hs17 : w16.cell? ⟨gb279, 0, none⟩ = some (.string (⟨#[]⟩ : ByteArray)) := (blk_cell BK279.out 0).trans rfl
    have hfs17 := blk_frozen BK279.out 0
    have hns17_0 := NB277_279.out
    have hns17_1 := NB278_279.out
    have hns17_3 := NB280_279.out
    have hms17_0 := NB279_277.out
    have hms17_1 := NB279_278.out
    have hms17_3 := NB279_280.out
    have hs18 : w16.cell? ⟨gb279, 1, none⟩ = some (.int .i64 0) := (blk_cell BK279.out 1).trans rfl
    have hfs18 := blk_frozen BK279.out 1
    have hns18_0 := NB277_279.out
    have hns18_1 := NB278_279.out
    have hns18_3 := NB280_279.out
    have hms18_0 := NB279_277.out
    have hms18_1 := NB279_278.out
    have hms18_3 := NB279_280.out
    have hs19 : w16.cell? ⟨gb279, 2, none⟩ = some (.int .i64 0) := (blk_cell BK279.out 2).trans rfl
    have hfs19 := blk_frozen BK279.out 2
    have hns19_0 := NB277_279.out
    have hns19_1 := NB278_279.out
    have hns19_3 := NB280_279.out
    have hms19_0 := NB279_277.out
    have hms19_1 := NB279_278.out
    have hms19_3 := NB279_280.out
    have hs20 : w16.cell? ⟨gb279, 3, none⟩ = some (.int .i64 0) := (blk_cell BK279.out 3).trans rfl
    have hfs20 := blk_frozen BK279.out 3
    have hns20_0 := NB277_279.out
    have hns20_1 := NB278_279.out
    have hns20_3 := NB280_279.out
    have hms20_0 := NB279_277.out
    have hms20_1 := NB279_278.out
    have hms20_3 := NB279_280.out
    have hs21 : w16.cell? ⟨gb279, 4, none⟩ = some (.int .i64 0) := (blk_cell BK279.out 4).trans rfl
    have hfs21 := blk_frozen BK279.out 4
    have hns21_0 := NB277_279.out
    have hns21_1 := NB278_279.out
    have hns21_3 := NB280_279.out
    have hms21_0 := NB279_277.out
    have hms21_1 := NB279_278.out
    have hms21_3 := NB279_280.out
    refine skip_ (w1 := ?_) (by rfl) rfl ?_ ?_
    rotate_left
    · go_simp
      rfl
    refine hK.out _ _ ⟨((cell_far (p := ⟨gb279, _, none⟩) NB277_279.out _).trans (((cell_far (p := ⟨gb279, _, none⟩) NB277_279.out _).trans (((cell_far (p := ⟨gb279, _, none⟩) NB277_279.out _).trans (((cell_far (p := ⟨gb279, _, none⟩) NB277_279.out _).trans (((cell_far (p := ⟨gb279, _, none⟩) NB277_279.out _).trans (hHeld.1)))))))))), ((cell_far (p := ⟨gb279, _, none⟩) NB277_279.out _).trans (((cell_far (p := ⟨gb279, _, none⟩) NB277_279.out _).trans (((cell_far (p := ⟨gb279, _, none⟩) NB277_279.out _).trans (((cell_far (p := ⟨gb279, _, none⟩) NB277_279.out _).trans (((cell_far (p := ⟨gb279, _, none⟩) NB277_279.out _).trans (hHeld.2.1)))))))))), ((cell_far (p := ⟨gb279, _, none⟩) NB277_279.out _).trans (((cell_far (p := ⟨gb279, _, none⟩) NB277_279.out _).trans (((cell_far (p := ⟨gb279, _, none⟩) NB277_279.out _).trans (((cell_far (p := ⟨gb279, _, none⟩) NB277_279.out _).trans (((cell_far (p := ⟨gb279, _, none⟩) NB277_279.out _).trans (hHeld.2.2.1)))))))))), ((cell_far (p := ⟨gb279, _, none⟩) NB277_279.out _).trans (((cell_far (p := ⟨gb279, _, none⟩) NB277_279.out _).trans (((cell_far (p := ⟨gb279, _, none⟩) NB277_279.out _).trans (((cell_far (p := ⟨gb279, _, none⟩) NB277_279.out _).trans (((cell_far (p := ⟨gb279, _, none⟩) NB277_279.out _).trans (hHeld.2.2.2.1)))))))))), ((cell_far (p := ⟨gb279, _, none⟩) NB277_279.out _).trans (((cell_far (p := ⟨gb279, _, none⟩) NB277_279.out _).trans (((cell_far (p := ⟨gb279, _, none⟩) NB277_279.out _).trans (((cell_far (p := ⟨gb279, _, none⟩) NB277_279.out _).trans (((cell_far (p := ⟨gb279, _, none⟩) NB277_279.out _).trans (hHeld.2.2.2.2.1)))))))))), ((cell_far (p := ⟨gb279, _, none⟩) NB277_279.out _).trans (((cell_far (p := ⟨gb279, _, none⟩) NB277_279.out _).trans (((cell_far (p := ⟨gb279, _, none⟩) NB277_279.out _).trans (((cell_far (p := ⟨gb279, _, none⟩) NB277_279.out _).trans (((cell_far (p := ⟨gb279, _, none⟩) NB277_279.out _).trans (hHeld.2.2.2.2.2.1)))))))))), ((cell_far (p := ⟨gb279, _, none⟩) NB278_279.out _).trans (((cell_far (p := ⟨gb279, _, none⟩) NB278_279.out _).trans (((cell_far (p := ⟨gb279, _, none⟩) NB278_279.out _).trans (((cell_far (p := ⟨gb279, _, none⟩) NB278_279.out _).trans (((cell_far (p := ⟨gb279, _, none⟩) NB278_279.out _).trans (hHeld.2.2.2.2.2.2.1)))))))))), ((cell_far (p := ⟨gb279, _, none⟩) NB278_279.out _).trans (((cell_far (p := ⟨gb279, _, none⟩) NB278_279.out _).trans (((cell_far (p := ⟨gb279, _, none⟩) NB278_279.out _).trans (((cell_far (p := ⟨gb279, _, none⟩) NB278_279.out _).trans (((cell_far (p := ⟨gb279, _, none⟩) NB278_279.out _).trans (hHeld.2.2.2.2.2.2.2.1)))))))))), ((cell_far (p := ⟨gb279, _, none⟩) NB278_279.out _).trans (((cell_far (p := ⟨gb279, _, none⟩) NB278_279.out _).trans (((cell_far (p := ⟨gb279, _, none⟩) NB278_279.out _).trans (((cell_far (p := ⟨gb279, _, none⟩) NB278_279.out _).trans (((cell_far (p := ⟨gb279, _, none⟩) NB278_279.out _).trans (hHeld.2.2.2.2.2.2.2.2.1)))))))))), ((cell_far (p := ⟨gb279, _, none⟩) NB278_279.out _).trans (((cell_far (p := ⟨gb279, _, none⟩) NB278_279.out _).trans (((cell_far (p := ⟨gb279, _, none⟩) NB278_279.out _).trans (((cell_far (p := ⟨gb279, _, none⟩) NB278_279.out _).trans (((cell_far (p := ⟨gb279, _, none⟩) NB278_279.out _).trans (hHeld.2.2.2.2.2.2.2.2.2.1)))))))))), ((cell_far (p := ⟨gb279, _, none⟩) NB278_279.out _).trans (((cell_far (p := ⟨gb279, _, none⟩) NB278_279.out _).trans (((cell_far (p := ⟨gb279, _, none⟩) NB278_279.out _).trans (((cell_far (p := ⟨gb279, _, none⟩) NB278_279.out _).trans (((cell_far (p := ⟨gb279, _, none⟩) NB278_279.out _).trans (hHeld.2.2.2.2.2.2.2.2.2.2.1)))))))))), ((cell_far (p := ⟨gb279, _, none⟩) NB278_279.out _).trans (((cell_far (p := ⟨gb279, _, none⟩) NB278_279.out _).trans (((cell_far (p := ⟨gb279, _, none⟩) NB278_279.out _).trans (((cell_far (p := ⟨gb279, _, none⟩) NB278_279.out _).trans (((cell_far (p := ⟨gb279, _, none⟩) NB278_279.out _).trans (hHeld.2.2.2.2.2.2.2.2.2.2.2))))))))))⟩ (fun hHeld => ?_)
    clear hK K
    refine one_ (i := 7) (N := none) #[true, true, true, true, true, true, true, true] rfl rfl (one_of HT_.out (by kernel_rfl)) (by decide) (fun K hK => ?_)
    have hs22 : w16.cell? ⟨gb280, 0, none⟩ = some (.string (⟨#[]⟩ : ByteArray)) := (blk_cell BK280.out 0).trans rfl
    have hfs22 := blk_frozen BK280.out 0
    have hns22_0 := NB277_280.out
    have hns22_1 := NB278_280.out
    have hns22_2 := NB279_280.out
    have hms22_0 := NB280_277.out
    have hms22_1 := NB280_278.out
    have hms22_2 := NB280_279.out
    have hs23 : w16.cell? ⟨gb280, 1, none⟩ = some (.int .i64 0) := (blk_cell BK280.out 1).trans rfl
    have hfs23 := blk_frozen BK280.out 1
    have hns23_0 := NB277_280.out
    have hns23_1 := NB278_280.out
    have hns23_2 := NB279_280.out
    have hms23_0 := NB280_277.out
    have hms23_1 := NB280_278.out
    have hms23_2 := NB280_279.out
    have hs24 : w16.cell? ⟨gb280, 2, none⟩ = some (.int .i64 0) := (blk_cell BK280.out 2).trans rfl
    have hfs24 := blk_frozen BK280.out 2
    have hns24_0 := NB277_280.out
    have hns24_1 := NB278_280.out
    have hns24_2 := NB279_280.out
    have hms24_0 := NB280_277.out
    have hms24_1 := NB280_278.out
    have hms24_2 := NB280_279.out
    have hs25 : w16.cell? ⟨gb280, 3, none⟩ = some (.int .i64 0) := (blk_cell BK280.out 3).trans rfl
    have hfs25 := blk_frozen BK280.out 3
    have hns25_0 := NB277_280.out
    have hns25_1 := NB278_280.out
    have hns25_2 := NB279_280.out
    have hms25_0 := NB280_277.out
    have hms25_1 := NB280_278.out
    have hms25_2 := NB280_279.out
    have hs26 : w16.cell? ⟨gb280, 4, none⟩ = some (.int .i64 0) := (blk_cell BK280.out 4).trans rfl
    have hfs26 := blk_frozen BK280.out 4
    have hns26_0 := NB277_280.out
    have hns26_1 := NB278_280.out
    have hns26_2 := NB279_280.out
    have hms26_0 := NB280_277.out
    have hms26_1 := NB280_278.out
    have hms26_2 := NB280_279.out
    refine skip_ (w1 := ?_) (by rfl) rfl ?_ ?_
    rotate_left
    · go_simp
      rfl
    refine hK.out _ _ ⟨((cell_far (p := ⟨gb280, _, none⟩) NB277_280.out _).trans (((cell_far (p := ⟨gb280, _, none⟩) NB277_280.out _).trans (((cell_far (p := ⟨gb280, _, none⟩) NB277_280.out _).trans (((cell_far (p := ⟨gb280, _, none⟩) NB277_280.out _).trans (((cell_far (p := ⟨gb280, _, none⟩) NB277_280.out _).trans (hHeld.1)))))))))), ((cell_far (p := ⟨gb280, _, none⟩) NB277_280.out _).trans (((cell_far (p := ⟨gb280, _, none⟩) NB277_280.out _).trans (((cell_far (p := ⟨gb280, _, none⟩) NB277_280.out _).trans (((cell_far (p := ⟨gb280, _, none⟩) NB277_280.out _).trans (((cell_far (p := ⟨gb280, _, none⟩) NB277_280.out _).trans (hHeld.2.1)))))))))), ((cell_far (p := ⟨gb280, _, none⟩) NB277_280.out _).trans (((cell_far (p := ⟨gb280, _, none⟩) NB277_280.out _).trans (((cell_far (p := ⟨gb280, _, none⟩) NB277_280.out _).trans (((cell_far (p := ⟨gb280, _, none⟩) NB277_280.out _).trans (((cell_far (p := ⟨gb280, _, none⟩) NB277_280.out _).trans (hHeld.2.2.1)))))))))), ((cell_far (p := ⟨gb280, _, none⟩) NB277_280.out _).trans (((cell_far (p := ⟨gb280, _, none⟩) NB277_280.out _).trans (((cell_far (p := ⟨gb280, _, none⟩) NB277_280.out _).trans (((cell_far (p := ⟨gb280, _, none⟩) NB277_280.out _).trans (((cell_far (p := ⟨gb280, _, none⟩) NB277_280.out _).trans (hHeld.2.2.2.1)))))))))), ((cell_far (p := ⟨gb280, _, none⟩) NB277_280.out _).trans (((cell_far (p := ⟨gb280, _, none⟩) NB277_280.out _).trans (((cell_far (p := ⟨gb280, _, none⟩) NB277_280.out _).trans (((cell_far (p := ⟨gb280, _, none⟩) NB277_280.out _).trans (((cell_far (p := ⟨gb280, _, none⟩) NB277_280.out _).trans (hHeld.2.2.2.2.1)))))))))), ((cell_far (p := ⟨gb280, _, none⟩) NB277_280.out _).trans (((cell_far (p := ⟨gb280, _, none⟩) NB277_280.out _).trans (((cell_far (p := ⟨gb280, _, none⟩) NB277_280.out _).trans (((cell_far (p := ⟨gb280, _, none⟩) NB277_280.out _).trans (((cell_far (p := ⟨gb280, _, none⟩) NB277_280.out _).trans (hHeld.2.2.2.2.2.1)))))))))), ((cell_far (p := ⟨gb280, _, none⟩) NB278_280.out _).trans (((cell_far (p := ⟨gb280, _, none⟩) NB278_280.out _).trans (((cell_far (p := ⟨gb280, _, none⟩) NB278_280.out _).trans (((cell_far (p := ⟨gb280, _, none⟩) NB278_280.out _).trans (((cell_far (p := ⟨gb280, _, none⟩) NB278_280.out _).trans (hHeld.2.2.2.2.2.2.1)))))))))), ((cell_far (p := ⟨gb280, _, none⟩) NB278_280.out _).trans (((cell_far (p := ⟨gb280, _, none⟩) NB278_280.out _).trans (((cell_far (p := ⟨gb280, _, none⟩) NB278_280.out _).trans (((cell_far (p := ⟨gb280, _, none⟩) NB278_280.out _).trans (((cell_far (p := ⟨gb280, _, none⟩) NB278_280.out _).trans (hHeld.2.2.2.2.2.2.2.1)))))))))), ((cell_far (p := ⟨gb280, _, none⟩) NB278_280.out _).trans (((cell_far (p := ⟨gb280, _, none⟩) NB278_280.out _).trans (((cell_far (p := ⟨gb280, _, none⟩) NB278_280.out _).trans (((cell_far (p := ⟨gb280, _, none⟩) NB278_280.out _).trans (((cell_far (p := ⟨gb280, _, none⟩) NB278_280.out _).trans (hHeld.2.2.2.2.2.2.2.2.1)))))))))), ((cell_far (p := ⟨gb280, _, none⟩) NB278_280.out _).trans (((cell_far (p := ⟨gb280, _, none⟩) NB278_280.out _).trans (((cell_far (p := ⟨gb280, _, none⟩) NB278_280.out _).trans (((cell_far (p := ⟨gb280, _, none⟩) NB278_280.out _).trans (((cell_far (p := ⟨gb280, _, none⟩) NB278_280.out _).trans (hHeld.2.2.2.2.2.2.2.2.2.1)))))))))), ((cell_far (p := ⟨gb280, _, none⟩) NB278_280.out _).trans (((cell_far (p := ⟨gb280, _, none⟩) NB278_280.out _).trans (((cell_far (p := ⟨gb280, _, none⟩) NB278_280.out _).trans (((cell_far (p := ⟨gb280, _, none⟩) NB278_280.out _).trans (((cell_far (p := ⟨gb280, _, none⟩) NB278_280.out _).trans (hHeld.2.2.2.2.2.2.2.2.2.2.1)))))))))), ((cell_far (p := ⟨gb280, _, none⟩) NB278_280.out _).trans (((cell_far (p := ⟨gb280, _, none⟩) NB278_280.out _).trans (((cell_far (p := ⟨gb280, _, none⟩) NB278_280.out _).trans (((cell_far (p := ⟨gb280, _, none⟩) NB278_280.out _).trans (((cell_far (p := ⟨gb280, _, none⟩) NB278_280.out _).trans (hHeld.2.2.2.2.2.2.2.2.2.2.2))))))))))⟩ (fun hHeld => ?_)
    clear hK K
    refine done_ (done_of HT_.out (by kernel_rfl)) ?_
    (try simp only [wrap64_u8w, wrap64_m256])
    have hnb27 := NB279_277.out
    have hnc27 := NB277_279.out
    have hnb28 := NB279_278.out
    have hnc28 := NB278_279.out
    have hnb29 := NB279_280.out
    have hnc29 := NB280_279.out
    have hcz30_0 : w16.cell? ⟨gb279, 0, none⟩ = some (.string (⟨#[]⟩ : ByteArray)) := (blk_cell BK279.out 0).trans rfl
    have hcz30_1 : w16.cell? ⟨gb279, 1, none⟩ = some (.int .i64 0) := (blk_cell BK279.out 1).trans rfl
    have hcz30_2 : w16.cell? ⟨gb279, 2, none⟩ = some (.int .i64 0) := (blk_cell BK279.out 2).trans rfl
    have hcz30_3 : w16.cell? ⟨gb279, 3, none⟩ = some (.int .i64 0) := (blk_cell BK279.out 3).trans rfl
    have hcz30_4 : w16.cell? ⟨gb279, 4, none⟩ = some (.int .i64 0) := (blk_cell BK279.out 4).trans rfl
    have hfz30_0 := blk_frozen BK279.out 0
    have hfz30_1 := blk_frozen BK279.out 1
    have hfz30_2 := blk_frozen BK279.out 2
    have hfz30_3 := blk_frozen BK279.out 3
    have hfz30_4 := blk_frozen BK279.out 4
    have hnb31 := NB280_277.out
    have hnc31 := NB277_280.out
    have hnb32 := NB280_278.out
    have hnc32 := NB278_280.out
    have hcz33_0 : w16.cell? ⟨gb280, 0, none⟩ = some (.string (⟨#[]⟩ : ByteArray)) := (blk_cell BK280.out 0).trans rfl
    have hcz33_1 : w16.cell? ⟨gb280, 1, none⟩ = some (.int .i64 0) := (blk_cell BK280.out 1).trans rfl
    have hcz33_2 : w16.cell? ⟨gb280, 2, none⟩ = some (.int .i64 0) := (blk_cell BK280.out 2).trans rfl
    have hcz33_3 : w16.cell? ⟨gb280, 3, none⟩ = some (.int .i64 0) := (blk_cell BK280.out 3).trans rfl
    have hcz33_4 : w16.cell? ⟨gb280, 4, none⟩ = some (.int .i64 0) := (blk_cell BK280.out 4).trans rfl
    have hfz33_0 := blk_frozen BK280.out 0
    have hfz33_1 := blk_frozen BK280.out 1
    have hfz33_2 := blk_frozen BK280.out 2
    have hfz33_3 := blk_frozen BK280.out 3
    have hfz33_4 := blk_frozen BK280.out 4
    by_cases c4 : a0_1.toList = a1_1.toList
    · rw [if_pos c4] at H
      have c4b0 : (a0_1.toList == a1_1.toList) = true := beq_iff_eq.mpr c4
      have c4b1 : (a0_1.toList != a1_1.toList) = false := bne_eq_false_iff_eq.mpr c4
      clear c4
      by_cases c5 : a0_3 = a1_3
      · rw [if_pos c5] at H
        have c5b0 : (a0_3 == a1_3) = true := beq_iff_eq.mpr c5
        have c5b1 : (a0_3 != a1_3) = false := bne_eq_false_iff_eq.mpr c5
        clear c5
        by_cases c6 : a0_4 = a1_4
        · rw [if_pos c6] at H
          have c6b0 : (a0_4 == a1_4) = true := beq_iff_eq.mpr c6
          have c6b1 : (a0_4 != a1_4) = false := bne_eq_false_iff_eq.mpr c6
          clear c6
          by_cases c7 : a0_5 = a1_5
          · rw [if_pos c7] at H
            have c7b0 : (a0_5 == a1_5) = true := beq_iff_eq.mpr c7
            have c7b1 : (a0_5 != a1_5) = false := bne_eq_false_iff_eq.mpr c7
            clear c7
            obtain rfl := Option.some.inj H
            try go_wp2
            go_ret
            exact ⟨by first | rfl | (simp [errW_none, errW_some] <;> rfl) | (simp [*, errW_none, errW_some] <;> rfl), by repeat (first | (with_reducible first | exact HB.out | apply below_alloc | apply pw_below_drewN | apply below_drew1 | refine below_set ?_ GE277.out | refine below_set ?_ GE278.out | refine below_set ?_ GE279.out | refine below_set ?_ GE280.out) | exact HB.out)⟩
          · rw [if_neg c7] at H
            have c7b0 : (a0_5 == a1_5) = false := beq_eq_false_iff_ne.mpr c7
            have c7b1 : (a0_5 != a1_5) = true := bne_iff_ne.mpr c7
            obtain rfl := Option.some.inj H
            try go_wp2
            go_ret
            exact ⟨by first | rfl | (simp [errW_none, errW_some] <;> rfl) | (simp [*, errW_none, errW_some] <;> rfl), by repeat (first | (with_reducible first | exact HB.out | apply below_alloc | apply pw_below_drewN | apply below_drew1 | refine below_set ?_ GE277.out | refine below_set ?_ GE278.out | refine below_set ?_ GE279.out | refine below_set ?_ GE280.out) | exact HB.out)⟩
        · rw [if_neg c6] at H
          have c6b0 : (a0_4 == a1_4) = false := beq_eq_false_iff_ne.mpr c6
          have c6b1 : (a0_4 != a1_4) = true := bne_iff_ne.mpr c6
          obtain rfl := Option.some.inj H
          try go_wp2
          go_ret
          exact ⟨by first | rfl | (simp [errW_none, errW_some] <;> rfl) | (simp [*, errW_none, errW_some] <;> rfl), by repeat (first | (with_reducible first | exact HB.out | apply below_alloc | apply pw_below_drewN | apply below_drew1 | refine below_set ?_ GE277.out | refine below_set ?_ GE278.out | refine below_set ?_ GE279.out | refine below_set ?_ GE280.out) | exact HB.out)⟩
      · rw [if_neg c5] at H
        have c5b0 : (a0_3 == a1_3) = false := beq_eq_false_iff_ne.mpr c5
        have c5b1 : (a0_3 != a1_3) = true := bne_iff_ne.mpr c5
        obtain rfl := Option.some.inj H
        try go_wp2
        go_ret
        exact ⟨by first | rfl | (simp [errW_none, errW_some] <;> rfl) | (simp [*, errW_none, errW_some] <;> rfl), by repeat (first | (with_reducible first | exact HB.out | apply below_alloc | apply pw_below_drewN | apply below_drew1 | refine below_set ?_ GE277.out | refine below_set ?_ GE278.out | refine below_set ?_ GE279.out | refine below_set ?_ GE280.out) | exact HB.out)⟩
    · rw [if_neg c4] at H
      have c4b0 : (a0_1.toList == a1_1.toList) = false := beq_eq_false_iff_ne.mpr c4
      have c4b1 : (a0_1.toList != a1_1.toList) = true := bne_iff_ne.mpr c4
      obtain rfl := Option.some.inj H
      try go_wp2
      go_ret
      exact ⟨by first | rfl | (simp [errW_none, errW_some] <;> rfl) | (simp [*, errW_none, errW_some] <;> rfl), by repeat (first | (with_reducible first | exact HB.out | apply below_alloc | apply pw_below_drewN | apply below_drew1 | refine below_set ?_ GE277.out | refine below_set ?_ GE278.out | refine below_set ?_ GE279.out | refine below_set ?_ GE280.out) | exact HB.out)⟩
  · rw [if_neg c3] at H
    have c3b0 : (a0_0.toList == a1_0.toList) = false := beq_eq_false_iff_ne.mpr c3
    have c3b1 : (a0_0.toList != a1_0.toList) = true := bne_iff_ne.mpr c3
    obtain rfl := Option.some.inj H
    go_enter Try.func61, Try.ntmps61
    go_wp2_with (first | ((with_reducible refine gate_dst (N := 2) rfl ?_); refine box_event ?hg (N := 2) ?hd (cs := #[.string a0_0, .string a0_1, .int .i64 a0_2, .int .i64 a0_3, .int .i64 a0_4, .int .i64 a0_5]) (t := 52) ?hr ?_; (case hd => rfl); (case hg => rfl); (case hr => first | (go_simp; done) | (go_simp; rfl)); intro gb277 hg w138 hbox hb; have n0_ := Aside0.mk (below_step (by repeat (first | (with_reducible first | exact HB.out | apply below_alloc | apply pw_below_drewN | apply below_drew1) | exact HB.out)) hb); have n1_ := Aside0.mk (hbox); have n2_ := Aside0.mk ((by rw [hg]; exact (below_size (by repeat (first | (with_reducible first | exact HB.out | apply below_alloc | apply pw_below_drewN | apply below_drew1) | exact HB.out))) : w.heap.size ≤ gb277)); have n3_ := Aside0.mk ((by rw [hg]; exact (below_size (by repeat (first | (with_reducible first | exact HB.out | apply below_alloc | apply pw_below_drewN | apply below_drew1) | exact HB.out))) : w.heap.size ≤ gb277)); clear HB; have HB := n0_; have BK277 := n1_; have GW277 := n2_; have GE277 := n3_; clear n0_ n1_ n2_ n3_; clear hb hbox hg) | ((with_reducible refine gate_dst (N := 3) rfl ?_); refine box_event ?hg (N := 3) ?hd (cs := #[.string a1_0, .string a1_1, .int .i64 a1_2, .int .i64 a1_3, .int .i64 a1_4, .int .i64 a1_5]) (t := 52) ?hr ?_; (case hd => rfl); (case hg => rfl); (case hr => first | (go_simp; done) | (go_simp; rfl)); intro gb278 hg w139 hbox hb; have n0_ := Aside0.mk (blk_below (g := gb277) (o := .cells #[.string a0_0, .string a0_1, .int .i64 a0_2, .int .i64 a0_3, .int .i64 a0_4, .int .i64 a0_5] 52 (0, 0)) (by (with_reducible repeat (first | refine blk_drewN ?_ _ | refine blk_drew ?_ | refine blk_alloc ?_ _)); exact BK277.out) hb); have n1_ := Aside0.mk (below_step (by repeat (first | (with_reducible first | exact HB.out | apply below_alloc | apply pw_below_drewN | apply below_drew1 | refine below_set ?_ GE277.out) | exact HB.out)) hb); have n2_ := Aside0.mk (hbox); have n3_ := Aside0.mk ((by rw [hg]; exact (below_size (by repeat (first | (with_reducible first | exact HB.out | apply below_alloc | apply pw_below_drewN | apply below_drew1 | refine below_set ?_ GE277.out) | exact HB.out))) : w.heap.size ≤ gb278)); have n4_ := Aside0.mk ((by rw [hg]; exact (below_size (by repeat (first | (with_reducible first | exact HB.out | apply below_alloc | apply pw_below_drewN | apply below_drew1 | refine below_set ?_ GE277.out) | exact HB.out))) : w.heap.size ≤ gb278)); have n5_ := Aside0.mk ((by rw [hg]; exact Nat.ne_of_lt (blk_lt (g := gb277) (o := .cells #[.string a0_0, .string a0_1, .int .i64 a0_2, .int .i64 a0_3, .int .i64 a0_4, .int .i64 a0_5] 52 (0, 0)) (by (with_reducible repeat (first | refine blk_drewN ?_ _ | refine blk_drew ?_ | refine blk_alloc ?_ _)); exact BK277.out)) : gb277 ≠ gb278)); have n6_ := Aside0.mk ((by rw [hg]; exact Nat.ne_of_gt (blk_lt (g := gb277) (o := .cells #[.string a0_0, .string a0_1, .int .i64 a0_2, .int .i64 a0_3, .int .i64 a0_4, .int .i64 a0_5] 52 (0, 0)) (by (with_reducible repeat (first | refine blk_drewN ?_ _ | refine blk_drew ?_ | refine blk_alloc ?_ _)); exact BK277.out)) : gb278 ≠ gb277)); clear BK277; clear HB; have BK277 := n0_; have HB := n1_; have BK278 := n2_; have GW278 := n3_; have GE278 := n4_; have NB277_278 := n5_; have NB278_277 := n6_; clear n0_ n1_ n2_ n3_ n4_ n5_ n6_; clear hb hbox hg; have hnb140 := NB277_278.out; have hnc140 := NB278_277.out; have hcz141_0 : w139.cell? ⟨gb277, 0, none⟩ = some (.string a0_0) := (blk_cell BK277.out 0).trans rfl; have hcz141_1 : w139.cell? ⟨gb277, 1, none⟩ = some (.string a0_1) := (blk_cell BK277.out 1).trans rfl; have hcz141_2 : w139.cell? ⟨gb277, 2, none⟩ = some (.int .i64 a0_2) := (blk_cell BK277.out 2).trans rfl; have hcz141_3 : w139.cell? ⟨gb277, 3, none⟩ = some (.int .i64 a0_3) := (blk_cell BK277.out 3).trans rfl; have hcz141_4 : w139.cell? ⟨gb277, 4, none⟩ = some (.int .i64 a0_4) := (blk_cell BK277.out 4).trans rfl; have hcz141_5 : w139.cell? ⟨gb277, 5, none⟩ = some (.int .i64 a0_5) := (blk_cell BK277.out 5).trans rfl; have hfz141_0 := blk_frozen BK277.out 0; have hfz141_1 := blk_frozen BK277.out 1; have hfz141_2 := blk_frozen BK277.out 2; have hfz141_3 := blk_frozen BK277.out 3; have hfz141_4 := blk_frozen BK277.out 4; have hfz141_5 := blk_frozen BK277.out 5; have hcz142_0 : w139.cell? ⟨gb278, 0, none⟩ = some (.string a1_0) := (blk_cell BK278.out 0).trans rfl; have hcz142_1 : w139.cell? ⟨gb278, 1, none⟩ = some (.string a1_1) := (blk_cell BK278.out 1).trans rfl; have hcz142_2 : w139.cell? ⟨gb278, 2, none⟩ = some (.int .i64 a1_2) := (blk_cell BK278.out 2).trans rfl; have hcz142_3 : w139.cell? ⟨gb278, 3, none⟩ = some (.int .i64 a1_3) := (blk_cell BK278.out 3).trans rfl; have hcz142_4 : w139.cell? ⟨gb278, 4, none⟩ = some (.int .i64 a1_4) := (blk_cell BK278.out 4).trans rfl; have hcz142_5 : w139.cell? ⟨gb278, 5, none⟩ = some (.int .i64 a1_5) := (blk_cell BK278.out 5).trans rfl; have hfz142_0 := blk_frozen BK278.out 0; have hfz142_1 := blk_frozen BK278.out 1; have hfz142_2 := blk_frozen BK278.out 2; have hfz142_3 := blk_frozen BK278.out 3; have hfz142_4 := blk_frozen BK278.out 4; have hfz142_5 := blk_frozen BK278.out 5))
    go_ret
    exact ⟨by first | rfl | (simp [errW_none, errW_some] <;> rfl) | (simp [*, errW_none, errW_some] <;> rfl), by repeat (first | (with_reducible first | exact HB.out | apply below_alloc | apply pw_below_drewN | apply below_drew1 | refine below_set ?_ GE277.out | refine below_set ?_ GE278.out) | exact HB.out)⟩

abbrev v52 (x : S52) : Value := .agg #[.string x.f0, .string x.f1.f0, .int .i64 x.f1.f1, .int .i64 x.f1.f2, .int .i64 x.f1.f3, .int .i64 x.f1.f4]
def lt0 (a : Int) : Bool := decide (a < 0)
theorem cmpS_neg' (a b : ByteArray) : lt0 (cmpS a b) = Op.bytesLess a.toList b.toList := by
  have h := cmpS_neg a b
  cases hb : Op.bytesLess a.toList b.toList with
  | true => exact decide_eq_true (h.2 hb)
  | false => exact decide_eq_false (fun hh => by rw [h.1 hh] at hb; cases hb)
theorem cmpI_neg (a b : Int) : lt0 (cmpI a b) = decide (a < b) := by
  unfold cmpI lt0
  split
  · rename_i h; simp [h]
  · rename_i h; split <;> simp [h]
theorem less_f (x y : S52) : garretref15_Less.f x.f0 x.f1.f0 x.f1.f1 x.f1.f2 x.f1.f3 x.f1.f4 y.f0 y.f1.f0 y.f1.f1 y.f1.f2 y.f1.f3 y.f1.f4 = some (lt0 (ordS x y)) := by
  unfold garretref15_Less.f ordS
  simp only [firstNz]
  by_cases h0 : x.f0.toList = y.f0.toList
  rotate_left
  · rw [if_neg h0, if_neg (fun h => h0 (by rw [(cmpS_zero _ _).1 h])), cmpS_neg']
  rw [if_pos h0, if_pos ((cmpS_zero _ _).2 (eq_of_toList h0))]
  by_cases h1 : x.f1.f0.toList = y.f1.f0.toList
  rotate_left
  · rw [if_neg h1, if_neg (fun h => h1 (by rw [(cmpS_zero _ _).1 h])), cmpS_neg']
  rw [if_pos h1, if_pos ((cmpS_zero _ _).2 (eq_of_toList h1))]
  by_cases h2 : x.f1.f2 = y.f1.f2
  rotate_left
  · rw [if_neg h2, if_neg (fun h => h2 ((cmpI_zero _ _).1 h)), cmpI_neg]
  rw [if_pos h2, if_pos ((cmpI_zero _ _).2 h2)]
  by_cases h3 : x.f1.f3 = y.f1.f3
  rotate_left
  · rw [if_neg h3, if_neg (fun h => h3 ((cmpI_zero _ _).1 h)), cmpI_neg]
  rw [if_pos h3, if_pos ((cmpI_zero _ _).2 h3)]
  by_cases h4 : x.f1.f4 = y.f1.f4
  rotate_left
  · rw [if_neg h4, if_neg (fun h => h4 ((cmpI_zero _ _).1 h)), cmpI_neg]
  rw [if_pos h4, if_pos ((cmpI_zero _ _).2 h4)]
  by_cases h5 : x.f1.f1 = y.f1.f1
  · rw [if_pos ((cmpI_zero _ _).2 h5), h5]; simp [lt0]
  · rw [if_neg (fun h => h5 ((cmpI_zero _ _).1 h)), cmpI_neg]
theorem less_calls (x y : S52) (w : World) : Calls Try.prog 61 #[v52 x, v52 y] w fun e w' => e = .returned (.bool (decide (ordS x y < 0))) ∧ Below w.heap.size w w' := garretref15_Less.calls _ _ _ _ _ _ _ _ _ _ _ _ _ w (less_f x y)
end Go.Proofs.Ytoiedcnhojkpiaa.Q
/- The reference's table: put, walked. -/
namespace Go.Proofs.Ytoiedcnhojkpiaa.Q
open Go.RowKit Go.Maps Go.Proofs.YtoiedcnhojkpiaaW.PrintWords Go.Proofs.YtoiedcnhojkpiaaW.PrintLast Go.Proofs.YtoiedcnhojkpiaaW.PrintMore
/-- Block g is a reference's table of the list L. -/
def RTab (w : World) (base g : Nat) (L : List S52) : Prop := ∃ v, w.heap[g]? = some (.cells #[v] 30 (0, 0)) ∧ Kd.R k52 52 w base (fun _ => True) v L
theorem RTab.lt {w : World} {base g : Nat} {L : List S52} (h : RTab w base g L) : g < w.heap.size := by
  obtain ⟨v, h1, _⟩ := h
  exact blk_lt h1
theorem RTab.below {w w' : World} {base g : Nat} {L : List S52} (h : RTab w base g L) (hb : Below w.heap.size w w') : RTab w' base g L := by
  obtain ⟨v, h1, h2⟩ := h
  exact ⟨v, blk_below h1 hb, Kd.R_below h2 hb⟩
theorem eql52_quiet {o : Oper} {a : Act} {m n : Nat} {x y : S52} (hop : o.op = Op.binOp BinOp.eql 52 (.tmp m) (.tmp n) 52) (hx : a.eval (.tmp m) = v52 y) (hy : a.eval (.tmp n) = v52 x) (he : y ≠ x) (C : World → Prop) (wq : World) : o.quietAt Try.prog a C wq (.bool false) := by
  unfold Oper.quietAt
  have : (execOp a.eval o).run Try.prog wq = .ok (.value (.bool false)) wq := by
    have hu52 := Try.underlying52
    have hu50 := Try.underlying50
    have hu9 := Try.underlying9
    have hu3 := Try.underlying3
    simp only [Act.eval] at hx hy
    simp [execOp, hop, hx, hy, go_sem, hu52, hu50, hu9, hu3]
    intro h0 h1 h2 h3 h4 h5
    exact he (S52.eta_ (eq_of_toList h0) (S50.eta_ (eq_of_toList h1) h2 h3 h4 h5))
  rw [this]
  exact ⟨rfl, rfl⟩
theorem dropC {w : World} {ad : Addr} {L : List S52} {i : Nat} (h : Kd.C k52 w (some ad) L.length L) (hi : i < L.length) : Kd.C k52 w (some (ad.add (i * 6))) (L.length - i) (L.drop i) := by
  have := Kd.C_drop (c := i + 1 + L.length) h (Nat.le_of_lt hi) (by omega)
  rw [if_neg (by omega), List.length_drop] at this
  exact this
theorem dropE {w : World} {A : Option Addr} {L : List S52} {m : Nat} (h : L = []) (hm : m = 0) : Kd.C k52 w A m L := by
  subst h hm
  exact ⟨rfl, Nat.zero_le _, fun h => absurd h (Nat.lt_irrefl _)⟩
set_option maxHeartbeats 8000000 in
set_option maxRecDepth 100000 in
theorem rput_calls (base gr : Nat) (L : List S52) (x : S52) (w : World) (h : RTab w base gr L) (hs : Sorted L) (hl : L.length ≤ 10000) (hbase : base ≤ w.heap.size) :
    Calls Try.prog 29 #[.pointer (some ⟨gr, 0, none⟩), v52 x] w fun e w' => e = .returned (.tuple #[]) ∧ RTab w' base gr (putS L x) ∧ KeepB w.heap.size gr w w' := by
  obtain ⟨v, hblk, hR⟩ := h
  obtain ⟨A, c, rfl, hle, hC⟩ := Kd.R_reads hR
  have HT := Aside0.mk hblk
  have HR := Aside0.mk hR
  have HC := Aside0.mk hC
  have HS := Aside0.mk hs
  have hgl := blk_lt hblk
  clear hblk hR hC hs
  unfold v52
  go_enter Try.func29, Try.ntmps29
  go_upto_region 1 with (fail)
  have HB0 : Aside0 (Below w.heap.size w (w.alloc (.cells #[.string x.f0, .string x.f1.f0, .int .i64 x.f1.f1, .int .i64 x.f1.f2, .int .i64 x.f1.f3, .int .i64 x.f1.f4] 52))) := ⟨below_alloc (Below.refl _ _) _⟩
  have HG0 : Aside0 ((w.alloc (.cells #[.string x.f0, .string x.f1.f0, .int .i64 x.f1.f1, .int .i64 x.f1.f2, .int .i64 x.f1.f3, .int .i64 x.f1.f4] 52)).heap[w.heap.size]? = some (.cells #[.string x.f0, .string x.f1.f0, .int .i64 x.f1.f1, .int .i64 x.f1.f2, .int .i64 x.f1.f3, .int .i64 x.f1.f4] 52 (0, 0))) := ⟨(MapKept.heap_alloc w _).1⟩
  generalize (w.alloc (.cells #[.string x.f0, .string x.f1.f0, .int .i64 x.f1.f1, .int .i64 x.f1.f2, .int .i64 x.f1.f3, .int .i64 x.f1.f4] 52)) = W at HB0 HG0 ⊢
  go_wp2_with (fail)
  go_loopw [4] (fun v4 wr => ∃ i : Nat, i ≤ L.length ∧ v4 = .int .i64 i ∧ Aside0 (∀ t y, t < i → L[t]? = some y → ordS y x < 0) ∧ Aside0 (wr.heap[w.heap.size]? = some (.cells #[.string x.f0, .string x.f1.f0, .int .i64 x.f1.f1, .int .i64 x.f1.f2, .int .i64 x.f1.f3, .int .i64 x.f1.f4] 52 (0, 0))) ∧ Aside0 (Below w.heap.size w wr)) (fun v4 _ => L.length - (intOf v4).toNat)
  case atStart => exact ⟨0, Nat.zero_le _, rfl, ⟨fun t y ht => absurd ht (Nat.not_lt_zero _)⟩, HG0, HB0⟩
  case round =>
    clear HB0 HG0
    obtain ⟨i, hin, rfl, HI, HG, HB⟩ := hrel
    have t0 : wr.cell? ⟨gr, 0, none⟩ = some (.slice A L.length c) := (blk_cell (blk_below HT.out HB.out) 0).trans rfl
    have b0 : wr.cell? ⟨w.heap.size, 0, none⟩ = some (.string x.f0) := (blk_cell HG.out 0).trans rfl
    have b1 : wr.cell? ⟨w.heap.size, 1, none⟩ = some (.string x.f1.f0) := (blk_cell HG.out 1).trans rfl
    have b2 : wr.cell? ⟨w.heap.size, 2, none⟩ = some (.int .i64 x.f1.f1) := (blk_cell HG.out 2).trans rfl
    have b3 : wr.cell? ⟨w.heap.size, 3, none⟩ = some (.int .i64 x.f1.f2) := (blk_cell HG.out 3).trans rfl
    have b4 : wr.cell? ⟨w.heap.size, 4, none⟩ = some (.int .i64 x.f1.f3) := (blk_cell HG.out 4).trans rfl
    have b5 : wr.cell? ⟨w.heap.size, 5, none⟩ = some (.int .i64 x.f1.f4) := (blk_cell HG.out 5).trans rfl
    by_cases hlt : i < L.length
    · obtain ⟨ad, y, rfl, hy, h0, h1, h2, h3, h4, h5⟩ := at52 (Kd.C_below HC.out HB.out) i hlt
      have HY := Aside0.mk hy
      have d1 : decide ((i : Int) < (L.length : Int)) = true := decide_eq_true (by omega)
      have d2 : decide (i < L.length) = true := decide_eq_true hlt
      clear hy
      go_wp2_with (fail)
      go_region_held3 (fun wq => wq.cell? ⟨gr, 0, none⟩ = some (.slice (some ad) L.length c) ∧ wq.cell? (ad.add (i * 6)) = some (.string y.f0) ∧ wq.cell? ⟨(ad.add (i * 6)).block, (ad.add (i * 6)).off + 1, none⟩ = some (.string y.f1.f0) ∧ wq.cell? ⟨(ad.add (i * 6)).block, (ad.add (i * 6)).off + 2, none⟩ = some (.int .i64 y.f1.f1) ∧ wq.cell? ⟨(ad.add (i * 6)).block, (ad.add (i * 6)).off + 3, none⟩ = some (.int .i64 y.f1.f2) ∧ wq.cell? ⟨(ad.add (i * 6)).block, (ad.add (i * 6)).off + 4, none⟩ = some (.int .i64 y.f1.f3) ∧ wq.cell? ⟨(ad.add (i * 6)).block, (ad.add (i * 6)).off + 5, none⟩ = some (.int .i64 y.f1.f4) ∧ wq.cell? ⟨w.heap.size, 0, none⟩ = some (.string x.f0) ∧ wq.cell? ⟨w.heap.size, 1, none⟩ = some (.string x.f1.f0) ∧ wq.cell? ⟨w.heap.size, 2, none⟩ = some (.int .i64 x.f1.f1) ∧ wq.cell? ⟨w.heap.size, 3, none⟩ = some (.int .i64 x.f1.f2) ∧ wq.cell? ⟨w.heap.size, 4, none⟩ = some (.int .i64 x.f1.f3) ∧ wq.cell? ⟨w.heap.size, 5, none⟩ = some (.int .i64 x.f1.f4)) (first | assumption | exact ⟨t0, h0, h1, h2, h3, h4, h5, b0, b1, b2, b3, b4, b5⟩ | exact ⟨pw_cell_below hB t0, pw_cell_below hB h0, pw_cell_below hB h1, pw_cell_below hB h2, pw_cell_below hB h3, pw_cell_below hB h4, pw_cell_below hB h5, pw_cell_below hB b0, pw_cell_below hB b1, pw_cell_below hB b2, pw_cell_below hB b3, pw_cell_below hB b4, pw_cell_below hB b5⟩) (first | (go_at_call 61; (with_reducible refine (less_calls y x _).mono ?_); rintro e w1 ⟨rfl, hB⟩; have HB1 := Aside0.mk (below_step (below_drew HB.out) hB); have HG1 := Aside0.mk (blk_below (blk_below HG.out (below_drew1 (Below.refl _ _))) hB)))
      have e1 : w1.cell? ⟨gr, 0, none⟩ = some (.slice (some ad) L.length c) := pw_cell_below hB t0
      have g0 : w1.cell? (ad.add (i * 6)) = some (.string y.f0) := pw_cell_below hB h0
      have g1 : w1.cell? ⟨(ad.add (i * 6)).block, (ad.add (i * 6)).off + 1, none⟩ = some (.string y.f1.f0) := pw_cell_below hB h1
      have g2 : w1.cell? ⟨(ad.add (i * 6)).block, (ad.add (i * 6)).off + 2, none⟩ = some (.int .i64 y.f1.f1) := pw_cell_below hB h2
      have g3 : w1.cell? ⟨(ad.add (i * 6)).block, (ad.add (i * 6)).off + 3, none⟩ = some (.int .i64 y.f1.f2) := pw_cell_below hB h3
      have g4 : w1.cell? ⟨(ad.add (i * 6)).block, (ad.add (i * 6)).off + 4, none⟩ = some (.int .i64 y.f1.f3) := pw_cell_below hB h4
      have g5 : w1.cell? ⟨(ad.add (i * 6)).block, (ad.add (i * 6)).off + 5, none⟩ = some (.int .i64 y.f1.f4) := pw_cell_below hB h5
      have x0 : w1.cell? ⟨w.heap.size, 0, none⟩ = some (.string x.f0) := pw_cell_below hB b0
      have x1 : w1.cell? ⟨w.heap.size, 1, none⟩ = some (.string x.f1.f0) := pw_cell_below hB b1
      have x2 : w1.cell? ⟨w.heap.size, 2, none⟩ = some (.int .i64 x.f1.f1) := pw_cell_below hB b2
      have x3 : w1.cell? ⟨w.heap.size, 3, none⟩ = some (.int .i64 x.f1.f2) := pw_cell_below hB b3
      have x4 : w1.cell? ⟨w.heap.size, 4, none⟩ = some (.int .i64 x.f1.f3) := pw_cell_below hB b4
      have x5 : w1.cell? ⟨w.heap.size, 5, none⟩ = some (.int .i64 x.f1.f4) := pw_cell_below hB b5
      clear t0 h0 h1 h2 h3 h4 h5 b0 b1 b2 b3 b4 b5 hB
      go_wp2_with (fail)
      · have hc : ordS y x < 0 := by assumption
        have HI2 : Aside0 (∀ t z, t < i + 1 → L[t]? = some z → ordS z x < 0) := ⟨fun t z ht hz => by
          by_cases hti : t = i
          · subst hti
            rw [HY.out] at hz
            injection hz with hz
            rw [← hz]
            exact hc
          · exact HI.out t z (by omega) hz⟩
        go_roundw
        case rel => exact ⟨i + 1, by omega, by go_num, HI2, HG1, HB1⟩
        case measure => simp [intOf]; omega
      · have hc : ¬ ordS y x < 0 := by have : 0 ≤ ordS y x := by assumption
                                       omega
        have HCUT : Aside0 (Cut L (fun y => ordS y x) i) := ⟨hin, HI.out, fun t z ht hz => Int.not_lt.1 fun hn => hc (HS.out.split x i t y z ht HY.out hz hn)⟩
        clear HI
        by_cases he : y = x
        · have HPE : Aside0 (putS L x = L) := ⟨by unfold putS; rw [if_pos ((isIn_iff L x).2 (by rw [← he]; exact List.mem_of_getElem? HY.out))]⟩
          subst he
          go_quiet (fail)
          go_wp2_with (fail)
          (try simp only [Exit.inBlock, Exit.then])
          refine bodyPost_ret (results_none rfl _ _ _) rfl ?_
          refine ⟨rfl, ?_, ?_⟩
          · rw [HPE.out]; exact ⟨_, blk_below HT.out (pw_below_drewN HB1.out _), Kd.R_below HR.out (pw_below_drewN HB1.out _)⟩
          · exact KeepB.of_below (pw_below_drewN HB1.out _) (Nat.le_refl _)
        · refine wp_region_quiet_lit (by kernel_rfl) (by kernel_rfl) ?_
          repeat (quiet_step (fail))
          refine wpQuiet_step (fun K hK => ?_)
          rw [if_pos (wanted_on rfl rfl rfl rfl)]
          refine ⟨.bool false, fun wq _ => eql52_quiet rfl rfl rfl he _ wq, hK _ ?_⟩
          clear hK K
          repeat (quiet_step (fail))
          refine wpQuiet_nil ?_
          intro _ hw'
          obtain ⟨nq, hw''⟩ := hw'
          subst hw''
          have HPE : Aside0 (putS L x = L.take i ++ x :: L.drop i) := ⟨putS_cut HS.out HCUT.out (by rw [HY.out]; intro e; injection e with e; exact he e)⟩
          have HBX : Aside0 (Below w1.heap.size w1 (w1.drewN nq)) := ⟨pw_below_drewN (Below.refl _ _) _⟩
          have HBQ := Aside0.mk (below_step HB1.out HBX.out)
          have HGQ := Aside0.mk (blk_below HG1.out HBX.out)
          obtain ⟨W2, hW2⟩ : ∃ W2, W2 = w1.drewN nq := ⟨_, rfl⟩
          rw [← hW2] at HBQ HGQ ⊢
          clear e1 g0 g1 g2 g3 g4 g5 x0 x1 x2 x3 x4 x5 HBX HB1 HG1 hW2
          have t0 : W2.cell? ⟨gr, 0, none⟩ = some (.slice (some ad) L.length c) := (blk_cell (blk_below HT.out HBQ.out) 0).trans rfl
          have HC1 : Aside0 (Kd.C k52 W2 (some ad) i (L.take i)) := ⟨by have := Kd.C_take (Kd.C_below HC.out HBQ.out) (m := i) (by omega); rwa [List.length_take, Nat.min_eq_left (by omega)] at this⟩
          have hic : i ≤ c := by omega
          go_upto_region 7 with (first | ((with_reducible refine gate_builtin (b := .append) (xs := #[.tmp 44, .tmp 50]) rfl ?_); at_builtin; refine Kd.R_append_rows k52 (Rr := Kd.K k52 W2) (w0 := W2) W2.heap.size ?hg (.tmp 44) (.tmp 50) 22 52 (.agg #[.string ⟨#[]⟩, .string ⟨#[]⟩, .int .i64 0, .int .i64 0, .int .i64 0, .int .i64 0]) 64 ?ho Try.underlying22 info52 rfl (by decide) (by omega) (.slice none 0 0) [] (L.take i) (some ad) i c (fun _ => True) (fun _ => False) ?hs ?hx ?aO ?aR ?aK (fun _ hk => hk.elim) (fun _ _ => trivial) ?aB ?aS ?aL ?_; (case hg => rfl); (case ho => rfl); (case hs => rfl); (case hx => rfl); (case aO => exact (Kd.R_nil k52 52 _ _ _)); (case aR => exact HC1.out); (case aK => exact fun x cs h => flat_M52 h); (case aB => exact (Below.refl _ _)); (case aS => exact (Nat.le_refl _)); (case aL => simp; omega); intro v6 w6 ho hb hg hat; have HO6 := Aside0.mk ho; have HB6 := Aside0.mk hb; clear ho hb hg hat))
          have HG6 := Aside0.mk (blk_below HGQ.out HB6.out)
          have b0 : w6.cell? ⟨w.heap.size, 0, none⟩ = some (.string x.f0) := (blk_cell HG6.out 0).trans rfl
          have b1 : w6.cell? ⟨w.heap.size, 1, none⟩ = some (.string x.f1.f0) := (blk_cell HG6.out 1).trans rfl
          have b2 : w6.cell? ⟨w.heap.size, 2, none⟩ = some (.int .i64 x.f1.f1) := (blk_cell HG6.out 2).trans rfl
          have b3 : w6.cell? ⟨w.heap.size, 3, none⟩ = some (.int .i64 x.f1.f2) := (blk_cell HG6.out 3).trans rfl
          have b4 : w6.cell? ⟨w.heap.size, 4, none⟩ = some (.int .i64 x.f1.f3) := (blk_cell HG6.out 4).trans rfl
          have b5 : w6.cell? ⟨w.heap.size, 5, none⟩ = some (.int .i64 x.f1.f4) := (blk_cell HG6.out 5).trans rfl
          go_upto_region 8 with (first | ((with_reducible refine gate_builtin (b := .append) (xs := #[.tmp 52, .tmp 54]) rfl ?_); at_builtin; refine Kd.R_append k52 (w0 := W2) W2.heap.size ?hg (.tmp 52) (.tmp 54) 22 52 (.agg #[.string ⟨#[]⟩, .string ⟨#[]⟩, .int .i64 0, .int .i64 0, .int .i64 0, .int .i64 0]) 64 ?ho Try.underlying22 info52 rfl (by decide) (by omega) v6 (([] ++ L.take i)) (x) [.string x.f0, .string x.f1.f0, .int .i64 x.f1.f1, .int .i64 x.f1.f2, .int .i64 x.f1.f3, .int .i64 x.f1.f4] (fun _ => True) (fun _ => False) ?hs ?hx ?aP (fun _ hk => hk.elim) (fun _ _ => trivial) ?aO ?aB ?aS ?aL ?_; (case hg => rfl); (case ho => rfl); (case hs => rfl); (case hx => rfl); (case aP => exact k52_mkM _ _ _ (x)); (case aB => exact HB6.out); (case aO => exact HO6.out); (case aS => exact HB6.out.size); (case aL => have := List.length_take_le i L; simp; omega); intro v9 w9 ho hb hg hat; have HO9 := Aside0.mk ho; have HB9 := Aside0.mk hb; clear ho hb hg hat))
          have HB29 := Aside0.mk (below_step HBQ.out HB9.out)
          have t9 : w9.cell? ⟨gr, 0, none⟩ = some (.slice (some ad) L.length c) := (blk_cell (blk_below HT.out HB29.out) 0).trans rfl
          have f9 := blk_frozen (blk_below HT.out HB29.out) 0
          go_wp2_with (first | ((with_reducible refine gate_builtin (b := .append) (xs := #[.tmp 57, .tmp 63]) rfl ?_); at_builtin; refine Kd.R_append_rows k52 (Rr := Kd.K k52 w9) (w0 := W2) W2.heap.size ?hg (.tmp 57) (.tmp 63) 22 52 (.agg #[.string ⟨#[]⟩, .string ⟨#[]⟩, .int .i64 0, .int .i64 0, .int .i64 0, .int .i64 0]) 64 ?ho Try.underlying22 info52 rfl (by decide) (by omega) v9 ([] ++ L.take i ++ [x]) (L.drop i) ?A1 ?m1 ?c1 (fun _ => True) (fun _ => False) ?hs ?hx ?aO ?aR ?aK (fun _ hk => hk.elim) (fun _ _ => trivial) ?aB ?aS ?aL ?_; (case hg => rfl); (case ho => rfl); (case hs => rfl); (case hx => rfl); (case aO => exact HO9.out); (case aR => exact (by refine Kd.C_below ?_ HB29.out; exact dropC HC.out (by omega))); (case aK => exact fun x cs h => flat_M52 h); (case aB => exact HB9.out); (case aS => exact HB9.out.size); (case aL => simp; omega); intro v8 w8 ho hb hg hat; obtain ⟨A8, c8, hv8⟩ := Kd.R_slice ho; subst hv8; obtain ⟨n8, hn8⟩ : ∃ n8, n8 = ([] ++ L.take i ++ [x] ++ L.drop i).length := ⟨_, rfl⟩; rw [← hn8] at ho hat ⊢; clear hn8; have HO8 := Aside0.mk ho; have hp8 : w8.cell? ⟨gr, 0, none⟩ = some (.slice (some ad) L.length c) := (blk_cell (blk_below HT.out (below_step HBQ.out hb)) 0).trans rfl; have hf8 := blk_frozen (blk_below HT.out (below_step HBQ.out hb)) 0; have HB8 := Aside0.mk hb; clear ho hb hg hat))
          all_goals
            go_end0
            have HT8 := Aside0.mk (blk_below HT.out (below_step HBQ.out HB8.out))
            refine ⟨rfl, ⟨_, blk_set HT8.out 0 _, ?_⟩, (KeepB.of_below (below_step HBQ.out HB8.out) (Nat.le_refl _)).trans (KeepB.set _ _ _)⟩
            rw [HPE.out]
            have := Kd.R_lower (Kd.R_set HO8.out HT8.out (by decide) 0 (.slice A8 n8 c8)) (Nat.le_trans hbase HBQ.out.size)
            simpa using this
    · obtain rfl : i = L.length := by omega
      have HCUT : Aside0 (Cut L (fun y => ordS y x) L.length) := ⟨Nat.le_refl _, HI.out, fun t z ht hz => by have := (List.getElem?_eq_some_iff.1 hz).1; omega⟩
      have HPE : Aside0 (putS L x = L.take L.length ++ x :: L.drop L.length) := ⟨putS_cut HS.out HCUT.out (by simp)⟩
      have d1 : decide ((L.length : Int) < (L.length : Int)) = false := decide_eq_false (by omega)
      have d2 : decide (L.length < L.length) = false := decide_eq_false (by omega)
      go_wp2_with (fail)
      go_quiet (fail)
      have HBQ1 := Aside0.mk (pw_below_drewN HB.out nq)
      have HGQ1 := Aside0.mk (blk_below HG.out (pw_below_drewN (Below.refl _ _) nq))
      generalize wr.drewN nq = W1 at HBQ1 HGQ1 ⊢
      have t1 : W1.cell? ⟨gr, 0, none⟩ = some (.slice A L.length c) := (blk_cell (blk_below HT.out HBQ1.out) 0).trans rfl
      go_wp2_with (fail)
      go_quiet (fail)
      have HBQ := Aside0.mk (pw_below_drewN HBQ1.out nq)
      have HGQ := Aside0.mk (blk_below HGQ1.out (pw_below_drewN (Below.refl _ _) nq))
      generalize W1.drewN nq = W2 at HBQ HGQ ⊢
      have t0 : W2.cell? ⟨gr, 0, none⟩ = some (.slice (A) L.length c) := (blk_cell (blk_below HT.out HBQ.out) 0).trans rfl
      have HC1 : Aside0 (Kd.C k52 W2 (A) L.length (L.take L.length)) := ⟨by have := Kd.C_take (Kd.C_below HC.out HBQ.out) (m := L.length) (by omega); rwa [List.length_take, Nat.min_eq_left (by omega)] at this⟩
      have hic : L.length ≤ c := by omega
      go_upto_region 7 with (first | ((with_reducible refine gate_builtin (b := .append) (xs := #[.tmp 44, .tmp 50]) rfl ?_); at_builtin; refine Kd.R_append_rows k52 (Rr := Kd.K k52 W2) (w0 := W2) W2.heap.size ?hg (.tmp 44) (.tmp 50) 22 52 (.agg #[.string ⟨#[]⟩, .string ⟨#[]⟩, .int .i64 0, .int .i64 0, .int .i64 0, .int .i64 0]) 64 ?ho Try.underlying22 info52 rfl (by decide) (by omega) (.slice none 0 0) [] (L.take L.length) (A) L.length c (fun _ => True) (fun _ => False) ?hs ?hx ?aO ?aR ?aK (fun _ hk => hk.elim) (fun _ _ => trivial) ?aB ?aS ?aL ?_; (case hg => rfl); (case ho => rfl); (case hs => rfl); (case hx => rfl); (case aO => exact (Kd.R_nil k52 52 _ _ _)); (case aR => exact HC1.out); (case aK => exact fun x cs h => flat_M52 h); (case aB => exact (Below.refl _ _)); (case aS => exact (Nat.le_refl _)); (case aL => simp; omega); intro v6 w6 ho hb hg hat; have HO6 := Aside0.mk ho; have HB6 := Aside0.mk hb; clear ho hb hg hat))
      have HG6 := Aside0.mk (blk_below HGQ.out HB6.out)
      have b0 : w6.cell? ⟨w.heap.size, 0, none⟩ = some (.string x.f0) := (blk_cell HG6.out 0).trans rfl
      have b1 : w6.cell? ⟨w.heap.size, 1, none⟩ = some (.string x.f1.f0) := (blk_cell HG6.out 1).trans rfl
      have b2 : w6.cell? ⟨w.heap.size, 2, none⟩ = some (.int .i64 x.f1.f1) := (blk_cell HG6.out 2).trans rfl
      have b3 : w6.cell? ⟨w.heap.size, 3, none⟩ = some (.int .i64 x.f1.f2) := (blk_cell HG6.out 3).trans rfl
      have b4 : w6.cell? ⟨w.heap.size, 4, none⟩ = some (.int .i64 x.f1.f3) := (blk_cell HG6.out 4).trans rfl
      have b5 : w6.cell? ⟨w.heap.size, 5, none⟩ = some (.int .i64 x.f1.f4) := (blk_cell HG6.out 5).trans rfl
      go_upto_region 8 with (first | ((with_reducible refine gate_builtin (b := .append) (xs := #[.tmp 52, .tmp 54]) rfl ?_); at_builtin; refine Kd.R_append k52 (w0 := W2) W2.heap.size ?hg (.tmp 52) (.tmp 54) 22 52 (.agg #[.string ⟨#[]⟩, .string ⟨#[]⟩, .int .i64 0, .int .i64 0, .int .i64 0, .int .i64 0]) 64 ?ho Try.underlying22 info52 rfl (by decide) (by omega) v6 (([] ++ L.take L.length)) (x) [.string x.f0, .string x.f1.f0, .int .i64 x.f1.f1, .int .i64 x.f1.f2, .int .i64 x.f1.f3, .int .i64 x.f1.f4] (fun _ => True) (fun _ => False) ?hs ?hx ?aP (fun _ hk => hk.elim) (fun _ _ => trivial) ?aO ?aB ?aS ?aL ?_; (case hg => rfl); (case ho => rfl); (case hs => rfl); (case hx => rfl); (case aP => exact k52_mkM _ _ _ (x)); (case aB => exact HB6.out); (case aO => exact HO6.out); (case aS => exact HB6.out.size); (case aL => have := List.length_take_le L.length L; simp; omega); intro v9 w9 ho hb hg hat; have HO9 := Aside0.mk ho; have HB9 := Aside0.mk hb; clear ho hb hg hat))
      have HB29 := Aside0.mk (below_step HBQ.out HB9.out)
      have t9 : w9.cell? ⟨gr, 0, none⟩ = some (.slice (A) L.length c) := (blk_cell (blk_below HT.out HB29.out) 0).trans rfl
      have f9 := blk_frozen (blk_below HT.out HB29.out) 0
      go_wp2_with (first | ((with_reducible refine gate_builtin (b := .append) (xs := #[.tmp 57, .tmp 63]) rfl ?_); at_builtin; refine Kd.R_append_rows k52 (Rr := Kd.K k52 w9) (w0 := W2) W2.heap.size ?hg (.tmp 57) (.tmp 63) 22 52 (.agg #[.string ⟨#[]⟩, .string ⟨#[]⟩, .int .i64 0, .int .i64 0, .int .i64 0, .int .i64 0]) 64 ?ho Try.underlying22 info52 rfl (by decide) (by omega) v9 ([] ++ L.take L.length ++ [x]) (L.drop L.length) ?B1 ?m2 ?c2 (fun _ => True) (fun _ => False) ?hs ?hx ?aO ?aR ?aK (fun _ hk => hk.elim) (fun _ _ => trivial) ?aB ?aS ?aL ?_; (case hg => rfl); (case ho => rfl); (case hs => rfl); (case hx => rfl); (case aO => exact HO9.out); (case aR => exact (dropE (by simp) (by simp))); (case aK => exact fun x cs h => flat_M52 h); (case aB => exact HB9.out); (case aS => exact HB9.out.size); (case aL => simp; omega); intro v8 w8 ho hb hg hat; obtain ⟨A8, c8, hv8⟩ := Kd.R_slice ho; subst hv8; obtain ⟨n8, hn8⟩ : ∃ n8, n8 = ([] ++ L.take L.length ++ [x] ++ L.drop L.length).length := ⟨_, rfl⟩; rw [← hn8] at ho hat ⊢; clear hn8; have HO8 := Aside0.mk ho; have hp8 : w8.cell? ⟨gr, 0, none⟩ = some (.slice (A) L.length c) := (blk_cell (blk_below HT.out (below_step HBQ.out hb)) 0).trans rfl; have hf8 := blk_frozen (blk_below HT.out (below_step HBQ.out hb)) 0; have HB8 := Aside0.mk hb; clear ho hb hg hat))
      all_goals
        go_end0
        have HT8 := Aside0.mk (blk_below HT.out (below_step HBQ.out HB8.out))
        refine ⟨rfl, ⟨_, blk_set HT8.out 0 _, ?_⟩, (KeepB.of_below (below_step HBQ.out HB8.out) (Nat.le_refl _)).trans (KeepB.set _ _ _)⟩
        rw [HPE.out]
        have := Kd.R_lower (Kd.R_set HO8.out HT8.out (by decide) 0 (.slice A8 n8 c8)) (Nat.le_trans hbase HBQ.out.size)
        simpa using this
end Go.Proofs.Ytoiedcnhojkpiaa.Q
/- The reference's table: Add, walked. -/
namespace Go.Proofs.Ytoiedcnhojkpiaa.Q
open Go.RowKit Go.Maps Go.Proofs.YtoiedcnhojkpiaaW.PrintWords Go.Proofs.YtoiedcnhojkpiaaW.PrintLast Go.Proofs.YtoiedcnhojkpiaaW.PrintMore
theorem KeepB.lower {b1 b2 g : Nat} {w w1 : World} (h : KeepB b2 g w w1) (hb : b1 ≤ b2) : KeepB b1 g w w1 := ⟨h.os, h.tape, h.output, h.size, fun k hk hg => h.block k (Nat.lt_of_lt_of_le hk hb) hg⟩
def putL (L l : List S52) : List S52 := l.foldl putS L
theorem putL_take (L l : List S52) (k : Nat) (h : k < l.length) : putL L (l.take (k + 1)) = putS (putL L (l.take k)) l[k] := by
  unfold putL
  rw [List.take_succ_eq_append_getElem h, List.foldl_append]
  rfl
theorem putL_sorted : ∀ (l L : List S52), Sorted L → Sorted (putL L l)
  | [], _, h => h
  | x :: l, L, h => putL_sorted l _ (putS_sorted L x h)
theorem putL_len : ∀ (l L : List S52), (putL L l).length ≤ L.length + l.length
  | [], L => Nat.le_refl _
  | x :: l, L => by
    have h1 := putL_len l (putS L x)
    have h2 := putS_len L x
    show (putL (putS L x) l).length ≤ _
    simp only [List.length_cons]
    omega
theorem putL_mem : ∀ (l L : List S52) (y : S52), y ∈ putL L l ↔ y ∈ L ∨ y ∈ l
  | [], L, y => by simp [putL]
  | x :: l, L, y => by
    show y ∈ putL (putS L x) l ↔ _
    rw [putL_mem l, putS_mem]
    simp [or_assoc]
set_option maxHeartbeats 8000000 in
set_option maxRecDepth 100000 in
theorem radd_calls (base gr c : Nat) (A : Option Addr) (L l : List S52) (w : World) (h : RTab w base gr L) (hs : Sorted L) (hL : L.length ≤ 1000) (hbase : base ≤ w.heap.size) (hr : Kd.C k52 w A l.length l) (hl : l.length ≤ 1000) (hA : ∀ ad, A = some ad → ad.block < w.heap.size ∧ ad.block ≠ gr) :
    Calls Try.prog 9 #[.pointer (some ⟨gr, 0, none⟩), .slice A l.length c] w fun e w' => KeepB w.heap.size gr w w' ∧ ((e = .returned (.int .i64 0) ∧ (∀ x ∈ l, chk x = true) ∧ RTab w' base gr (putL L l)) ∨ (e = .returned (.int .i64 1) ∧ (∃ x ∈ l, chk x = false) ∧ RTab w' base gr L)) := by
  have HR := Aside0.mk hr
  have HT := Aside0.mk h
  have HSO := Aside0.mk hs
  have HBS := Aside0.mk hbase
  have HA := Aside0.mk hA
  have HB0 := Aside0.mk (Below.refl w.heap.size w)
  clear hr h hs hbase hA
  go_enter Try.func9, Try.ntmps9
  go_wp2_with (fail)
  go_loopw [5] (fun v5 wr => ∃ k : Nat, k ≤ l.length ∧ v5 = .int .i64 k ∧ Aside0 (∀ x ∈ l.take k, chk x = true) ∧ Aside0 (Below w.heap.size w wr)) (fun v5 _ => l.length - (intOf v5).toNat)
  case atStart => exact ⟨0, Nat.zero_le _, rfl, ⟨fun x hx => by simp at hx⟩, HB0⟩
  case round =>
    clear HB0
    obtain ⟨k, hk, rfl, HC, HB⟩ := hrel
    by_cases hlt : k < l.length
    · obtain ⟨ad, x, rfl, hx, h0, h1, h2, h3, h4, h5⟩ := at52 (Kd.C_below HR.out HB.out) k hlt
      have hx2 : l[k] = x := (List.getElem?_eq_some_iff.1 hx).2
      have HX : Aside0 (∀ y ∈ l.take (k + 1), y ∈ l.take k ∨ y = x) := ⟨fun y hy => by rw [List.take_succ_eq_append_getElem hlt, hx2] at hy; simpa using hy⟩
      have HM : Aside0 (x ∈ l) := ⟨by rw [← hx2]; exact List.getElem_mem hlt⟩
      clear hx hx2
      by_cases hc : chk x = true
      · have hck := check15_calls x
        rw [if_pos hc] at hck
        have HC1 : Aside0 (∀ y ∈ l.take (k + 1), chk y = true) := ⟨fun y hy => by
          rcases HX.out y hy with h | rfl
          · exact HC.out y h
          · exact hc⟩
        clear hc
        go_wp2_with (fail)
        refine (hck _).mono ?_
        rintro e w1 ⟨rfl, hB⟩
        have HB1 := Aside0.mk (below_step HB.out hB)
        clear hB
        go_wp2_with (fail)
        go_roundw
        case rel => exact ⟨k + 1, by omega, by go_num, HC1, HB1⟩
        case measure => simp [intOf]; omega
      · have hck := check15_calls x
        rw [if_neg hc] at hck
        have HC1 : Aside0 (∃ y ∈ l, chk y = false) := ⟨x, HM.out, eq_false_of_ne_true hc⟩
        clear hc
        go_wp2_with (fail)
        refine (hck _).mono ?_
        rintro e w1 ⟨rfl, hB⟩
        have HB1 := Aside0.mk (below_step HB.out hB)
        clear hB
        go_wp2_with (fail)
        go_ret
        exact ⟨KeepB.of_below HB1.out (Nat.le_refl _), .inr ⟨rfl, HC1.out, HT.out.below HB1.out⟩⟩
    · obtain rfl : k = l.length := by omega
      have HC1 : Aside0 (∀ y ∈ l, chk y = true) := ⟨by have := HC.out; rwa [List.take_length] at this⟩
      have HK : Aside0 (KeepB w.heap.size gr w wr) := ⟨KeepB.of_below HB.out (Nat.le_refl _)⟩
      have HT1 := Aside0.mk (HT.out.below HB.out)
      have HS1 : Aside0 (w.heap.size ≤ wr.heap.size) := ⟨HB.out.size⟩
      clear HC HB
      go_wp2_with (fail)
      go_loopw [7] (fun v7 w2 => ∃ k : Nat, k ≤ l.length ∧ v7 = .int .i64 k ∧ Aside0 (RTab w2 base gr (putL L (l.take k))) ∧ Aside0 (KeepB w.heap.size gr w w2) ∧ Aside0 (w.heap.size ≤ w2.heap.size)) (fun v7 _ => l.length - (intOf v7).toNat)
      case atStart => exact ⟨0, Nat.zero_le _, rfl, HT1, HK, HS1⟩
      case round =>
        clear HT1 HK HS1
        obtain ⟨k, hk, rfl, HT1, HK, HS1⟩ := hrel
        by_cases hlt : k < l.length
        · obtain ⟨ad, _, rfl, _, _⟩ := at52 HR.out k hlt
          obtain ⟨ha1, ha2⟩ := HA.out ad rfl
          obtain ⟨ad', x, e, hx, h0, h1, h2, h3, h4, h5⟩ := at52 (HK.out.C HR.out ha1 ha2) k hlt
          injection e with e
          subst e
          have hx2 : l[k] = x := (List.getElem?_eq_some_iff.1 hx).2
          have HX := Aside0.mk (putL_take L l k hlt)
          rw [hx2] at HX
          have HSL : Aside0 (Sorted (putL L (l.take k))) := ⟨putL_sorted _ _ HSO.out⟩
          have HLN : Aside0 ((putL L (l.take k)).length ≤ 10000) := ⟨by have := putL_len (l.take k) L; have := List.length_take_le k l; omega⟩
          clear hx hx2 ha1 ha2
          generalize putL L (l.take k) = L1 at HX HSL HLN HT1
          go_wp2_with (fail)
          refine (rput_calls base gr L1 x wr HT1.out HSL.out HLN.out (Nat.le_trans HBS.out HS1.out)).mono ?_
          rintro e w2 ⟨rfl, hT, hK⟩
          have HT2 := Aside0.mk hT
          have HK2 : Aside0 (KeepB w.heap.size gr w w2) := ⟨HK.out.trans (hK.lower HS1.out)⟩
          have HS2 : Aside0 (w.heap.size ≤ w2.heap.size) := ⟨Nat.le_trans HS1.out hK.size⟩
          clear hT hK
          go_wp2_with (fail)
          go_roundw
          case rel => exact ⟨k + 1, by omega, by go_num, ⟨by rw [HX.out]; exact HT2.out⟩, HK2, HS2⟩
          case measure => simp [intOf]; omega
        · obtain rfl : k = l.length := by omega
          go_wp2_with (fail)
          go_ret
          exact ⟨HK.out, .inl ⟨rfl, HC1.out, by have := HT1.out; rwa [List.take_length] at this⟩⟩
end Go.Proofs.Ytoiedcnhojkpiaa.Q
