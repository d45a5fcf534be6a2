/- Of the proof about maint: several texts, joined. -/
import Derived.Test.YtpdkgpmcmebefaaGreatDoorMA
import Derived.Test.YtpdkgpmcmebefaaGreatDoorMD
import Derived.Test.YtpdkgpmcmebefaaGreatDoorMB
import Derived.Test.YtpdkgpmcmebefaaGreatDoorMC
set_option maxHeartbeats 16000000
set_option maxRecDepth 100000
set_option linter.unusedVariables false
set_option linter.unusedSimpArgs false
namespace Go.Proofs.YtpdkgpmcmebefaaGreatDoor.Q
open Go.RowKit Go.Proofs.YtpdkgpmcmebefaaGreatDoorW.PrintWords Go.Proofs.YtpdkgpmcmebefaaGreatDoorW.PrintLast Go.Proofs.YtpdkgpmcmebefaaGreatDoorW.PrintMore
attribute [local go_sem] max2_int min2_int max_two min_two max_three min_three max_four min_four
mutual
def r22_why.j0 : Nat → List (S28) → Int → List Int → Int → Int → Int → Int → Int → Int → Int → Int → List ByteArray → Option (Int)
 | 0, _, _, _, _, _, _, _, _, _, _, _, _ => none
 | k + 1, x1, x2, x7, x8, x452000, x452001, x452002, x452003, x452004, x452005, x452006, x452007 => (r22_Policy_units.f x452000 x452001 x452002 x452003 x452004 x452005 x452006 x452007).bind fun t456 => (r22_why.l0 k x1 x2 x7 x8 t456 1 x452000 x452001 x452002 x452003 x452004 x452005 x452006 x452007)
def r22_why.l0 : Nat → List (S28) → Int → List Int → Int → List Int → Int → Int → Int → Int → Int → Int → Int → Int → List ByteArray → Option (Int)
 | 0, _, _, _, _, _, _, _, _, _, _, _, _, _, _ => none
 | k + 1, x1, x2, x7, x8, x9, x10, x452000, x452001, x452002, x452003, x452004, x452005, x452006, x452007 => if x10 ≤ 5 then (if 0 ≤ x2 then (if x2 < (x1.length : Int) then ((r21_Key.f k x10 ((rd_T28 x1 x2).f0)).bind fun bt460 => ((r22_keys.f k x1 x7 x10 bt460.1).bind fun bt462 => (if bt462.2 = true then (r22_why.l0 k x1 x2 x7 x8 x9 (wrap64 (x10 + 1)) x452000 x452001 x452002 x452003 x452004 x452005 x452006 x452007) else (if 0 ≤ x10 then (if x10 < (x9.length : Int) then (if bt462.1 < (rd x9 x10) then (r22_why.l0 k x1 x2 x7 (wrap64 (x8 + (shl .i64 1 x10))) x9 (wrap64 (x10 + 1)) x452000 x452001 x452002 x452003 x452004 x452005 x452006 x452007) else (r22_why.l0 k x1 x2 x7 x8 x9 (wrap64 (x10 + 1)) x452000 x452001 x452002 x452003 x452004 x452005 x452006 x452007)) else (none)) else (none))))) else (none)) else (none)) else (if (x7.length : Int) > 0 then (if 0 < (x7.length : Int) then (r22_why.j2 k x1 x2 x8 (rd x7 0) x452000 x452001 x452002 x452003 x452004 x452005 x452006 x452007) else (none)) else (r22_why.j2 k x1 x2 x8 x2 x452000 x452001 x452002 x452003 x452004 x452005 x452006 x452007))
def r22_why.j2 : Nat → List (S28) → Int → Int → Int → Int → Int → Int → Int → Int → Int → Int → List ByteArray → Option (Int)
 | 0, _, _, _, _, _, _, _, _, _, _, _, _ => none
 | k + 1, x1, x2, x8, x15, x452000, x452001, x452002, x452003, x452004, x452005, x452006, x452007 => if x452006 > 0 then (if 0 ≤ x15 then (if x15 < (x1.length : Int) then (if 0 ≤ x2 then (if x2 < (x1.length : Int) then (r22_why.j3 k x1 x2 x8 (decide ((wrap64 (((rd_T28 x1 x15).f0) - ((rd_T28 x1 x2).f0))) ≤ x452006)) x452000 x452001 x452002 x452003 x452004 x452005 x452006 x452007) else (none)) else (none)) else (none)) else (none)) else (r22_why.j3 k x1 x2 x8 false x452000 x452001 x452002 x452003 x452004 x452005 x452006 x452007)
def r22_why.j3 : Nat → List (S28) → Int → Int → Bool → Int → Int → Int → Int → Int → Int → Int → List ByteArray → Option (Int)
 | 0, _, _, _, _, _, _, _, _, _, _, _, _ => none
 | k + 1, x1, x2, x8, x89, x452000, x452001, x452002, x452003, x452004, x452005, x452006, x452007 => if x89 = true then (if 0 ≤ x2 then (if x2 < (x1.length : Int) then ((r22_tagged.f k ((rd_T28 x1 x2).f0) ((rd_T28 x1 x2).f1) ((rd_T28 x1 x2).f2) ((rd_T28 x1 x2).f3) ((rd_T28 x1 x2).f4) ((rd_T28 x1 x2).f5) x452007).bind fun t469 => (if t469 = true then (some (wrap64 ((wrap64 (x8 + 64)) + 128))) else (some (wrap64 (x8 + 64))))) else (none)) else (none)) else (if 0 ≤ x2 then (if x2 < (x1.length : Int) then ((r22_tagged.f k ((rd_T28 x1 x2).f0) ((rd_T28 x1 x2).f1) ((rd_T28 x1 x2).f2) ((rd_T28 x1 x2).f3) ((rd_T28 x1 x2).f4) ((rd_T28 x1 x2).f5) x452007).bind fun t471 => (if t471 = true then (some (wrap64 (x8 + 128))) else (some x8))) else (none)) else (none))
end
def r22_why.f (k : Nat) (a0_0 : Int) (a0_1 : Int) (a0_2 : Int) (a0_3 : Int) (a0_4 : Int) (a0_5 : Int) (a0_6 : Int) (l0_7 : List ByteArray) (l1 : List (S28)) (a2 : Int) : Option (Int) := (r22_nothing.f k a0_0 a0_1 a0_2 a0_3 a0_4 a0_5 a0_6 l0_7).bind fun t452 => (if t452 = true then (some 1) else ((r22_ahead.f k l1 a2).bind fun t453 => (if (t453.length : Int) < a0_0 then (r22_why.j0 k l1 a2 t453 1 a0_0 a0_1 a0_2 a0_3 a0_4 a0_5 a0_6 l0_7) else (r22_why.j0 k l1 a2 t453 0 a0_0 a0_1 a0_2 a0_3 a0_4 a0_5 a0_6 l0_7))))
def r22_why.T18 : Bool × List (List Nat × List Nat) := (true, [([], []), ([0], [0]), ([1], [1]), ([2], [2]), ([3], [3]), ([3], [3]), ([4, 5, 3], [3, 4, 5]), ([6, 3], [3, 6]), ([7, 3], [3, 7]), ([3], [3]), ([3], [3]), ([9, 10, 3], [3, 9, 10]), ([11, 3], [3, 11]), ([12, 3], [3, 12]), ([8, 13, 3], [3, 8, 13]), ([3], [3]), ([15, 3], [3, 15]), ([14, 16, 3], [3, 14, 16]), ([3, 17], [3, 17])])
def r22_why.B18 : List Nat := [0, 1, 3, 7, 15, 15, 63, 127, 255, 15, 15, 1551, 3599, 7695, 16383, 15, 32783, 131071, 262143]
theorem r22_why.tab18 : rtab .any (opsOf Tryz.f28 18) = r22_why.T18 := by kernel_rfl
theorem r22_why.bits18 : waitsOk r22_why.T18.2 r22_why.B18 = true := by kernel_rfl
theorem r22_why.calls (k : Nat) (a0_0 : Int) (a0_1 : Int) (a0_2 : Int) (a0_3 : Int) (a0_4 : Int) (a0_5 : Int) (a0_6 : Int) (A0_7 : Option Addr) (c0_7 : Nat) (l0_7 : List ByteArray) (A1 : Option Addr) (c1 : Nat) (l1 : List (S28)) (a2 : Int) (r : Int) (w : World) (hr0_7 : Kd.C Kd.string w A0_7 l0_7.length l0_7) (hc0_7 : l0_7.length ≤ c0_7) (hr1 : Kd.C k28 w A1 l1.length l1) (hc1 : l1.length ≤ c1) (h : r22_why.f k a0_0 a0_1 a0_2 a0_3 a0_4 a0_5 a0_6 l0_7 l1 a2 = some r) :
  Calls Tryz.prog 28 #[.agg #[.int .i64 a0_0, .int .i64 a0_1, .int .i64 a0_2, .int .i64 a0_3, .int .i64 a0_4, .int .i64 a0_5, .int .i64 a0_6, .slice A0_7 l0_7.length c0_7], .slice A1 l1.length c1, .int .i64 a2] w fun e w' => e = .returned (.int .i64 r) ∧ Below w.heap.size w w' := by
 have hu34 := Tryz.underlying34
 have hu28 := Tryz.underlying28
 have HR0_7 := Sd.mk hr0_7
 have HC0_7 := Sd.mk hc0_7
 clear hr0_7 hc0_7
 have HR1 := Sd.mk hr1
 have HC1 := Sd.mk hc1
 clear hr1 hc1
 have HB := Sd.mk (Below.refl w.heap.size w)
 have H : ((r22_nothing.f k a0_0 a0_1 a0_2 a0_3 a0_4 a0_5 a0_6 l0_7).bind fun t452 => (if t452 = true then (some 1) else ((r22_ahead.f k l1 a2).bind fun t453 => (if (t453.length : Int) < a0_0 then (r22_why.j0 k l1 a2 t453 1 a0_0 a0_1 a0_2 a0_3 a0_4 a0_5 a0_6 l0_7) else (r22_why.j0 k l1 a2 t453 0 a0_0 a0_1 a0_2 a0_3 a0_4 a0_5 a0_6 l0_7))))) = some r := h
 clear h
 replace H := Option.bind_eq_some_iff.mp H
 obtain ⟨t452, A40, H⟩ := H
 replace H : (if t452 = true then (some 1) else ((r22_ahead.f k l1 a2).bind fun t453 => (if (t453.length : Int) < a0_0 then (r22_why.j0 k l1 a2 t453 1 a0_0 a0_1 a0_2 a0_3 a0_4 a0_5 a0_6 l0_7) else (r22_why.j0 k l1 a2 t453 0 a0_0 a0_1 a0_2 a0_3 a0_4 a0_5 a0_6 l0_7)))) = some r := H
 have A4 := Sd.mk A40
 clear A40
 by_cases c5 : t452 = true
 ·subst c5
  have H1 : (some 1) = some r := by rw [if_pos rfl] at H; exact H
  clear H
  have H := H1
  clear H1
  obtain rfl := Option.some.inj H
  go_enter Tryz.func28, Tryz.ntmps28
  go_wp2_with (first | ((with_reducible refine gate_dst (N := 3) rfl ?_); refine box_event ?hg (N := 3) ?hd (cs := #[.int .i64 a0_0, .int .i64 a0_1, .int .i64 a0_2, .int .i64 a0_3, .int .i64 a0_4, .int .i64 a0_5, .int .i64 a0_6, .slice A0_7 l0_7.length c0_7]) (t := 34) ?hr ?_; (case hd => rfl); (case hg => rfl); (case hr => (go_simp; done)); intro gb451 hg w6 hbox hb; have n0_ := Sd.mk (below_step (by repeat ((with_reducible (exact HB.out)))) hb); have n1_ := Sd.mk (hbox); have n2_ := Sd.mk ((by rw [hg]; exact (below_size (by repeat ((with_reducible (exact HB.out))))) : w.heap.size ≤ gb451)); have n3_ := Sd.mk ((by rw [hg]; exact (below_size (by repeat ((with_reducible (exact HB.out))))) : w.heap.size ≤ gb451)); clear HB; have HB := n0_; have BK451 := n1_; have GW451 := n2_; have GE451 := n3_; clear n0_ n1_ n2_ n3_; clear hb hbox hg; obtain ⟨hcz7_0, hcz7_1, hcz7_2, hcz7_3, hcz7_4, hcz7_5, hcz7_6, hcz7_7⟩ := bc8 BK451.out; obtain ⟨hfz7_0, hfz7_1, hfz7_2, hfz7_3, hfz7_4, hfz7_5, hfz7_6, hfz7_7⟩ := bf8 BK451.out) | ((with_reducible refine gate_callee (f := 60) rfl ?_); refine goesL_ (some 17) rfl rfl Tryz.func60 (by kernel_rfl) rfl #[.agg #[.int .i64 a0_0, .int .i64 a0_1, .int .i64 a0_2, .int .i64 a0_3, .int .i64 a0_4, .int .i64 a0_5, .int .i64 a0_6, .slice A0_7 l0_7.length c0_7]] rfl (by (try simp only [List.map_toArray, List.map_cons, List.map_nil]); (rfl)) ?_; (with_reducible refine (r22_nothing.calls k a0_0 a0_1 a0_2 a0_3 a0_4 a0_5 a0_6 _ _ l0_7 true _ ?side1 ?side2 A4.out).mono ?_); (case side1 => repeat ((exact (Kd.C_below HR0_7.out HB.out)))); (case side2 => exact HC0_7.out); rintro e w8 ⟨rfl, hb⟩; refine ⟨_, rfl, ?_⟩; have n0_ := Sd.mk (blk_below (g := gb451) (o := .cells #[.int .i64 a0_0, .int .i64 a0_1, .int .i64 a0_2, .int .i64 a0_3, .int .i64 a0_4, .int .i64 a0_5, .int .i64 a0_6, .slice A0_7 l0_7.length c0_7] 34 (0, 0)) (by (with_reducible repeat (fail)); exact BK451.out) hb); have n1_ := Sd.mk (below_step (by repeat ((with_reducible (exact HB.out)))) hb); clear BK451; clear HB; have BK451 := n0_; have HB := n1_; clear n0_ n1_; (try clear hb); (try clear hb2); (try clear hk); (try clear hi)))
  go_ret
  exact ⟨by (rfl), by repeat ((with_reducible (exact HB.out)))⟩
 ·replace c5 := Bool.eq_false_iff.mpr c5
  subst c5
  have H1 : ((r22_ahead.f k l1 a2).bind fun t453 => (if (t453.length : Int) < a0_0 then (r22_why.j0 k l1 a2 t453 1 a0_0 a0_1 a0_2 a0_3 a0_4 a0_5 a0_6 l0_7) else (r22_why.j0 k l1 a2 t453 0 a0_0 a0_1 a0_2 a0_3 a0_4 a0_5 a0_6 l0_7))) = some r := by rw [if_neg (show ¬ (false = true) by decide)] at H; exact H
  clear H
  have H := H1
  clear H1
  replace H := Option.bind_eq_some_iff.mp H
  obtain ⟨t453, A90, H⟩ := H
  replace H : (if (t453.length : Int) < a0_0 then (r22_why.j0 k l1 a2 t453 1 a0_0 a0_1 a0_2 a0_3 a0_4 a0_5 a0_6 l0_7) else (r22_why.j0 k l1 a2 t453 0 a0_0 a0_1 a0_2 a0_3 a0_4 a0_5 a0_6 l0_7)) = some r := H
  have A9 := Sd.mk A90
  clear A90
  have HC10 := Sd.mk H
  clear H
  go_enter Tryz.func28, Tryz.ntmps28
  go_upto_if 25 with (first | ((with_reducible refine gate_dst (N := 3) rfl ?_); refine box_event ?hg (N := 3) ?hd (cs := #[.int .i64 a0_0, .int .i64 a0_1, .int .i64 a0_2, .int .i64 a0_3, .int .i64 a0_4, .int .i64 a0_5, .int .i64 a0_6, .slice A0_7 l0_7.length c0_7]) (t := 34) ?hr ?_; (case hd => rfl); (case hg => rfl); (case hr => (go_simp; done)); intro gb451 hg w11 hbox hb; have n0_ := Sd.mk (below_step (by repeat ((with_reducible (exact HB.out)))) hb); have n1_ := Sd.mk (hbox); have n2_ := Sd.mk ((by rw [hg]; exact (below_size (by repeat ((with_reducible (exact HB.out))))) : w.heap.size ≤ gb451)); have n3_ := Sd.mk ((by rw [hg]; exact (below_size (by repeat ((with_reducible (exact HB.out))))) : w.heap.size ≤ gb451)); clear HB; have HB := n0_; have BK451 := n1_; have GW451 := n2_; have GE451 := n3_; clear n0_ n1_ n2_ n3_; clear hb hbox hg; obtain ⟨hcz12_0, hcz12_1, hcz12_2, hcz12_3, hcz12_4, hcz12_5, hcz12_6, hcz12_7⟩ := bc8 BK451.out; obtain ⟨hfz12_0, hfz12_1, hfz12_2, hfz12_3, hfz12_4, hfz12_5, hfz12_6, hfz12_7⟩ := bf8 BK451.out) | ((with_reducible refine gate_callee (f := 60) rfl ?_); refine goesL_ (some 17) rfl rfl Tryz.func60 (by kernel_rfl) rfl #[.agg #[.int .i64 a0_0, .int .i64 a0_1, .int .i64 a0_2, .int .i64 a0_3, .int .i64 a0_4, .int .i64 a0_5, .int .i64 a0_6, .slice A0_7 l0_7.length c0_7]] rfl (by (try simp only [List.map_toArray, List.map_cons, List.map_nil]); (rfl)) ?_; (with_reducible refine (r22_nothing.calls k a0_0 a0_1 a0_2 a0_3 a0_4 a0_5 a0_6 _ _ l0_7 false _ ?side1 ?side2 A4.out).mono ?_); (case side1 => repeat ((exact (Kd.C_below HR0_7.out HB.out)))); (case side2 => exact HC0_7.out); rintro e w13 ⟨rfl, hb⟩; refine ⟨_, rfl, ?_⟩; have n0_ := Sd.mk (blk_below (g := gb451) (o := .cells #[.int .i64 a0_0, .int .i64 a0_1, .int .i64 a0_2, .int .i64 a0_3, .int .i64 a0_4, .int .i64 a0_5, .int .i64 a0_6, .slice A0_7 l0_7.length c0_7] 34 (0, 0)) (by (with_reducible repeat (fail)); exact BK451.out) hb); have n1_ := Sd.mk (below_step (by repeat ((with_reducible (exact HB.out)))) hb); clear BK451; clear HB; have BK451 := n0_; have HB := n1_; clear n0_ n1_; (try clear hb); (try clear hb2); (try clear hk); (try clear hi)) | ((with_reducible refine gate_callee (f := 61) rfl ?_); refine goesL_ (some 20) rfl rfl Tryz.func61 (by kernel_rfl) rfl #[.slice A1 l1.length c1, .int .i64 a2] rfl (by (try simp only [List.map_toArray, List.map_cons, List.map_nil]); (rfl)) ?_; (with_reducible refine (r22_ahead.calls k _ _ l1 a2 t453 _ ?side1 ?side2 A9.out).mono ?_); (case side1 => repeat ((exact (Kd.C_below HR1.out HB.out)))); (case side2 => exact HC1.out); rintro e w14 ⟨v454, rfl, ho0, hb⟩; refine ⟨_, rfl, ?_⟩; have n0_ := Sd.mk (Kd.R_lower ho0 (below_size (by repeat ((with_reducible (exact HB.out)))))); have n1_ := Sd.mk (blk_below (g := gb451) (o := .cells #[.int .i64 a0_0, .int .i64 a0_1, .int .i64 a0_2, .int .i64 a0_3, .int .i64 a0_4, .int .i64 a0_5, .int .i64 a0_6, .slice A0_7 l0_7.length c0_7] 34 (0, 0)) (by (with_reducible repeat (fail)); exact BK451.out) hb); have n2_ := Sd.mk (below_step (by repeat ((with_reducible (exact HB.out)))) hb); clear BK451; clear HB; have HO455 := n0_; have BK451 := n1_; have HB := n2_; clear n0_ n1_ n2_; (try clear hb); (try clear hb2); (try clear hk); (try clear hi); (try clear ho0); obtain ⟨Ao15, co15, eo15⟩ := Kd.R_slice HO455.out; subst eo15; obtain ⟨hcz16_0, hcz16_1, hcz16_2, hcz16_3, hcz16_4, hcz16_5, hcz16_6, hcz16_7⟩ := bc8 BK451.out; obtain ⟨hfz16_0, hfz16_1, hfz16_2, hfz16_3, hfz16_4, hfz16_5, hfz16_6, hfz16_7⟩ := bf8 BK451.out))
  (try simp only [Act.put, List.setIfInBounds_toArray, List.set_cons_zero, List.set_cons_succ])
  go_cut [8] (fun v8 wc => ∃ (kq : Nat) (x8_9 : Int), v8 = .int .i64 x8_9 ∧ Sd (r22_why.j0 kq l1 a2 t453 x8_9 a0_0 a0_1 a0_2 a0_3 a0_4 a0_5 a0_6 l0_7 = some r) ∧ Sd (kq ≤ k) ∧ Sd (Kd.R (Kd.int .i64) 3 wc w.heap.size (fun _ => True) (.slice Ao15 t453.length co15) t453) ∧ Sd (wc.heap[gb451]? = some (.cells #[.int .i64 a0_0, .int .i64 a0_1, .int .i64 a0_2, .int .i64 a0_3, .int .i64 a0_4, .int .i64 a0_5, .int .i64 a0_6, (.slice A0_7 l0_7.length c0_7)] 34 (0, 0))) ∧ Sd (Below w.heap.size w wc))
  case first =>
   have H := HC10.out
   clear HC10
   by_cases c17 : (t453.length : Int) < a0_0
   ·rw [if_pos c17] at H
    have c17b0 : decide ((t453.length : Int) < a0_0) = true := decide_eq_true c17
    clear c17
    ((rw [c17b0]))
    have H' := Sd.mk H
    clear H
    go_wp2
    go_meet
    case rel => exact ⟨_, (1), (by (rfl)), H', ⟨by (omega)⟩, ⟨by (with_reducible repeat (fail)); exact HO455.out⟩, ⟨by (with_reducible repeat (fail)); exact BK451.out⟩, ⟨by repeat ((with_reducible (exact HB.out)))⟩⟩
   ·rw [if_neg c17] at H
    have c17b0 : decide ((t453.length : Int) < a0_0) = false := decide_eq_false c17
    clear c17
    ((rw [c17b0]))
    have H' := Sd.mk H
    clear H
    go_wp2
    go_meet
    case rel => exact ⟨_, (0), (by (rfl)), H', ⟨by (omega)⟩, ⟨by (with_reducible repeat (fail)); exact HO455.out⟩, ⟨by (with_reducible repeat (fail)); exact BK451.out⟩, ⟨by repeat ((with_reducible (exact HB.out)))⟩⟩
  case rest =>
   clear HC10
   try clear c1
   try clear c2
   try clear p2
   try clear c5
   try clear c6
   try clear c17
   try clear c17b0
   try clear hcz12_0
   try clear hcz12_1
   try clear hcz12_2
   try clear hcz12_3
   try clear hcz12_4
   try clear hcz12_5
   try clear hcz12_6
   try clear hcz12_7
   try clear hcz16_0
   try clear hcz16_1
   try clear hcz16_2
   try clear hcz16_3
   try clear hcz16_4
   try clear hcz16_5
   try clear hcz16_6
   try clear hcz16_7
   try clear hcz7_0
   try clear hcz7_1
   try clear hcz7_2
   try clear hcz7_3
   try clear hcz7_4
   try clear hcz7_5
   try clear hcz7_6
   try clear hcz7_7
   try clear hfz12_0
   try clear hfz12_1
   try clear hfz12_2
   try clear hfz12_3
   try clear hfz12_4
   try clear hfz12_5
   try clear hfz12_6
   try clear hfz12_7
   try clear hfz16_0
   try clear hfz16_1
   try clear hfz16_2
   try clear hfz16_3
   try clear hfz16_4
   try clear hfz16_5
   try clear hfz16_6
   try clear hfz16_7
   try clear hfz7_0
   try clear hfz7_1
   try clear hfz7_2
   try clear hfz7_3
   try clear hfz7_4
   try clear hfz7_5
   try clear hfz7_6
   try clear hfz7_7
   obtain ⟨kq, x8_9, rfl, HA, HJ9, HO_7, BK451, HB⟩ := hcut
   cases kq with
   | zero => exact absurd HA.out (by simp [r22_why.j0])
   | succ kj9 =>
    have H := HA.out
    clear HA
    simp only [r22_why.j0] at H
    replace H := Option.bind_eq_some_iff.mp H
    obtain ⟨t456, A180, H⟩ := H
    replace H : (r22_why.l0 kj9 l1 a2 t453 x8_9 t456 1 a0_0 a0_1 a0_2 a0_3 a0_4 a0_5 a0_6 l0_7) = some r := H
    have A18 := Sd.mk A180
    clear A180
    have H' := Sd.mk H
    clear H
    obtain ⟨hcz19_0, hcz19_1, hcz19_2, hcz19_3, hcz19_4, hcz19_5, hcz19_6, hcz19_7⟩ := bc8 BK451.out
    obtain ⟨hfz19_0, hfz19_1, hfz19_2, hfz19_3, hfz19_4, hfz19_5, hfz19_6, hfz19_7⟩ := bf8 BK451.out
    go_wp2_with (((with_reducible refine gate_callee (f := 56) rfl ?_); refine goesL_ (some 27) rfl rfl Tryz.func56 (by kernel_rfl) rfl #[.agg #[.int .i64 a0_0, .int .i64 a0_1, .int .i64 a0_2, .int .i64 a0_3, .int .i64 a0_4, .int .i64 a0_5, .int .i64 a0_6, .slice A0_7 l0_7.length c0_7]] rfl (by (try simp only [List.map_toArray, List.map_cons, List.map_nil]); (rfl)) ?_; (with_reducible refine (r22_Policy_units.calls a0_0 a0_1 a0_2 a0_3 a0_4 a0_5 a0_6 _ _ l0_7 t456 _ ?side1 ?side2 A18.out).mono ?_); (case side1 => repeat ((exact (Kd.C_below HR0_7.out HB.out)))); (case side2 => exact HC0_7.out); rintro e w20 ⟨v457, rfl, ho0, hb⟩; refine ⟨_, rfl, ?_⟩; have n0_ := Sd.mk (Kd.R_elder' (by (with_reducible repeat (fail)); exact HO_7.out) (Kd.R_base ho0) hb); have n1_ := Sd.mk (Kd.R_lower (Kd.R_new' ho0 (Kd.R_lt (by (with_reducible repeat (fail)); exact HO_7.out))) (below_size (by repeat ((with_reducible (exact HB.out)))))); have n2_ := Sd.mk (blk_below (g := gb451) (o := .cells #[.int .i64 a0_0, .int .i64 a0_1, .int .i64 a0_2, .int .i64 a0_3, .int .i64 a0_4, .int .i64 a0_5, .int .i64 a0_6, .slice A0_7 l0_7.length c0_7] 34 (0, 0)) (by (with_reducible repeat (fail)); exact BK451.out) hb); have n3_ := Sd.mk (below_step (by repeat ((with_reducible (exact HB.out)))) hb); clear HO_7; clear BK451; clear HB; have HO_7 := n0_; have HO458 := n1_; have BK451 := n2_; have HB := n3_; clear n0_ n1_ n2_ n3_; (try clear hb); (try clear hb2); (try clear hk); (try clear hi); (try clear ho0)))
    go_loopg [8, 10] kj9 (fun kq v8 v10 w' => ∃ (x8_2 : Int) (x10_2 : Int), v8 = .int .i64 x8_2 ∧ v10 = .int .i64 x10_2 ∧ Sd (r22_why.l0 kq l1 a2 t453 x8_2 t456 x10_2 a0_0 a0_1 a0_2 a0_3 a0_4 a0_5 a0_6 l0_7 = some r) ∧ Sd (kq ≤ kj9) ∧ Sd (Kd.R (Kd.int .i64) 3 w' w.heap.size (fun k_ => some k_ ≠ (v457 : Value).ownBlock) (.slice Ao15 t453.length co15) t453) ∧ Sd (Kd.R (Kd.int .i64) 3 w' w.heap.size (fun k_ => some k_ ≠ ((.slice Ao15 t453.length co15) : Value).ownBlock) v457 t456) ∧ Sd (w'.heap[gb451]? = some (.cells #[.int .i64 a0_0, .int .i64 a0_1, .int .i64 a0_2, .int .i64 a0_3, .int .i64 a0_4, .int .i64 a0_5, .int .i64 a0_6, (.slice A0_7 l0_7.length c0_7)] 34 (0, 0))) ∧ Sd (Below w.heap.size w w'))
    case atStart => exact ⟨(x8_9), (1), (by (rfl)), (by (rfl)), H', ⟨Nat.le_refl _⟩, ⟨by (with_reducible repeat (fail)); exact Kd.R_mono HO_7.out (fun _ hk => hk.2)⟩, ⟨by (with_reducible repeat (fail)); exact Kd.R_mono HO458.out (fun _ hk => hk.2)⟩, ⟨by (with_reducible repeat (fail)); exact BK451.out⟩, ⟨by repeat ((with_reducible (exact HB.out)))⟩⟩
    case round =>
     clear H'
     try clear c1
     try clear c2
     try clear p2
     try clear c5
     try clear c6
     try clear c17
     try clear c17b0
     try clear hcz12_0
     try clear hcz12_1
     try clear hcz12_2
     try clear hcz12_3
     try clear hcz12_4
     try clear hcz12_5
     try clear hcz12_6
     try clear hcz12_7
     try clear hcz16_0
     try clear hcz16_1
     try clear hcz16_2
     try clear hcz16_3
     try clear hcz16_4
     try clear hcz16_5
     try clear hcz16_6
     try clear hcz16_7
     try clear hcz19_0
     try clear hcz19_1
     try clear hcz19_2
     try clear hcz19_3
     try clear hcz19_4
     try clear hcz19_5
     try clear hcz19_6
     try clear hcz19_7
     try clear hcz7_0
     try clear hcz7_1
     try clear hcz7_2
     try clear hcz7_3
     try clear hcz7_4
     try clear hcz7_5
     try clear hcz7_6
     try clear hcz7_7
     try clear hfz12_0
     try clear hfz12_1
     try clear hfz12_2
     try clear hfz12_3
     try clear hfz12_4
     try clear hfz12_5
     try clear hfz12_6
     try clear hfz12_7
     try clear hfz16_0
     try clear hfz16_1
     try clear hfz16_2
     try clear hfz16_3
     try clear hfz16_4
     try clear hfz16_5
     try clear hfz16_6
     try clear hfz16_7
     try clear hfz19_0
     try clear hfz19_1
     try clear hfz19_2
     try clear hfz19_3
     try clear hfz19_4
     try clear hfz19_5
     try clear hfz19_6
     try clear hfz19_7
     try clear hfz7_0
     try clear hfz7_1
     try clear hfz7_2
     try clear hfz7_3
     try clear hfz7_4
     try clear hfz7_5
     try clear hfz7_6
     try clear hfz7_7
     try clear p2
     obtain ⟨x8_2, x10_2, rfl, rfl, HA, HK2, HO_7, HO_9, BK451, HB⟩ := hrel
     cases gk with
     | zero => exact absurd HA.out (by simp [r22_why.l0])
     | succ k2 =>
      have H := HA.out
      clear HA
      simp only [r22_why.l0] at H
      by_cases c21 : x10_2 ≤ 5
      ·rw [if_pos c21] at H
       have c21b0 : decide (x10_2 ≤ 5) = true := decide_eq_true c21
       clear c21
       by_cases c22 : 0 ≤ a2
       ·rw [if_pos c22] at H
        have c22b0 : decide (0 ≤ a2) = true := decide_eq_true c22
        clear c22
        by_cases c23 : a2 < (l1.length : Int)
        ·rw [if_pos c23] at H
         have c23b0 : decide (a2 < (l1.length : Int)) = true := decide_eq_true c23
         clear c23
         replace H := Option.bind_eq_some_iff.mp H
         obtain ⟨⟨t460, t461⟩, A240, H⟩ := H
         replace H : ((r22_keys.f k2 l1 t453 x10_2 t460).bind fun bt462 => (if bt462.2 = true then (r22_why.l0 k2 l1 a2 t453 x8_2 t456 (wrap64 (x10_2 + 1)) a0_0 a0_1 a0_2 a0_3 a0_4 a0_5 a0_6 l0_7) else (if 0 ≤ x10_2 then (if x10_2 < (t456.length : Int) then (if bt462.1 < (rd t456 x10_2) then (r22_why.l0 k2 l1 a2 t453 (wrap64 (x8_2 + (shl .i64 1 x10_2))) t456 (wrap64 (x10_2 + 1)) a0_0 a0_1 a0_2 a0_3 a0_4 a0_5 a0_6 l0_7) else (r22_why.l0 k2 l1 a2 t453 x8_2 t456 (wrap64 (x10_2 + 1)) a0_0 a0_1 a0_2 a0_3 a0_4 a0_5 a0_6 l0_7)) else (none)) else (none)))) = some r := H
         have A24 := Sd.mk A240
         clear A240
         replace H := Option.bind_eq_some_iff.mp H
         obtain ⟨⟨t462, t463⟩, A250, H⟩ := H
         replace H : (if t463 = true then (r22_why.l0 k2 l1 a2 t453 x8_2 t456 (wrap64 (x10_2 + 1)) a0_0 a0_1 a0_2 a0_3 a0_4 a0_5 a0_6 l0_7) else (if 0 ≤ x10_2 then (if x10_2 < (t456.length : Int) then (if t462 < (rd t456 x10_2) then (r22_why.l0 k2 l1 a2 t453 (wrap64 (x8_2 + (shl .i64 1 x10_2))) t456 (wrap64 (x10_2 + 1)) a0_0 a0_1 a0_2 a0_3 a0_4 a0_5 a0_6 l0_7) else (r22_why.l0 k2 l1 a2 t453 x8_2 t456 (wrap64 (x10_2 + 1)) a0_0 a0_1 a0_2 a0_3 a0_4 a0_5 a0_6 l0_7)) else (none)) else (none))) = some r := H
         have A25 := Sd.mk A250
         clear A250
         by_cases c26 : t463 = true
         ·subst c26
          have H1 : (r22_why.l0 k2 l1 a2 t453 x8_2 t456 (wrap64 (x10_2 + 1)) a0_0 a0_1 a0_2 a0_3 a0_4 a0_5 a0_6 l0_7) = some r := by rw [if_pos rfl] at H; exact H
          clear H
          have H := H1
          clear H1
          have H' := Sd.mk H
          clear H
          have p459 : 0 ≤ (a2 : Int) := odt (by (with_reducible assumption))
          have q459 : a2 < (l1.length : Int) := odt (by (with_reducible assumption))
          obtain ⟨ad459, A459_2, c459_2, A459_3, c459_3, e459, hx459_0, hx459_1, hx459_2, hx459_3, hx459_4, hx459_5, hl459_2, hi459_2, hl459_3, hi459_3⟩ := at_T28 HR1.out a2 p459 q459
          cases e459
          replace hx459_0 := cb HB.out hx459_0
          replace hx459_1 := cb HB.out hx459_1
          replace hx459_2 := cb HB.out hx459_2
          replace hx459_3 := cb HB.out hx459_3
          replace hx459_4 := cb HB.out hx459_4
          replace hx459_5 := cb HB.out hx459_5
          have HR459_2 := Sd.mk hi459_2
          have HC459_2 := Sd.mk hl459_2
          clear hi459_2 hl459_2
          have HR459_3 := Sd.mk hi459_3
          have HC459_3 := Sd.mk hl459_3
          clear hi459_3 hl459_3
          replace p459 := eq_true p459
          replace q459 := eq_true q459
          go_wp2_with (first | ((with_reducible refine gate_callee (f := 62) rfl ?_); refine goesL_ (some 39) rfl rfl Tryz.func62 (by kernel_rfl) rfl #[.int .i64 x10_2, .int .i64 ((rd_T28 l1 a2).f0)] rfl (by (try simp only [List.map_toArray, List.map_cons, List.map_nil]); (rfl)) ?_; (with_reducible refine (r21_Key.calls k2 x10_2 ((rd_T28 l1 a2).f0) t460 t461 _ A24.out).mono ?_); rintro e w27 ⟨rfl, hb⟩; refine ⟨_, rfl, ?_⟩; have n0_ := Sd.mk (Kd.R_below (by (with_reducible repeat (fail)); exact HO_7.out) hb); have n1_ := Sd.mk (Kd.R_below (by (with_reducible repeat (fail)); exact HO_9.out) hb); have n2_ := Sd.mk (blk_below (g := gb451) (o := .cells #[.int .i64 a0_0, .int .i64 a0_1, .int .i64 a0_2, .int .i64 a0_3, .int .i64 a0_4, .int .i64 a0_5, .int .i64 a0_6, .slice A0_7 l0_7.length c0_7] 34 (0, 0)) (by (with_reducible repeat (fail)); exact BK451.out) hb); have n3_ := Sd.mk (below_step (by repeat ((with_reducible (exact HB.out)))) hb); clear HO_7; clear HO_9; clear BK451; clear HB; have HO_7 := n0_; have HO_9 := n1_; have BK451 := n2_; have HB := n3_; clear n0_ n1_ n2_ n3_; (try clear hb); (try clear hb2); (try clear hk); (try clear hi)) | ((with_reducible refine gate_callee (f := 63) rfl ?_); refine goesL_ (some 47) rfl rfl Tryz.func63 (by kernel_rfl) rfl #[.slice (some ad459) l1.length c1, .slice Ao15 t453.length co15, .int .i64 x10_2, .int .i64 t460] rfl (by (try simp only [List.map_toArray, List.map_cons, List.map_nil]); (rfl)) ?_; (with_reducible refine (r22_keys.calls k2 _ _ l1 _ _ t453 x10_2 t460 t462 true _ ?side1 ?side2 ?side3 ?side4 A25.out).mono ?_); (case side1 => repeat ((exact (Kd.C_below HR1.out HB.out)))); (case side2 => exact HC1.out); (case side3 => repeat ((exact (Kd.R_reads' HO_7.out).2.2))); (case side4 => exact (Kd.R_reads' HO_7.out).2.1); rintro e w28 ⟨rfl, hb⟩; refine ⟨_, rfl, ?_⟩; have n0_ := Sd.mk (Kd.R_below (by (with_reducible repeat (fail)); exact HO_7.out) hb); have n1_ := Sd.mk (Kd.R_below (by (with_reducible repeat (fail)); exact HO_9.out) hb); have n2_ := Sd.mk (blk_below (g := gb451) (o := .cells #[.int .i64 a0_0, .int .i64 a0_1, .int .i64 a0_2, .int .i64 a0_3, .int .i64 a0_4, .int .i64 a0_5, .int .i64 a0_6, .slice A0_7 l0_7.length c0_7] 34 (0, 0)) (by (with_reducible repeat (fail)); exact BK451.out) hb); have n3_ := Sd.mk (below_step (by repeat ((with_reducible (exact HB.out)))) hb); clear HO_7; clear HO_9; clear BK451; clear HB; have HO_7 := n0_; have HO_9 := n1_; have BK451 := n2_; have HB := n3_; clear n0_ n1_ n2_ n3_; (try clear hb); (try clear hb2); (try clear hk); (try clear hi)))
          go_roundg k2
          case measure => have := HJ9.out; have := HK2.out; omega
          case rel => exact ⟨(x8_2), (wrap64 (x10_2 + 1)), (by (rfl)), (by (rfl)), H', ⟨by have := HJ9.out; have := HK2.out; omega⟩, ⟨by (with_reducible repeat (fail)); exact HO_7.out⟩, ⟨by (with_reducible repeat (fail)); exact HO_9.out⟩, ⟨by (with_reducible repeat (fail)); exact BK451.out⟩, ⟨by repeat ((with_reducible (exact HB.out)))⟩⟩
         ·replace c26 := Bool.eq_false_iff.mpr c26
          subst c26
          have H1 : (if 0 ≤ x10_2 then (if x10_2 < (t456.length : Int) then (if t462 < (rd t456 x10_2) then (r22_why.l0 k2 l1 a2 t453 (wrap64 (x8_2 + (shl .i64 1 x10_2))) t456 (wrap64 (x10_2 + 1)) a0_0 a0_1 a0_2 a0_3 a0_4 a0_5 a0_6 l0_7) else (r22_why.l0 k2 l1 a2 t453 x8_2 t456 (wrap64 (x10_2 + 1)) a0_0 a0_1 a0_2 a0_3 a0_4 a0_5 a0_6 l0_7)) else (none)) else (none)) = some r := by rw [if_neg (show ¬ (false = true) by decide)] at H; exact H
          clear H
          have H := H1
          clear H1
          by_cases c29 : 0 ≤ x10_2
          ·rw [if_pos c29] at H
           have c29b0 : decide (0 ≤ x10_2) = true := decide_eq_true c29
           clear c29
           by_cases c30 : x10_2 < (t456.length : Int)
           ·rw [if_pos c30] at H
            have c30b0 : decide (x10_2 < (t456.length : Int)) = true := decide_eq_true c30
            clear c30
            by_cases c31 : t462 < (rd t456 x10_2)
            ·rw [if_pos c31] at H
             have c31b0 : decide (t462 < (rd t456 x10_2)) = true := decide_eq_true c31
             clear c31
             have c32b0 := eq_true (odt (by (with_reducible assumption)) : 0 ≤ x10_2)
             obtain ⟨ji33, hji33⟩ : ∃ j_ : Int, (shl .i64 1 x10_2) = j_ := ⟨_, rfl⟩
             replace H : (r22_why.l0 k2 l1 a2 t453 (wrap64 (x8_2 + (ji33))) t456 (wrap64 (x10_2 + 1)) a0_0 a0_1 a0_2 a0_3 a0_4 a0_5 a0_6 l0_7) = some r := by (rw [hji33] at H; exact H)
             (try rw [hji33] at A24)
             (try rw [hji33] at A25)
             have hji33_ : (IntKind.i64.wrap (1 * 2 ^ min x10_2.toNat 64)) = ji33 := hji33
             have hji33z : x10_2 ≤ 64 → (IntKind.i64.wrap (1 * 2 ^ x10_2.toNat)) = ji33 := shl_small hji33
             have hji33u : (IntKind.i64.wrap (2 ^ min x10_2.toNat 64)) = ji33 := by have h_ := hji33_; rw [Int.one_mul] at h_; exact h_
             have hji33v : x10_2 ≤ 64 → (IntKind.i64.wrap (2 ^ x10_2.toNat)) = ji33 := fun hle_ => by have h_ := hji33z hle_; rw [Int.one_mul] at h_; exact h_
             have hji33y : (wrap64 (1 * 2 ^ min x10_2.toNat 64)) = ji33 := (i64_w _).symm.trans hji33_
             have hji33x : x10_2 ≤ 64 → (wrap64 (1 * 2 ^ x10_2.toNat)) = ji33 := fun h_ => (i64_w _).symm.trans (hji33z h_)
             have H' := Sd.mk H
             clear H
             have p459 : 0 ≤ (a2 : Int) := odt (by (with_reducible assumption))
             have q459 : a2 < (l1.length : Int) := odt (by (with_reducible assumption))
             obtain ⟨ad459, A459_2, c459_2, A459_3, c459_3, e459, hx459_0, hx459_1, hx459_2, hx459_3, hx459_4, hx459_5, hl459_2, hi459_2, hl459_3, hi459_3⟩ := at_T28 HR1.out a2 p459 q459
             cases e459
             replace hx459_0 := cb HB.out hx459_0
             replace hx459_1 := cb HB.out hx459_1
             replace hx459_2 := cb HB.out hx459_2
             replace hx459_3 := cb HB.out hx459_3
             replace hx459_4 := cb HB.out hx459_4
             replace hx459_5 := cb HB.out hx459_5
             have HR459_2 := Sd.mk hi459_2
             have HC459_2 := Sd.mk hl459_2
             clear hi459_2 hl459_2
             have HR459_3 := Sd.mk hi459_3
             have HC459_3 := Sd.mk hl459_3
             clear hi459_3 hl459_3
             replace p459 := eq_true p459
             replace q459 := eq_true q459
             go_wp2_with (first | ((with_reducible refine gate_callee (f := 62) rfl ?_); refine goesL_ (some 39) rfl rfl Tryz.func62 (by kernel_rfl) rfl #[.int .i64 x10_2, .int .i64 ((rd_T28 l1 a2).f0)] rfl (by (try simp only [List.map_toArray, List.map_cons, List.map_nil]); (rfl)) ?_; (with_reducible refine (r21_Key.calls k2 x10_2 ((rd_T28 l1 a2).f0) t460 t461 _ A24.out).mono ?_); rintro e w34 ⟨rfl, hb⟩; refine ⟨_, rfl, ?_⟩; have n0_ := Sd.mk (Kd.R_below (by (with_reducible repeat (fail)); exact HO_7.out) hb); have n1_ := Sd.mk (Kd.R_below (by (with_reducible repeat (fail)); exact HO_9.out) hb); have n2_ := Sd.mk (blk_below (g := gb451) (o := .cells #[.int .i64 a0_0, .int .i64 a0_1, .int .i64 a0_2, .int .i64 a0_3, .int .i64 a0_4, .int .i64 a0_5, .int .i64 a0_6, .slice A0_7 l0_7.length c0_7] 34 (0, 0)) (by (with_reducible repeat (fail)); exact BK451.out) hb); have n3_ := Sd.mk (below_step (by repeat ((with_reducible (exact HB.out)))) hb); clear HO_7; clear HO_9; clear BK451; clear HB; have HO_7 := n0_; have HO_9 := n1_; have BK451 := n2_; have HB := n3_; clear n0_ n1_ n2_ n3_; (try clear hb); (try clear hb2); (try clear hk); (try clear hi)) | ((with_reducible refine gate_callee (f := 63) rfl ?_); refine goesL_ (some 47) rfl rfl Tryz.func63 (by kernel_rfl) rfl #[.slice (some ad459) l1.length c1, .slice Ao15 t453.length co15, .int .i64 x10_2, .int .i64 t460] rfl (by (try simp only [List.map_toArray, List.map_cons, List.map_nil]); (rfl)) ?_; (with_reducible refine (r22_keys.calls k2 _ _ l1 _ _ t453 x10_2 t460 t462 false _ ?side1 ?side2 ?side3 ?side4 A25.out).mono ?_); (case side1 => repeat ((exact (Kd.C_below HR1.out HB.out)))); (case side2 => exact HC1.out); (case side3 => repeat ((exact (Kd.R_reads' HO_7.out).2.2))); (case side4 => exact (Kd.R_reads' HO_7.out).2.1); rintro e w35 ⟨rfl, hb⟩; refine ⟨_, rfl, ?_⟩; have n0_ := Sd.mk (Kd.R_below (by (with_reducible repeat (fail)); exact HO_7.out) hb); have n1_ := Sd.mk (Kd.R_below (by (with_reducible repeat (fail)); exact HO_9.out) hb); have n2_ := Sd.mk (blk_below (g := gb451) (o := .cells #[.int .i64 a0_0, .int .i64 a0_1, .int .i64 a0_2, .int .i64 a0_3, .int .i64 a0_4, .int .i64 a0_5, .int .i64 a0_6, .slice A0_7 l0_7.length c0_7] 34 (0, 0)) (by (with_reducible repeat (fail)); exact BK451.out) hb); have n3_ := Sd.mk (below_step (by repeat ((with_reducible (exact HB.out)))) hb); clear HO_7; clear HO_9; clear BK451; clear HB; have HO_7 := n0_; have HO_9 := n1_; have BK451 := n2_; have HB := n3_; clear n0_ n1_ n2_ n3_; (try clear hb); (try clear hb2); (try clear hk); (try clear hi); obtain ⟨Ao36, co36, eo36⟩ := Kd.R_slice HO_9.out; subst eo36; have p464 : 0 ≤ (x10_2 : Int) := odt (by (with_reducible assumption)); have q464 : x10_2 < (t456.length : Int) := odt (by (with_reducible assumption)); obtain ⟨ad464, e464, hx464_0⟩ := Kd.at_int (Kd.R_reads' HO_9.out).2.2 x10_2 p464 q464; cases e464; replace p464 := eq_true p464; replace q464 := eq_true q464))
             go_roundg k2
             case measure => have := HJ9.out; have := HK2.out; omega
             case rel => exact ⟨(wrap64 (x8_2 + (ji33))), (wrap64 (x10_2 + 1)), (by (rfl)), (by (rfl)), H', ⟨by have := HJ9.out; have := HK2.out; omega⟩, ⟨by (with_reducible repeat (fail)); exact HO_7.out⟩, ⟨by (with_reducible repeat (fail)); exact HO_9.out⟩, ⟨by (with_reducible repeat (fail)); exact BK451.out⟩, ⟨by repeat ((with_reducible (exact HB.out)))⟩⟩
            ·rw [if_neg c31] at H
             have c31b0 : decide (t462 < (rd t456 x10_2)) = false := decide_eq_false c31
             clear c31
             have H' := Sd.mk H
             clear H
             have p459 : 0 ≤ (a2 : Int) := odt (by (with_reducible assumption))
             have q459 : a2 < (l1.length : Int) := odt (by (with_reducible assumption))
             obtain ⟨ad459, A459_2, c459_2, A459_3, c459_3, e459, hx459_0, hx459_1, hx459_2, hx459_3, hx459_4, hx459_5, hl459_2, hi459_2, hl459_3, hi459_3⟩ := at_T28 HR1.out a2 p459 q459
             cases e459
             replace hx459_0 := cb HB.out hx459_0
             replace hx459_1 := cb HB.out hx459_1
             replace hx459_2 := cb HB.out hx459_2
             replace hx459_3 := cb HB.out hx459_3
             replace hx459_4 := cb HB.out hx459_4
             replace hx459_5 := cb HB.out hx459_5
             have HR459_2 := Sd.mk hi459_2
             have HC459_2 := Sd.mk hl459_2
             clear hi459_2 hl459_2
             have HR459_3 := Sd.mk hi459_3
             have HC459_3 := Sd.mk hl459_3
             clear hi459_3 hl459_3
             replace p459 := eq_true p459
             replace q459 := eq_true q459
             go_wp2_with (first | ((with_reducible refine gate_callee (f := 62) rfl ?_); refine goesL_ (some 39) rfl rfl Tryz.func62 (by kernel_rfl) rfl #[.int .i64 x10_2, .int .i64 ((rd_T28 l1 a2).f0)] rfl (by (try simp only [List.map_toArray, List.map_cons, List.map_nil]); (rfl)) ?_; (with_reducible refine (r21_Key.calls k2 x10_2 ((rd_T28 l1 a2).f0) t460 t461 _ A24.out).mono ?_); rintro e w37 ⟨rfl, hb⟩; refine ⟨_, rfl, ?_⟩; have n0_ := Sd.mk (Kd.R_below (by (with_reducible repeat (fail)); exact HO_7.out) hb); have n1_ := Sd.mk (Kd.R_below (by (with_reducible repeat (fail)); exact HO_9.out) hb); have n2_ := Sd.mk (blk_below (g := gb451) (o := .cells #[.int .i64 a0_0, .int .i64 a0_1, .int .i64 a0_2, .int .i64 a0_3, .int .i64 a0_4, .int .i64 a0_5, .int .i64 a0_6, .slice A0_7 l0_7.length c0_7] 34 (0, 0)) (by (with_reducible repeat (fail)); exact BK451.out) hb); have n3_ := Sd.mk (below_step (by repeat ((with_reducible (exact HB.out)))) hb); clear HO_7; clear HO_9; clear BK451; clear HB; have HO_7 := n0_; have HO_9 := n1_; have BK451 := n2_; have HB := n3_; clear n0_ n1_ n2_ n3_; (try clear hb); (try clear hb2); (try clear hk); (try clear hi)) | ((with_reducible refine gate_callee (f := 63) rfl ?_); refine goesL_ (some 47) rfl rfl Tryz.func63 (by kernel_rfl) rfl #[.slice (some ad459) l1.length c1, .slice Ao15 t453.length co15, .int .i64 x10_2, .int .i64 t460] rfl (by (try simp only [List.map_toArray, List.map_cons, List.map_nil]); (rfl)) ?_; (with_reducible refine (r22_keys.calls k2 _ _ l1 _ _ t453 x10_2 t460 t462 false _ ?side1 ?side2 ?side3 ?side4 A25.out).mono ?_); (case side1 => repeat ((exact (Kd.C_below HR1.out HB.out)))); (case side2 => exact HC1.out); (case side3 => repeat ((exact (Kd.R_reads' HO_7.out).2.2))); (case side4 => exact (Kd.R_reads' HO_7.out).2.1); rintro e w38 ⟨rfl, hb⟩; refine ⟨_, rfl, ?_⟩; have n0_ := Sd.mk (Kd.R_below (by (with_reducible repeat (fail)); exact HO_7.out) hb); have n1_ := Sd.mk (Kd.R_below (by (with_reducible repeat (fail)); exact HO_9.out) hb); have n2_ := Sd.mk (blk_below (g := gb451) (o := .cells #[.int .i64 a0_0, .int .i64 a0_1, .int .i64 a0_2, .int .i64 a0_3, .int .i64 a0_4, .int .i64 a0_5, .int .i64 a0_6, .slice A0_7 l0_7.length c0_7] 34 (0, 0)) (by (with_reducible repeat (fail)); exact BK451.out) hb); have n3_ := Sd.mk (below_step (by repeat ((with_reducible (exact HB.out)))) hb); clear HO_7; clear HO_9; clear BK451; clear HB; have HO_7 := n0_; have HO_9 := n1_; have BK451 := n2_; have HB := n3_; clear n0_ n1_ n2_ n3_; (try clear hb); (try clear hb2); (try clear hk); (try clear hi); obtain ⟨Ao39, co39, eo39⟩ := Kd.R_slice HO_9.out; subst eo39; have p464 : 0 ≤ (x10_2 : Int) := odt (by (with_reducible assumption)); have q464 : x10_2 < (t456.length : Int) := odt (by (with_reducible assumption)); obtain ⟨ad464, e464, hx464_0⟩ := Kd.at_int (Kd.R_reads' HO_9.out).2.2 x10_2 p464 q464; cases e464; replace p464 := eq_true p464; replace q464 := eq_true q464))
             go_roundg k2
             case measure => have := HJ9.out; have := HK2.out; omega
             case rel => exact ⟨(x8_2), (wrap64 (x10_2 + 1)), (by (rfl)), (by (rfl)), H', ⟨by have := HJ9.out; have := HK2.out; omega⟩, ⟨by (with_reducible repeat (fail)); exact HO_7.out⟩, ⟨by (with_reducible repeat (fail)); exact HO_9.out⟩, ⟨by (with_reducible repeat (fail)); exact BK451.out⟩, ⟨by repeat ((with_reducible (exact HB.out)))⟩⟩
           ·rw [if_neg c30] at H
            exact absurd H (by simp)
          ·rw [if_neg c29] at H
           exact absurd H (by simp)
        ·rw [if_neg c23] at H
         exact absurd H (by simp)
       ·rw [if_neg c22] at H
        exact absurd H (by simp)
      ·rw [if_neg c21] at H
       have c21b0 : decide (x10_2 ≤ 5) = false := decide_eq_false c21
       clear c21
       have HC40 := Sd.mk H
       clear H
       go_upto_if 67 with (fail)
       go_cut [15] (fun v15 wc => ∃ (kq : Nat) (x15_39 : Int), v15 = .int .i64 x15_39 ∧ Sd (r22_why.j2 kq l1 a2 x8_2 x15_39 a0_0 a0_1 a0_2 a0_3 a0_4 a0_5 a0_6 l0_7 = some r) ∧ Sd (kq ≤ k2) ∧ Sd (wc.heap[gb451]? = some (.cells #[.int .i64 a0_0, .int .i64 a0_1, .int .i64 a0_2, .int .i64 a0_3, .int .i64 a0_4, .int .i64 a0_5, .int .i64 a0_6, (.slice A0_7 l0_7.length c0_7)] 34 (0, 0))) ∧ Sd (Below w.heap.size w wc))
       case first =>
        have H := HC40.out
        clear HC40
        by_cases c41 : (t453.length : Int) > 0
        ·rw [if_pos c41] at H
         have c41b0 : decide (0 < (t453.length : Int)) = true := decide_eq_true c41
         have c41b1 : decide (0 < t453.length) = true := decide_eq_true (by omega)
         clear c41
         ((skip))
         by_cases c42 : 0 < (t453.length : Int)
         ·rw [if_pos c42] at H
          have c42b0 : decide (0 < (t453.length : Int)) = true := decide_eq_true c42
          have c42b1 : decide (0 < t453.length) = true := decide_eq_true (by omega)
          clear c42
          have H' := Sd.mk H
          clear H
          have p465 : 0 ≤ (0 : Int) := (by omega)
          have q465 : 0 < (t453.length : Int) := odt (by (with_reducible assumption))
          obtain ⟨ad465, e465, hx465_0⟩ := Kd.at_int (Kd.R_reads' HO_7.out).2.2 0 p465 q465
          cases e465
          have qi465 : (0 < t453.length) = True := eq_true (by omega)
          (try rw [show ((0 : Int)).toNat = 0 from rfl] at hx465_0)
          (try rw [Addr.add_zero'] at hx465_0)
          replace p465 := eq_true p465
          replace q465 := eq_true q465
          go_wp2
          all_goals first | (exfalso; have h41_ := odt c41b1; omega) | skip
          go_meet
          case rel => exact ⟨_, (rd t453 0), (by (rfl)), H', ⟨by have := HJ9.out; have := HK2.out; (omega)⟩, ⟨by (with_reducible repeat (fail)); exact BK451.out⟩, ⟨by repeat ((with_reducible (exact HB.out)))⟩⟩
         ·rw [if_neg c42] at H
          exact absurd H (by simp)
        ·rw [if_neg c41] at H
         have c41b0 : decide (0 < (t453.length : Int)) = false := decide_eq_false c41
         have c41b1 : decide (0 < t453.length) = false := decide_eq_false (by omega)
         clear c41
         ((skip))
         have H' := Sd.mk H
         clear H
         go_wp2
         all_goals first | (exfalso; have h41_ := of_decide_eq_false c41b1; omega) | skip
         go_meet
         case rel => exact ⟨_, (a2), (by (rfl)), H', ⟨by have := HJ9.out; have := HK2.out; (omega)⟩, ⟨by (with_reducible repeat (fail)); exact BK451.out⟩, ⟨by repeat ((with_reducible (exact HB.out)))⟩⟩
       case rest =>
        clear HC40
        try clear c1
        try clear c2
        try clear p2
        try clear c3
        try clear c4
        try clear p4
        try clear q4
        try clear hx4
        try clear qi4
        try clear c5
        try clear c6
        try clear p6
        try clear c17
        try clear c17b0
        try clear c21
        try clear c21b0
        try clear c22
        try clear c22b0
        try clear c23
        try clear c23b0
        try clear c26
        try clear c28
        try clear c29
        try clear c29b0
        try clear c30
        try clear c30b0
        try clear c31
        try clear c31b0
        try clear c32
        try clear c32b0
        try clear c41
        try clear c41b0
        try clear c41b1
        try clear c42
        try clear c42b0
        try clear c42b1
        try clear hcz12_0
        try clear hcz12_1
        try clear hcz12_2
        try clear hcz12_3
        try clear hcz12_4
        try clear hcz12_5
        try clear hcz12_6
        try clear hcz12_7
        try clear hcz16_0
        try clear hcz16_1
        try clear hcz16_2
        try clear hcz16_3
        try clear hcz16_4
        try clear hcz16_5
        try clear hcz16_6
        try clear hcz16_7
        try clear hcz19_0
        try clear hcz19_1
        try clear hcz19_2
        try clear hcz19_3
        try clear hcz19_4
        try clear hcz19_5
        try clear hcz19_6
        try clear hcz19_7
        try clear hcz7_0
        try clear hcz7_1
        try clear hcz7_2
        try clear hcz7_3
        try clear hcz7_4
        try clear hcz7_5
        try clear hcz7_6
        try clear hcz7_7
        try clear hfz12_0
        try clear hfz12_1
        try clear hfz12_2
        try clear hfz12_3
        try clear hfz12_4
        try clear hfz12_5
        try clear hfz12_6
        try clear hfz12_7
        try clear hfz16_0
        try clear hfz16_1
        try clear hfz16_2
        try clear hfz16_3
        try clear hfz16_4
        try clear hfz16_5
        try clear hfz16_6
        try clear hfz16_7
        try clear hfz19_0
        try clear hfz19_1
        try clear hfz19_2
        try clear hfz19_3
        try clear hfz19_4
        try clear hfz19_5
        try clear hfz19_6
        try clear hfz19_7
        try clear hfz7_0
        try clear hfz7_1
        try clear hfz7_2
        try clear hfz7_3
        try clear hfz7_4
        try clear hfz7_5
        try clear hfz7_6
        try clear hfz7_7
        try clear hx459_0
        try clear hx459_1
        try clear hx459_2
        try clear hx459_3
        try clear hx459_4
        try clear hx459_5
        try clear hx464_0
        try clear hx465_0
        try clear p2
        try clear p459
        try clear p464
        try clear p465
        try clear q459
        try clear q464
        try clear q465
        obtain ⟨kq, x15_39, rfl, HA, HJ39, BK451, HB⟩ := hcut
        cases kq with
        | zero => exact absurd HA.out (by simp [r22_why.j2])
        | succ kj39 =>
         have H := HA.out
         clear HA
         simp only [r22_why.j2] at H
         have HC43 := Sd.mk H
         clear H
         go_upto_region 18 with (fail)
         go_cut [89] (fun v89 wc => ∃ (kq : Nat) (x89_42 : Bool), v89 = .bool x89_42 ∧ Sd (r22_why.j3 kq l1 a2 x8_2 x89_42 a0_0 a0_1 a0_2 a0_3 a0_4 a0_5 a0_6 l0_7 = some r) ∧ Sd (kq ≤ kj39) ∧ Sd (wc.heap[gb451]? = some (.cells #[.int .i64 a0_0, .int .i64 a0_1, .int .i64 a0_2, .int .i64 a0_3, .int .i64 a0_4, .int .i64 a0_5, .int .i64 a0_6, (.slice A0_7 l0_7.length c0_7)] 34 (0, 0))) ∧ Sd (Below w.heap.size w wc))
         case first =>
          have H := HC43.out
          clear HC43
          by_cases c44 : a0_6 > 0
          ·rw [if_pos c44] at H
           have c44b0 : decide (0 < a0_6) = true := decide_eq_true c44
           clear c44
           ((skip))
           by_cases c45 : 0 ≤ x15_39
           ·rw [if_pos c45] at H
            have c45b0 : decide (0 ≤ x15_39) = true := decide_eq_true c45
            clear c45
            by_cases c46 : x15_39 < (l1.length : Int)
            ·rw [if_pos c46] at H
             have c46b0 : decide (x15_39 < (l1.length : Int)) = true := decide_eq_true c46
             clear c46
             by_cases c47 : 0 ≤ a2
             ·rw [if_pos c47] at H
              have c47b0 : decide (0 ≤ a2) = true := decide_eq_true c47
              clear c47
              by_cases c48 : a2 < (l1.length : Int)
              ·rw [if_pos c48] at H
               have c48b0 : decide (a2 < (l1.length : Int)) = true := decide_eq_true c48
               clear c48
               have H' := Sd.mk H
               clear H
               try go_wp2
               have n0_ := Sd.mk (blk_drew BK451.out)
               have n1_ := Sd.mk (below_drew1 HB.out)
               clear BK451
               clear HB
               have BK451 := n0_
               have HB := n1_
               clear n0_ n1_
               have p466 : 0 ≤ (x15_39 : Int) := odt (by (with_reducible assumption))
               have q466 : x15_39 < (l1.length : Int) := odt (by (with_reducible assumption))
               obtain ⟨ad466, A466_2, c466_2, A466_3, c466_3, e466, hx466_0, hx466_1, hx466_2, hx466_3, hx466_4, hx466_5, hl466_2, hi466_2, hl466_3, hi466_3⟩ := at_T28 HR1.out x15_39 p466 q466
               have hw466_5 := hx466_5
               have hw466_4 := hx466_4
               have hw466_3 := hx466_3
               have hw466_2 := hx466_2
               have hw466_1 := hx466_1
               have hw466_0 := hx466_0
               cases e466
               replace hx466_0 := cb HB.out hx466_0
               replace hx466_1 := cb HB.out hx466_1
               replace hx466_2 := cb HB.out hx466_2
               replace hx466_3 := cb HB.out hx466_3
               replace hx466_4 := cb HB.out hx466_4
               replace hx466_5 := cb HB.out hx466_5
               have HR466_2 := Sd.mk hi466_2
               have HC466_2 := Sd.mk hl466_2
               clear hi466_2 hl466_2
               have HR466_3 := Sd.mk hi466_3
               have HC466_3 := Sd.mk hl466_3
               clear hi466_3 hl466_3
               replace p466 := eq_true p466
               replace q466 := eq_true q466
               have p467 : 0 ≤ (a2 : Int) := odt (by (with_reducible assumption))
               have q467 : a2 < (l1.length : Int) := odt (by (with_reducible assumption))
               obtain ⟨ad467, A467_2, c467_2, A467_3, c467_3, e467, hx467_0, hx467_1, hx467_2, hx467_3, hx467_4, hx467_5, hl467_2, hi467_2, hl467_3, hi467_3⟩ := at_T28 HR1.out a2 p467 q467
               have hw467_5 := hx467_5
               have hw467_4 := hx467_4
               have hw467_3 := hx467_3
               have hw467_2 := hx467_2
               have hw467_1 := hx467_1
               have hw467_0 := hx467_0
               obtain rfl : ad466 = ad467 := (by injection e467)
               replace hx467_0 := cb HB.out hx467_0
               replace hx467_1 := cb HB.out hx467_1
               replace hx467_2 := cb HB.out hx467_2
               replace hx467_3 := cb HB.out hx467_3
               replace hx467_4 := cb HB.out hx467_4
               replace hx467_5 := cb HB.out hx467_5
               have HR467_2 := Sd.mk hi467_2
               have HC467_2 := Sd.mk hl467_2
               clear hi467_2 hl467_2
               have HR467_3 := Sd.mk hi467_3
               have HC467_3 := Sd.mk hl467_3
               clear hi467_3 hl467_3
               replace p467 := eq_true p467
               replace q467 := eq_true q467
               refine start_ (n := 19) (S := fun w' => w'.cell? ⟨gb451, 0, none⟩ = some (.int .i64 a0_0) ∧ w'.cell? ⟨gb451, 1, none⟩ = some (.int .i64 a0_1) ∧ w'.cell? ⟨gb451, 2, none⟩ = some (.int .i64 a0_2) ∧ w'.cell? ⟨gb451, 3, none⟩ = some (.int .i64 a0_3) ∧ w'.cell? ⟨gb451, 4, none⟩ = some (.int .i64 a0_4) ∧ w'.cell? ⟨gb451, 5, none⟩ = some (.int .i64 a0_5) ∧ w'.cell? ⟨gb451, 6, none⟩ = some (.int .i64 a0_6) ∧ w'.cell? ⟨gb451, 7, none⟩ = some (.slice A0_7 l0_7.length c0_7) ∧ w'.cell? (ad466.add ((x15_39).toNat * 6)) = some (.int .i64 ((rd_T28 l1 x15_39).f0)) ∧ w'.cell? ⟨(ad466.add ((x15_39).toNat * 6)).block, (ad466.add ((x15_39).toNat * 6)).off + 1, none⟩ = some (.string ((rd_T28 l1 x15_39).f1)) ∧ w'.cell? ⟨(ad466.add ((x15_39).toNat * 6)).block, (ad466.add ((x15_39).toNat * 6)).off + 2, none⟩ = some (.slice A466_2 ((rd_T28 l1 x15_39).f2).length c466_2) ∧ w'.cell? ⟨(ad466.add ((x15_39).toNat * 6)).block, (ad466.add ((x15_39).toNat * 6)).off + 3, none⟩ = some (.slice A466_3 ((rd_T28 l1 x15_39).f3).length c466_3) ∧ w'.cell? ⟨(ad466.add ((x15_39).toNat * 6)).block, (ad466.add ((x15_39).toNat * 6)).off + 4, none⟩ = some (.string ((rd_T28 l1 x15_39).f4)) ∧ w'.cell? ⟨(ad466.add ((x15_39).toNat * 6)).block, (ad466.add ((x15_39).toNat * 6)).off + 5, none⟩ = some (.string ((rd_T28 l1 x15_39).f5)) ∧ w'.cell? (ad466.add ((a2).toNat * 6)) = some (.int .i64 ((rd_T28 l1 a2).f0)) ∧ w'.cell? ⟨(ad466.add ((a2).toNat * 6)).block, (ad466.add ((a2).toNat * 6)).off + 1, none⟩ = some (.string ((rd_T28 l1 a2).f1)) ∧ w'.cell? ⟨(ad466.add ((a2).toNat * 6)).block, (ad466.add ((a2).toNat * 6)).off + 2, none⟩ = some (.slice A467_2 ((rd_T28 l1 a2).f2).length c467_2) ∧ w'.cell? ⟨(ad466.add ((a2).toNat * 6)).block, (ad466.add ((a2).toNat * 6)).off + 3, none⟩ = some (.slice A467_3 ((rd_T28 l1 a2).f3).length c467_3) ∧ w'.cell? ⟨(ad466.add ((a2).toNat * 6)).block, (ad466.add ((a2).toNat * 6)).off + 4, none⟩ = some (.string ((rd_T28 l1 a2).f4)) ∧ w'.cell? ⟨(ad466.add ((a2).toNat * 6)).block, (ad466.add ((a2).toNat * 6)).off + 5, none⟩ = some (.string ((rd_T28 l1 a2).f5))) (ds := []) (bz 19 0) (by kernel_rfl) rfl rfl (ba8 BK451.out ⟨(cb HB.out hw466_0), (cb HB.out hw466_1), (cb HB.out hw466_2), (cb HB.out hw466_3), (cb HB.out hw466_4), (cb HB.out hw466_5), (cb HB.out hw467_0), (cb HB.out hw467_1), (cb HB.out hw467_2), (cb HB.out hw467_3), (cb HB.out hw467_4), (cb HB.out hw467_5)⟩) (fun hHeld => ?_); refine with_tabW r22_why.tab18 r22_why.bits18 (fun HT_ HW_ => ?_)
               generalize wc.drew = w49 at BK451 HB HR466_2 HR466_3 HR467_2 HR467_3 hx466_0 hx466_1 hx466_2 hx466_3 hx466_4 hx466_5 hx467_0 hx467_1 hx467_2 hx467_3 hx467_4 hx467_5 hHeld ⊢
               refine pu_ 0 71 (bz 19 1) (any_of HT_.out (by kernel_rfl)) ?_
               refine ta_ 1 72 (bz 19 3) (take_ofW HT_.out HW_.out (by kernel_rfl)) hHeld ?_
               refine pu_ 2 73 (bz 19 7) (any_of HT_.out (by kernel_rfl)) ?_
               refine pu_ 3 74 (bz 19 15) (any_of HT_.out (by kernel_rfl)) ?_
               refine pu_ 4 75 (bz 19 31) (any_of HT_.out (by kernel_rfl)) ?_
               refine pu_ 5 76 (bz 19 63) (any_of HT_.out (by kernel_rfl)) ?_
               refine pu_ 6 77 (bz 19 127) (any_of HT_.out (by kernel_rfl)) ?_
               refine pu_ 7 78 (bz 19 255) (any_of HT_.out (by kernel_rfl)) ?_
               refine pu_ 9 80 (bz 19 767) (any_of HT_.out (by kernel_rfl)) ?_
               refine pu_ 10 81 (bz 19 1791) (any_of HT_.out (by kernel_rfl)) ?_
               refine pu_ 11 82 (bz 19 3839) (any_of HT_.out (by kernel_rfl)) ?_
               refine pu_ 12 83 (bz 19 7935) (any_of HT_.out (by kernel_rfl)) ?_
               refine pu_ 15 86 (bz 19 40703) (any_of HT_.out (by kernel_rfl)) ?_
               refine ta_ 8 79 (bz 19 40959) (take_ofW HT_.out HW_.out (by kernel_rfl)) hHeld ?_
               refine ta_ 13 84 (bz 19 49151) (take_ofW HT_.out HW_.out (by kernel_rfl)) hHeld ?_
               refine pu_ 14 85 (bz 19 65535) (any_of HT_.out (by kernel_rfl)) ?_
               refine ta_ 16 87 (bz 19 131071) (take_ofW HT_.out HW_.out (by kernel_rfl)) hHeld ?_
               refine pu_ 17 88 (bz 19 262143) (any_of HT_.out (by kernel_rfl)) ?_
               refine pu_ 18 89 (bz 19 524287) (any_of HT_.out (by kernel_rfl)) ?_
               refine done_ (done_of HT_.out (by kernel_rfl)) ?_
               (try simp only [wrap64_u8w, wrap64_m256])
               try go_wp2
               go_meet
               case rel => exact ⟨_, (decide ((wrap64 (((rd_T28 l1 x15_39).f0) - ((rd_T28 l1 a2).f0))) ≤ a0_6)), (by (rfl)), H', ⟨by have := HJ9.out; have := HK2.out; have := HJ39.out; (omega)⟩, ⟨by (with_reducible repeat (fail)); exact BK451.out⟩, ⟨by repeat ((with_reducible (exact HB.out)))⟩⟩
              ·rw [if_neg c48] at H
               exact absurd H (by simp)
             ·rw [if_neg c47] at H
              exact absurd H (by simp)
            ·rw [if_neg c46] at H
             exact absurd H (by simp)
           ·rw [if_neg c45] at H
            exact absurd H (by simp)
          ·rw [if_neg c44] at H
           have c44b0 : decide (0 < a0_6) = false := decide_eq_false c44
           clear c44
           ((skip))
           have H' := Sd.mk H
           clear H
           try go_wp2
           have n0_ := Sd.mk (blk_drew BK451.out)
           have n1_ := Sd.mk (below_drew1 HB.out)
           clear BK451
           clear HB
           have BK451 := n0_
           have HB := n1_
           clear n0_ n1_
           refine start_ (n := 19) (S := fun w' => w'.cell? ⟨gb451, 0, none⟩ = some (.int .i64 a0_0) ∧ w'.cell? ⟨gb451, 1, none⟩ = some (.int .i64 a0_1) ∧ w'.cell? ⟨gb451, 2, none⟩ = some (.int .i64 a0_2) ∧ w'.cell? ⟨gb451, 3, none⟩ = some (.int .i64 a0_3) ∧ w'.cell? ⟨gb451, 4, none⟩ = some (.int .i64 a0_4) ∧ w'.cell? ⟨gb451, 5, none⟩ = some (.int .i64 a0_5) ∧ w'.cell? ⟨gb451, 6, none⟩ = some (.int .i64 a0_6) ∧ w'.cell? ⟨gb451, 7, none⟩ = some (.slice A0_7 l0_7.length c0_7)) (ds := []) (bz 19 0) (by kernel_rfl) rfl rfl (bc8 BK451.out) (fun hHeld => ?_); refine with_tabW r22_why.tab18 r22_why.bits18 (fun HT_ HW_ => ?_)
           generalize wc.drew = w50 at BK451 HB hHeld ⊢
           refine pu_ 0 71 (bz 19 1) (any_of HT_.out (by kernel_rfl)) ?_
           refine ta_ 1 72 (bz 19 3) (take_ofW HT_.out HW_.out (by kernel_rfl)) hHeld ?_
           refine pu_ 2 73 (bz 19 7) (any_of HT_.out (by kernel_rfl)) ?_
           refine pu_ 3 74 (bz 19 15) (any_of HT_.out (by kernel_rfl)) ?_
           refine pure_ (i := 4) (N := some 75) (v := undef) (a' := ?_) (bz 19 31) rfl rfl (any_of HT_.out (by kernel_rfl)) (fun _ _ _ h => h) (Or.inr ⟨by rfl, rfl⟩) ?_ ?_
           rotate_left
           ·simp only [Act.put, List.setIfInBounds_toArray, List.set_cons_zero, List.set_cons_succ, i64_w, i32_w]
            rfl
           refine pure_ (i := 5) (N := some 76) (v := undef) (a' := ?_) (bz 19 63) rfl rfl (any_of HT_.out (by kernel_rfl)) (fun _ _ _ h => h) (Or.inr ⟨by rfl, rfl⟩) ?_ ?_
           rotate_left
           ·simp only [Act.put, List.setIfInBounds_toArray, List.set_cons_zero, List.set_cons_succ, i64_w, i32_w]
            rfl
           refine pure_ (i := 6) (N := some 77) (v := undef) (a' := ?_) (bz 19 127) rfl rfl (any_of HT_.out (by kernel_rfl)) (fun _ _ _ h => h) (Or.inr ⟨by rfl, rfl⟩) ?_ ?_
           rotate_left
           ·simp only [Act.put, List.setIfInBounds_toArray, List.set_cons_zero, List.set_cons_succ, i64_w, i32_w]
            rfl
           refine pure_ (i := 7) (N := some 78) (v := undef) (a' := ?_) (bz 19 255) rfl rfl (any_of HT_.out (by kernel_rfl)) (fun _ _ _ h => h) (Or.inr ⟨by rfl, rfl⟩) ?_ ?_
           rotate_left
           ·simp only [Act.put, List.setIfInBounds_toArray, List.set_cons_zero, List.set_cons_succ, i64_w, i32_w]
            rfl
           refine pure_ (i := 8) (N := some 79) (v := undef) (a' := ?_) (bz 19 511) rfl rfl (any_of HT_.out (by kernel_rfl)) (fun _ _ _ h => h) (Or.inr ⟨by rfl, rfl⟩) ?_ ?_
           rotate_left
           ·simp only [Act.put, List.setIfInBounds_toArray, List.set_cons_zero, List.set_cons_succ, i64_w, i32_w]
            rfl
           refine pure_ (i := 9) (N := some 80) (v := undef) (a' := ?_) (bz 19 1023) rfl rfl (any_of HT_.out (by kernel_rfl)) (fun _ _ _ h => h) (Or.inr ⟨by rfl, rfl⟩) ?_ ?_
           rotate_left
           ·simp only [Act.put, List.setIfInBounds_toArray, List.set_cons_zero, List.set_cons_succ, i64_w, i32_w]
            rfl
           refine pure_ (i := 10) (N := some 81) (v := undef) (a' := ?_) (bz 19 2047) rfl rfl (any_of HT_.out (by kernel_rfl)) (fun _ _ _ h => h) (Or.inr ⟨by rfl, rfl⟩) ?_ ?_
           rotate_left
           ·simp only [Act.put, List.setIfInBounds_toArray, List.set_cons_zero, List.set_cons_succ, i64_w, i32_w]
            rfl
           refine pure_ (i := 11) (N := some 82) (v := undef) (a' := ?_) (bz 19 4095) rfl rfl (any_of HT_.out (by kernel_rfl)) (fun _ _ _ h => h) (Or.inr ⟨by rfl, rfl⟩) ?_ ?_
           rotate_left
           ·simp only [Act.put, List.setIfInBounds_toArray, List.set_cons_zero, List.set_cons_succ, i64_w, i32_w]
            rfl
           refine pure_ (i := 12) (N := some 83) (v := undef) (a' := ?_) (bz 19 8191) rfl rfl (any_of HT_.out (by kernel_rfl)) (fun _ _ _ h => h) (Or.inr ⟨by rfl, rfl⟩) ?_ ?_
           rotate_left
           ·simp only [Act.put, List.setIfInBounds_toArray, List.set_cons_zero, List.set_cons_succ, i64_w, i32_w]
            rfl
           refine pure_ (i := 13) (N := some 84) (v := undef) (a' := ?_) (bz 19 16383) rfl rfl (any_of HT_.out (by kernel_rfl)) (fun _ _ _ h => h) (Or.inr ⟨by rfl, rfl⟩) ?_ ?_
           rotate_left
           ·simp only [Act.put, List.setIfInBounds_toArray, List.set_cons_zero, List.set_cons_succ, i64_w, i32_w]
            rfl
           refine pure_ (i := 14) (N := some 85) (v := undef) (a' := ?_) (bz 19 32767) rfl rfl (any_of HT_.out (by kernel_rfl)) (fun _ _ _ h => h) (Or.inr ⟨by rfl, rfl⟩) ?_ ?_
           rotate_left
           ·simp only [Act.put, List.setIfInBounds_toArray, List.set_cons_zero, List.set_cons_succ, i64_w, i32_w]
            rfl
           refine pure_ (i := 15) (N := some 86) (v := undef) (a' := ?_) (bz 19 65535) rfl rfl (any_of HT_.out (by kernel_rfl)) (fun _ _ _ h => h) (Or.inr ⟨by rfl, rfl⟩) ?_ ?_
           rotate_left
           ·simp only [Act.put, List.setIfInBounds_toArray, List.set_cons_zero, List.set_cons_succ, i64_w, i32_w]
            rfl
           refine pure_ (i := 16) (N := some 87) (v := undef) (a' := ?_) (bz 19 131071) rfl rfl (any_of HT_.out (by kernel_rfl)) (fun _ _ _ h => h) (Or.inr ⟨by rfl, rfl⟩) ?_ ?_
           rotate_left
           ·simp only [Act.put, List.setIfInBounds_toArray, List.set_cons_zero, List.set_cons_succ, i64_w, i32_w]
            rfl
           refine pure_ (i := 17) (N := some 88) (v := undef) (a' := ?_) (bz 19 262143) rfl rfl (any_of HT_.out (by kernel_rfl)) (fun _ _ _ h => h) (Or.inr ⟨by rfl, rfl⟩) ?_ ?_
           rotate_left
           ·simp only [Act.put, List.setIfInBounds_toArray, List.set_cons_zero, List.set_cons_succ, i64_w, i32_w]
            rfl
           refine pu_ 18 89 (bz 19 524287) (any_of HT_.out (by kernel_rfl)) ?_
           refine done_ (done_of HT_.out (by kernel_rfl)) ?_
           (try simp only [wrap64_u8w, wrap64_m256])
           try go_wp2
           go_meet
           case rel => exact ⟨_, (false), (by (rfl)), H', ⟨by have := HJ9.out; have := HK2.out; have := HJ39.out; (omega)⟩, ⟨by (with_reducible repeat (fail)); exact BK451.out⟩, ⟨by repeat ((with_reducible (exact HB.out)))⟩⟩
         case rest =>
          clear HC43
          try clear c1
          try clear c2
          try clear p2
          try clear c3
          try clear c4
          try clear p4
          try clear q4
          try clear hx4
          try clear qi4
          try clear c5
          try clear c6
          try clear p6
          try clear c17
          try clear c17b0
          try clear c21
          try clear c21b0
          try clear c22
          try clear c22b0
          try clear c23
          try clear c23b0
          try clear c26
          try clear c28
          try clear c29
          try clear c29b0
          try clear c30
          try clear c30b0
          try clear c31
          try clear c31b0
          try clear c32
          try clear c32b0
          try clear c41
          try clear c41b0
          try clear c41b1
          try clear c42
          try clear c42b0
          try clear c42b1
          try clear c44
          try clear c44b0
          try clear c45
          try clear c45b0
          try clear p45
          try clear q45
          try clear hx45
          try clear c46
          try clear c46b0
          try clear p46
          try clear q46
          try clear hx46
          try clear qi46
          try clear c47
          try clear c47b0
          try clear c48
          try clear c48b0
          try clear hcz12_0
          try clear hcz12_1
          try clear hcz12_2
          try clear hcz12_3
          try clear hcz12_4
          try clear hcz12_5
          try clear hcz12_6
          try clear hcz12_7
          try clear hcz16_0
          try clear hcz16_1
          try clear hcz16_2
          try clear hcz16_3
          try clear hcz16_4
          try clear hcz16_5
          try clear hcz16_6
          try clear hcz16_7
          try clear hcz19_0
          try clear hcz19_1
          try clear hcz19_2
          try clear hcz19_3
          try clear hcz19_4
          try clear hcz19_5
          try clear hcz19_6
          try clear hcz19_7
          try clear hcz7_0
          try clear hcz7_1
          try clear hcz7_2
          try clear hcz7_3
          try clear hcz7_4
          try clear hcz7_5
          try clear hcz7_6
          try clear hcz7_7
          try clear hfz12_0
          try clear hfz12_1
          try clear hfz12_2
          try clear hfz12_3
          try clear hfz12_4
          try clear hfz12_5
          try clear hfz12_6
          try clear hfz12_7
          try clear hfz16_0
          try clear hfz16_1
          try clear hfz16_2
          try clear hfz16_3
          try clear hfz16_4
          try clear hfz16_5
          try clear hfz16_6
          try clear hfz16_7
          try clear hfz19_0
          try clear hfz19_1
          try clear hfz19_2
          try clear hfz19_3
          try clear hfz19_4
          try clear hfz19_5
          try clear hfz19_6
          try clear hfz19_7
          try clear hfz7_0
          try clear hfz7_1
          try clear hfz7_2
          try clear hfz7_3
          try clear hfz7_4
          try clear hfz7_5
          try clear hfz7_6
          try clear hfz7_7
          try clear hx459_0
          try clear hx459_1
          try clear hx459_2
          try clear hx459_3
          try clear hx459_4
          try clear hx459_5
          try clear hx464_0
          try clear hx465_0
          try clear hx466_0
          try clear hx466_1
          try clear hx466_2
          try clear hx466_3
          try clear hx466_4
          try clear hx466_5
          try clear hx467_0
          try clear hx467_1
          try clear hx467_2
          try clear hx467_3
          try clear hx467_4
          try clear hx467_5
          try clear p2
          try clear p4
          try clear p459
          try clear p464
          try clear p465
          try clear p466
          try clear p467
          try clear p6
          try clear q4
          try clear q459
          try clear q464
          try clear q465
          try clear q466
          try clear q467
          obtain ⟨kq, x89_42, rfl, HA, HJ42, BK451, HB⟩ := hcut
          cases kq with
          | zero => exact absurd HA.out (by simp [r22_why.j3])
          | succ kj42 =>
           have H := HA.out
           clear HA
           simp only [r22_why.j3] at H
           by_cases c51 : x89_42 = true
           ·subst c51
            have H1 : (if 0 ≤ a2 then (if a2 < (l1.length : Int) then ((r22_tagged.f kj42 ((rd_T28 l1 a2).f0) ((rd_T28 l1 a2).f1) ((rd_T28 l1 a2).f2) ((rd_T28 l1 a2).f3) ((rd_T28 l1 a2).f4) ((rd_T28 l1 a2).f5) l0_7).bind fun t469 => (if t469 = true then (some (wrap64 ((wrap64 (x8_2 + 64)) + 128))) else (some (wrap64 (x8_2 + 64))))) else (none)) else (none)) = some r := by rw [if_pos rfl] at H; exact H
            clear H
            have H := H1
            clear H1
            by_cases c52 : 0 ≤ a2
            ·rw [if_pos c52] at H
             have c52b0 : decide (0 ≤ a2) = true := decide_eq_true c52
             clear c52
             by_cases c53 : a2 < (l1.length : Int)
             ·rw [if_pos c53] at H
              have c53b0 : decide (a2 < (l1.length : Int)) = true := decide_eq_true c53
              clear c53
              replace H := Option.bind_eq_some_iff.mp H
              obtain ⟨t469, A540, H⟩ := H
              replace H : (if t469 = true then (some (wrap64 ((wrap64 (x8_2 + 64)) + 128))) else (some (wrap64 (x8_2 + 64)))) = some r := H
              have A54 := Sd.mk A540
              clear A540
              by_cases c55 : t469 = true
              ·subst c55
               have H1 : (some (wrap64 ((wrap64 (x8_2 + 64)) + 128))) = some r := by rw [if_pos rfl] at H; exact H
               clear H
               have H := H1
               clear H1
               obtain rfl := Option.some.inj H
               try go_wp2
               have n0_ := Sd.mk (blk_drew BK451.out)
               have n1_ := Sd.mk (below_drew1 HB.out)
               clear BK451
               clear HB
               have BK451 := n0_
               have HB := n1_
               clear n0_ n1_
               have p468 : 0 ≤ (a2 : Int) := odt (by (with_reducible assumption))
               have q468 : a2 < (l1.length : Int) := odt (by (with_reducible assumption))
               obtain ⟨ad468, A468_2, c468_2, A468_3, c468_3, e468, hx468_0, hx468_1, hx468_2, hx468_3, hx468_4, hx468_5, hl468_2, hi468_2, hl468_3, hi468_3⟩ := at_T28 HR1.out a2 p468 q468
               have hw468_5 := hx468_5
               have hw468_4 := hx468_4
               have hw468_3 := hx468_3
               have hw468_2 := hx468_2
               have hw468_1 := hx468_1
               have hw468_0 := hx468_0
               cases e468
               replace hx468_0 := cb HB.out hx468_0
               replace hx468_1 := cb HB.out hx468_1
               replace hx468_2 := cb HB.out hx468_2
               replace hx468_3 := cb HB.out hx468_3
               replace hx468_4 := cb HB.out hx468_4
               replace hx468_5 := cb HB.out hx468_5
               have HR468_2 := Sd.mk hi468_2
               have HC468_2 := Sd.mk hl468_2
               clear hi468_2 hl468_2
               have HR468_3 := Sd.mk hi468_3
               have HC468_3 := Sd.mk hl468_3
               clear hi468_3 hl468_3
               replace p468 := eq_true p468
               replace q468 := eq_true q468
               refine start_ (n := 7) (S := fun w' => w'.cell? ⟨gb451, 0, none⟩ = some (.int .i64 a0_0) ∧ w'.cell? ⟨gb451, 1, none⟩ = some (.int .i64 a0_1) ∧ w'.cell? ⟨gb451, 2, none⟩ = some (.int .i64 a0_2) ∧ w'.cell? ⟨gb451, 3, none⟩ = some (.int .i64 a0_3) ∧ w'.cell? ⟨gb451, 4, none⟩ = some (.int .i64 a0_4) ∧ w'.cell? ⟨gb451, 5, none⟩ = some (.int .i64 a0_5) ∧ w'.cell? ⟨gb451, 6, none⟩ = some (.int .i64 a0_6) ∧ w'.cell? ⟨gb451, 7, none⟩ = some (.slice A0_7 l0_7.length c0_7) ∧ w'.cell? (ad468.add ((a2).toNat * 6)) = some (.int .i64 ((rd_T28 l1 a2).f0)) ∧ w'.cell? ⟨(ad468.add ((a2).toNat * 6)).block, (ad468.add ((a2).toNat * 6)).off + 1, none⟩ = some (.string ((rd_T28 l1 a2).f1)) ∧ w'.cell? ⟨(ad468.add ((a2).toNat * 6)).block, (ad468.add ((a2).toNat * 6)).off + 2, none⟩ = some (.slice A468_2 ((rd_T28 l1 a2).f2).length c468_2) ∧ w'.cell? ⟨(ad468.add ((a2).toNat * 6)).block, (ad468.add ((a2).toNat * 6)).off + 3, none⟩ = some (.slice A468_3 ((rd_T28 l1 a2).f3).length c468_3) ∧ w'.cell? ⟨(ad468.add ((a2).toNat * 6)).block, (ad468.add ((a2).toNat * 6)).off + 4, none⟩ = some (.string ((rd_T28 l1 a2).f4)) ∧ w'.cell? ⟨(ad468.add ((a2).toNat * 6)).block, (ad468.add ((a2).toNat * 6)).off + 5, none⟩ = some (.string ((rd_T28 l1 a2).f5))) (ds := []) #[false, false, false, false, false, false, false] (by kernel_rfl) rfl rfl (ba8 BK451.out ⟨(cb HB.out hw468_0), (cb HB.out hw468_1), (cb HB.out hw468_2), (cb HB.out hw468_3), (cb HB.out hw468_4), (cb HB.out hw468_5)⟩) (fun hHeld => ?_)
               generalize wc.drew = w56 at BK451 HB HR468_2 HR468_3 hx468_0 hx468_1 hx468_2 hx468_3 hx468_4 hx468_5 hHeld ⊢
               refine pu_ 0 92 #[true, false, false, false, false, false, false] (by kernel_rfl) ?_
               refine pu_ 1 93 #[true, true, false, false, false, false, false] (by kernel_rfl) ?_
               refine pu_ 2 94 #[true, true, true, false, false, false, false] (by kernel_rfl) ?_
               refine pu_ 4 96 #[true, true, true, false, true, false, false] (by kernel_rfl) ?_
               refine ta_ 3 95 #[true, true, true, true, true, false, false] (by kernel_rfl) hHeld ?_
               refine ta_ 5 97 #[true, true, true, true, true, true, false] (by kernel_rfl) hHeld ?_
               refine one_ (i := 6) (N := some 98) #[true, true, true, true, true, true, true] rfl rfl (by kernel_rfl) (by decide) (fun K hK => ?_)
               refine goes_ Tryz.func64 (by kernel_rfl) rfl #[.agg #[.int .i64 ((rd_T28 l1 a2).f0), .string ((rd_T28 l1 a2).f1), .slice A468_2 ((rd_T28 l1 a2).f2).length c468_2, .slice A468_3 ((rd_T28 l1 a2).f3).length c468_3, .string ((rd_T28 l1 a2).f4), .string ((rd_T28 l1 a2).f5)], .slice A0_7 l0_7.length c0_7] (by rfl) rfl rfl (by (try simp only [List.map_toArray, List.map_cons, List.map_nil]); (rfl)) ?_
               with_reducible refine (r22_tagged.calls kj42 ((rd_T28 l1 a2).f0) ((rd_T28 l1 a2).f1) _ _ ((rd_T28 l1 a2).f2) _ _ ((rd_T28 l1 a2).f3) ((rd_T28 l1 a2).f4) ((rd_T28 l1 a2).f5) _ _ l0_7 true _ ?side1 ?side2 ?side3 ?side4 ?side5 ?side6 A54.out).mono ?_
               (case side1 => repeat ((exact (Kd.C_below HR468_2.out HB.out))))
               (case side2 => exact HC468_2.out)
               (case side3 => repeat ((exact (Kd.C_below HR468_3.out HB.out))))
               (case side4 => exact HC468_3.out)
               (case side5 => repeat ((exact (Kd.C_below HR0_7.out HB.out))))
               (case side6 => exact HC0_7.out)
               rintro e w57 ⟨rfl, hb⟩
               refine ⟨_, rfl, ?_⟩
               have n0_ := Sd.mk (blk_below (g := gb451) (o := .cells #[.int .i64 a0_0, .int .i64 a0_1, .int .i64 a0_2, .int .i64 a0_3, .int .i64 a0_4, .int .i64 a0_5, .int .i64 a0_6, .slice A0_7 l0_7.length c0_7] 34 (0, 0)) (by (with_reducible repeat (fail)); exact BK451.out) hb)
               have n1_ := Sd.mk (below_step (by repeat ((with_reducible (exact HB.out)))) hb)
               clear BK451
               clear HB
               have BK451 := n0_
               have HB := n1_
               clear n0_ n1_
               (try clear hb)
               (try clear hb2)
               (try clear hk)
               (try clear hi)
               refine hK.out _ _ (ba8 BK451.out ⟨(cb HB.out hw468_0), (cb HB.out hw468_1), (cb HB.out hw468_2), (cb HB.out hw468_3), (cb HB.out hw468_4), (cb HB.out hw468_5)⟩) (fun hHeld => ?_)
               clear hK K
               refine norm_ (a' := ?_) ?_ ?_
               rotate_left
               ·show Act.put _ (some 98) _ = _
                simp only [Act.put, List.setIfInBounds_toArray, List.set_cons_zero, List.set_cons_succ, i64_w, i32_w]
                rfl
               refine done_ (by kernel_rfl) ?_
               try go_wp2
               go_ret
               exact ⟨by (rfl), by repeat ((with_reducible (exact HB.out)))⟩
              ·replace c55 := Bool.eq_false_iff.mpr c55
               subst c55
               have H1 : (some (wrap64 (x8_2 + 64))) = some r := by rw [if_neg (show ¬ (false = true) by decide)] at H; exact H
               clear H
               have H := H1
               clear H1
               obtain rfl := Option.some.inj H
               try go_wp2
               have n0_ := Sd.mk (blk_drew BK451.out)
               have n1_ := Sd.mk (below_drew1 HB.out)
               clear BK451
               clear HB
               have BK451 := n0_
               have HB := n1_
               clear n0_ n1_
               have p468 : 0 ≤ (a2 : Int) := odt (by (with_reducible assumption))
               have q468 : a2 < (l1.length : Int) := odt (by (with_reducible assumption))
               obtain ⟨ad468, A468_2, c468_2, A468_3, c468_3, e468, hx468_0, hx468_1, hx468_2, hx468_3, hx468_4, hx468_5, hl468_2, hi468_2, hl468_3, hi468_3⟩ := at_T28 HR1.out a2 p468 q468
               have hw468_5 := hx468_5
               have hw468_4 := hx468_4
               have hw468_3 := hx468_3
               have hw468_2 := hx468_2
               have hw468_1 := hx468_1
               have hw468_0 := hx468_0
               cases e468
               replace hx468_0 := cb HB.out hx468_0
               replace hx468_1 := cb HB.out hx468_1
               replace hx468_2 := cb HB.out hx468_2
               replace hx468_3 := cb HB.out hx468_3
               replace hx468_4 := cb HB.out hx468_4
               replace hx468_5 := cb HB.out hx468_5
               have HR468_2 := Sd.mk hi468_2
               have HC468_2 := Sd.mk hl468_2
               clear hi468_2 hl468_2
               have HR468_3 := Sd.mk hi468_3
               have HC468_3 := Sd.mk hl468_3
               clear hi468_3 hl468_3
               replace p468 := eq_true p468
               replace q468 := eq_true q468
               refine start_ (n := 7) (S := fun w' => w'.cell? ⟨gb451, 0, none⟩ = some (.int .i64 a0_0) ∧ w'.cell? ⟨gb451, 1, none⟩ = some (.int .i64 a0_1) ∧ w'.cell? ⟨gb451, 2, none⟩ = some (.int .i64 a0_2) ∧ w'.cell? ⟨gb451, 3, none⟩ = some (.int .i64 a0_3) ∧ w'.cell? ⟨gb451, 4, none⟩ = some (.int .i64 a0_4) ∧ w'.cell? ⟨gb451, 5, none⟩ = some (.int .i64 a0_5) ∧ w'.cell? ⟨gb451, 6, none⟩ = some (.int .i64 a0_6) ∧ w'.cell? ⟨gb451, 7, none⟩ = some (.slice A0_7 l0_7.length c0_7) ∧ w'.cell? (ad468.add ((a2).toNat * 6)) = some (.int .i64 ((rd_T28 l1 a2).f0)) ∧ w'.cell? ⟨(ad468.add ((a2).toNat * 6)).block, (ad468.add ((a2).toNat * 6)).off + 1, none⟩ = some (.string ((rd_T28 l1 a2).f1)) ∧ w'.cell? ⟨(ad468.add ((a2).toNat * 6)).block, (ad468.add ((a2).toNat * 6)).off + 2, none⟩ = some (.slice A468_2 ((rd_T28 l1 a2).f2).length c468_2) ∧ w'.cell? ⟨(ad468.add ((a2).toNat * 6)).block, (ad468.add ((a2).toNat * 6)).off + 3, none⟩ = some (.slice A468_3 ((rd_T28 l1 a2).f3).length c468_3) ∧ w'.cell? ⟨(ad468.add ((a2).toNat * 6)).block, (ad468.add ((a2).toNat * 6)).off + 4, none⟩ = some (.string ((rd_T28 l1 a2).f4)) ∧ w'.cell? ⟨(ad468.add ((a2).toNat * 6)).block, (ad468.add ((a2).toNat * 6)).off + 5, none⟩ = some (.string ((rd_T28 l1 a2).f5))) (ds := []) #[false, false, false, false, false, false, false] (by kernel_rfl) rfl rfl (ba8 BK451.out ⟨(cb HB.out hw468_0), (cb HB.out hw468_1), (cb HB.out hw468_2), (cb HB.out hw468_3), (cb HB.out hw468_4), (cb HB.out hw468_5)⟩) (fun hHeld => ?_)
               generalize wc.drew = w58 at BK451 HB HR468_2 HR468_3 hx468_0 hx468_1 hx468_2 hx468_3 hx468_4 hx468_5 hHeld ⊢
               refine pu_ 0 92 #[true, false, false, false, false, false, false] (by kernel_rfl) ?_
               refine pu_ 1 93 #[true, true, false, false, false, false, false] (by kernel_rfl) ?_
               refine pu_ 2 94 #[true, true, true, false, false, false, false] (by kernel_rfl) ?_
               refine pu_ 4 96 #[true, true, true, false, true, false, false] (by kernel_rfl) ?_
               refine ta_ 3 95 #[true, true, true, true, true, false, false] (by kernel_rfl) hHeld ?_
               refine ta_ 5 97 #[true, true, true, true, true, true, false] (by kernel_rfl) hHeld ?_
               refine one_ (i := 6) (N := some 98) #[true, true, true, true, true, true, true] rfl rfl (by kernel_rfl) (by decide) (fun K hK => ?_)
               refine goes_ Tryz.func64 (by kernel_rfl) rfl #[.agg #[.int .i64 ((rd_T28 l1 a2).f0), .string ((rd_T28 l1 a2).f1), .slice A468_2 ((rd_T28 l1 a2).f2).length c468_2, .slice A468_3 ((rd_T28 l1 a2).f3).length c468_3, .string ((rd_T28 l1 a2).f4), .string ((rd_T28 l1 a2).f5)], .slice A0_7 l0_7.length c0_7] (by rfl) rfl rfl (by (try simp only [List.map_toArray, List.map_cons, List.map_nil]); (rfl)) ?_
               with_reducible refine (r22_tagged.calls kj42 ((rd_T28 l1 a2).f0) ((rd_T28 l1 a2).f1) _ _ ((rd_T28 l1 a2).f2) _ _ ((rd_T28 l1 a2).f3) ((rd_T28 l1 a2).f4) ((rd_T28 l1 a2).f5) _ _ l0_7 false _ ?side1 ?side2 ?side3 ?side4 ?side5 ?side6 A54.out).mono ?_
               (case side1 => repeat ((exact (Kd.C_below HR468_2.out HB.out))))
               (case side2 => exact HC468_2.out)
               (case side3 => repeat ((exact (Kd.C_below HR468_3.out HB.out))))
               (case side4 => exact HC468_3.out)
               (case side5 => repeat ((exact (Kd.C_below HR0_7.out HB.out))))
               (case side6 => exact HC0_7.out)
               rintro e w59 ⟨rfl, hb⟩
               refine ⟨_, rfl, ?_⟩
               have n0_ := Sd.mk (blk_below (g := gb451) (o := .cells #[.int .i64 a0_0, .int .i64 a0_1, .int .i64 a0_2, .int .i64 a0_3, .int .i64 a0_4, .int .i64 a0_5, .int .i64 a0_6, .slice A0_7 l0_7.length c0_7] 34 (0, 0)) (by (with_reducible repeat (fail)); exact BK451.out) hb)
               have n1_ := Sd.mk (below_step (by repeat ((with_reducible (exact HB.out)))) hb)
               clear BK451
               clear HB
               have BK451 := n0_
               have HB := n1_
               clear n0_ n1_
               (try clear hb)
               (try clear hb2)
               (try clear hk)
               (try clear hi)
               refine hK.out _ _ (ba8 BK451.out ⟨(cb HB.out hw468_0), (cb HB.out hw468_1), (cb HB.out hw468_2), (cb HB.out hw468_3), (cb HB.out hw468_4), (cb HB.out hw468_5)⟩) (fun hHeld => ?_)
               clear hK K
               refine norm_ (a' := ?_) ?_ ?_
               rotate_left
               ·show Act.put _ (some 98) _ = _
                simp only [Act.put, List.setIfInBounds_toArray, List.set_cons_zero, List.set_cons_succ, i64_w, i32_w]
                rfl
               refine done_ (by kernel_rfl) ?_
               try go_wp2
               go_ret
               exact ⟨by (rfl), by repeat ((with_reducible (exact HB.out)))⟩
             ·rw [if_neg c53] at H
              exact absurd H (by simp)
            ·rw [if_neg c52] at H
             exact absurd H (by simp)
           ·replace c51 := Bool.eq_false_iff.mpr c51
            subst c51
            have H1 : (if 0 ≤ a2 then (if a2 < (l1.length : Int) then ((r22_tagged.f kj42 ((rd_T28 l1 a2).f0) ((rd_T28 l1 a2).f1) ((rd_T28 l1 a2).f2) ((rd_T28 l1 a2).f3) ((rd_T28 l1 a2).f4) ((rd_T28 l1 a2).f5) l0_7).bind fun t471 => (if t471 = true then (some (wrap64 (x8_2 + 128))) else (some x8_2))) else (none)) else (none)) = some r := by rw [if_neg (show ¬ (false = true) by decide)] at H; exact H
            clear H
            have H := H1
            clear H1
            by_cases c60 : 0 ≤ a2
            ·rw [if_pos c60] at H
             have c60b0 : decide (0 ≤ a2) = true := decide_eq_true c60
             clear c60
             by_cases c61 : a2 < (l1.length : Int)
             ·rw [if_pos c61] at H
              have c61b0 : decide (a2 < (l1.length : Int)) = true := decide_eq_true c61
              clear c61
              replace H := Option.bind_eq_some_iff.mp H
              obtain ⟨t471, A620, H⟩ := H
              replace H : (if t471 = true then (some (wrap64 (x8_2 + 128))) else (some x8_2)) = some r := H
              have A62 := Sd.mk A620
              clear A620
              by_cases c63 : t471 = true
              ·subst c63
               have H1 : (some (wrap64 (x8_2 + 128))) = some r := by rw [if_pos rfl] at H; exact H
               clear H
               have H := H1
               clear H1
               obtain rfl := Option.some.inj H
               try go_wp2
               have n0_ := Sd.mk (blk_drew BK451.out)
               have n1_ := Sd.mk (below_drew1 HB.out)
               clear BK451
               clear HB
               have BK451 := n0_
               have HB := n1_
               clear n0_ n1_
               have p470 : 0 ≤ (a2 : Int) := odt (by (with_reducible assumption))
               have q470 : a2 < (l1.length : Int) := odt (by (with_reducible assumption))
               obtain ⟨ad470, A470_2, c470_2, A470_3, c470_3, e470, hx470_0, hx470_1, hx470_2, hx470_3, hx470_4, hx470_5, hl470_2, hi470_2, hl470_3, hi470_3⟩ := at_T28 HR1.out a2 p470 q470
               have hw470_5 := hx470_5
               have hw470_4 := hx470_4
               have hw470_3 := hx470_3
               have hw470_2 := hx470_2
               have hw470_1 := hx470_1
               have hw470_0 := hx470_0
               cases e470
               replace hx470_0 := cb HB.out hx470_0
               replace hx470_1 := cb HB.out hx470_1
               replace hx470_2 := cb HB.out hx470_2
               replace hx470_3 := cb HB.out hx470_3
               replace hx470_4 := cb HB.out hx470_4
               replace hx470_5 := cb HB.out hx470_5
               have HR470_2 := Sd.mk hi470_2
               have HC470_2 := Sd.mk hl470_2
               clear hi470_2 hl470_2
               have HR470_3 := Sd.mk hi470_3
               have HC470_3 := Sd.mk hl470_3
               clear hi470_3 hl470_3
               replace p470 := eq_true p470
               replace q470 := eq_true q470
               refine start_ (n := 7) (S := fun w' => w'.cell? ⟨gb451, 0, none⟩ = some (.int .i64 a0_0) ∧ w'.cell? ⟨gb451, 1, none⟩ = some (.int .i64 a0_1) ∧ w'.cell? ⟨gb451, 2, none⟩ = some (.int .i64 a0_2) ∧ w'.cell? ⟨gb451, 3, none⟩ = some (.int .i64 a0_3) ∧ w'.cell? ⟨gb451, 4, none⟩ = some (.int .i64 a0_4) ∧ w'.cell? ⟨gb451, 5, none⟩ = some (.int .i64 a0_5) ∧ w'.cell? ⟨gb451, 6, none⟩ = some (.int .i64 a0_6) ∧ w'.cell? ⟨gb451, 7, none⟩ = some (.slice A0_7 l0_7.length c0_7) ∧ w'.cell? (ad470.add ((a2).toNat * 6)) = some (.int .i64 ((rd_T28 l1 a2).f0)) ∧ w'.cell? ⟨(ad470.add ((a2).toNat * 6)).block, (ad470.add ((a2).toNat * 6)).off + 1, none⟩ = some (.string ((rd_T28 l1 a2).f1)) ∧ w'.cell? ⟨(ad470.add ((a2).toNat * 6)).block, (ad470.add ((a2).toNat * 6)).off + 2, none⟩ = some (.slice A470_2 ((rd_T28 l1 a2).f2).length c470_2) ∧ w'.cell? ⟨(ad470.add ((a2).toNat * 6)).block, (ad470.add ((a2).toNat * 6)).off + 3, none⟩ = some (.slice A470_3 ((rd_T28 l1 a2).f3).length c470_3) ∧ w'.cell? ⟨(ad470.add ((a2).toNat * 6)).block, (ad470.add ((a2).toNat * 6)).off + 4, none⟩ = some (.string ((rd_T28 l1 a2).f4)) ∧ w'.cell? ⟨(ad470.add ((a2).toNat * 6)).block, (ad470.add ((a2).toNat * 6)).off + 5, none⟩ = some (.string ((rd_T28 l1 a2).f5))) (ds := []) #[false, false, false, false, false, false, false] (by kernel_rfl) rfl rfl (ba8 BK451.out ⟨(cb HB.out hw470_0), (cb HB.out hw470_1), (cb HB.out hw470_2), (cb HB.out hw470_3), (cb HB.out hw470_4), (cb HB.out hw470_5)⟩) (fun hHeld => ?_)
               generalize wc.drew = w64 at BK451 HB HR470_2 HR470_3 hx470_0 hx470_1 hx470_2 hx470_3 hx470_4 hx470_5 hHeld ⊢
               refine pu_ 0 92 #[true, false, false, false, false, false, false] (by kernel_rfl) ?_
               refine pu_ 1 93 #[true, true, false, false, false, false, false] (by kernel_rfl) ?_
               refine pu_ 2 94 #[true, true, true, false, false, false, false] (by kernel_rfl) ?_
               refine pu_ 4 96 #[true, true, true, false, true, false, false] (by kernel_rfl) ?_
               refine ta_ 3 95 #[true, true, true, true, true, false, false] (by kernel_rfl) hHeld ?_
               refine ta_ 5 97 #[true, true, true, true, true, true, false] (by kernel_rfl) hHeld ?_
               refine one_ (i := 6) (N := some 98) #[true, true, true, true, true, true, true] rfl rfl (by kernel_rfl) (by decide) (fun K hK => ?_)
               refine goes_ Tryz.func64 (by kernel_rfl) rfl #[.agg #[.int .i64 ((rd_T28 l1 a2).f0), .string ((rd_T28 l1 a2).f1), .slice A470_2 ((rd_T28 l1 a2).f2).length c470_2, .slice A470_3 ((rd_T28 l1 a2).f3).length c470_3, .string ((rd_T28 l1 a2).f4), .string ((rd_T28 l1 a2).f5)], .slice A0_7 l0_7.length c0_7] (by rfl) rfl rfl (by (try simp only [List.map_toArray, List.map_cons, List.map_nil]); (rfl)) ?_
               with_reducible refine (r22_tagged.calls kj42 ((rd_T28 l1 a2).f0) ((rd_T28 l1 a2).f1) _ _ ((rd_T28 l1 a2).f2) _ _ ((rd_T28 l1 a2).f3) ((rd_T28 l1 a2).f4) ((rd_T28 l1 a2).f5) _ _ l0_7 true _ ?side1 ?side2 ?side3 ?side4 ?side5 ?side6 A62.out).mono ?_
               (case side1 => repeat ((exact (Kd.C_below HR470_2.out HB.out))))
               (case side2 => exact HC470_2.out)
               (case side3 => repeat ((exact (Kd.C_below HR470_3.out HB.out))))
               (case side4 => exact HC470_3.out)
               (case side5 => repeat ((exact (Kd.C_below HR0_7.out HB.out))))
               (case side6 => exact HC0_7.out)
               rintro e w65 ⟨rfl, hb⟩
               refine ⟨_, rfl, ?_⟩
               have n0_ := Sd.mk (blk_below (g := gb451) (o := .cells #[.int .i64 a0_0, .int .i64 a0_1, .int .i64 a0_2, .int .i64 a0_3, .int .i64 a0_4, .int .i64 a0_5, .int .i64 a0_6, .slice A0_7 l0_7.length c0_7] 34 (0, 0)) (by (with_reducible repeat (fail)); exact BK451.out) hb)
               have n1_ := Sd.mk (below_step (by repeat ((with_reducible (exact HB.out)))) hb)
               clear BK451
               clear HB
               have BK451 := n0_
               have HB := n1_
               clear n0_ n1_
               (try clear hb)
               (try clear hb2)
               (try clear hk)
               (try clear hi)
               refine hK.out _ _ (ba8 BK451.out ⟨(cb HB.out hw470_0), (cb HB.out hw470_1), (cb HB.out hw470_2), (cb HB.out hw470_3), (cb HB.out hw470_4), (cb HB.out hw470_5)⟩) (fun hHeld => ?_)
               clear hK K
               refine norm_ (a' := ?_) ?_ ?_
               rotate_left
               ·show Act.put _ (some 98) _ = _
                simp only [Act.put, List.setIfInBounds_toArray, List.set_cons_zero, List.set_cons_succ, i64_w, i32_w]
                rfl
               refine done_ (by kernel_rfl) ?_
               try go_wp2
               go_ret
               exact ⟨by (rfl), by repeat ((with_reducible (exact HB.out)))⟩
              ·replace c63 := Bool.eq_false_iff.mpr c63
               subst c63
               have H1 : (some x8_2) = some r := by rw [if_neg (show ¬ (false = true) by decide)] at H; exact H
               clear H
               have H := H1
               clear H1
               obtain rfl := Option.some.inj H
               try go_wp2
               have n0_ := Sd.mk (blk_drew BK451.out)
               have n1_ := Sd.mk (below_drew1 HB.out)
               clear BK451
               clear HB
               have BK451 := n0_
               have HB := n1_
               clear n0_ n1_
               have p470 : 0 ≤ (a2 : Int) := odt (by (with_reducible assumption))
               have q470 : a2 < (l1.length : Int) := odt (by (with_reducible assumption))
               obtain ⟨ad470, A470_2, c470_2, A470_3, c470_3, e470, hx470_0, hx470_1, hx470_2, hx470_3, hx470_4, hx470_5, hl470_2, hi470_2, hl470_3, hi470_3⟩ := at_T28 HR1.out a2 p470 q470
               have hw470_5 := hx470_5
               have hw470_4 := hx470_4
               have hw470_3 := hx470_3
               have hw470_2 := hx470_2
               have hw470_1 := hx470_1
               have hw470_0 := hx470_0
               cases e470
               replace hx470_0 := cb HB.out hx470_0
               replace hx470_1 := cb HB.out hx470_1
               replace hx470_2 := cb HB.out hx470_2
               replace hx470_3 := cb HB.out hx470_3
               replace hx470_4 := cb HB.out hx470_4
               replace hx470_5 := cb HB.out hx470_5
               have HR470_2 := Sd.mk hi470_2
               have HC470_2 := Sd.mk hl470_2
               clear hi470_2 hl470_2
               have HR470_3 := Sd.mk hi470_3
               have HC470_3 := Sd.mk hl470_3
               clear hi470_3 hl470_3
               replace p470 := eq_true p470
               replace q470 := eq_true q470
               refine start_ (n := 7) (S := fun w' => w'.cell? ⟨gb451, 0, none⟩ = some (.int .i64 a0_0) ∧ w'.cell? ⟨gb451, 1, none⟩ = some (.int .i64 a0_1) ∧ w'.cell? ⟨gb451, 2, none⟩ = some (.int .i64 a0_2) ∧ w'.cell? ⟨gb451, 3, none⟩ = some (.int .i64 a0_3) ∧ w'.cell? ⟨gb451, 4, none⟩ = some (.int .i64 a0_4) ∧ w'.cell? ⟨gb451, 5, none⟩ = some (.int .i64 a0_5) ∧ w'.cell? ⟨gb451, 6, none⟩ = some (.int .i64 a0_6) ∧ w'.cell? ⟨gb451, 7, none⟩ = some (.slice A0_7 l0_7.length c0_7) ∧ w'.cell? (ad470.add ((a2).toNat * 6)) = some (.int .i64 ((rd_T28 l1 a2).f0)) ∧ w'.cell? ⟨(ad470.add ((a2).toNat * 6)).block, (ad470.add ((a2).toNat * 6)).off + 1, none⟩ = some (.string ((rd_T28 l1 a2).f1)) ∧ w'.cell? ⟨(ad470.add ((a2).toNat * 6)).block, (ad470.add ((a2).toNat * 6)).off + 2, none⟩ = some (.slice A470_2 ((rd_T28 l1 a2).f2).length c470_2) ∧ w'.cell? ⟨(ad470.add ((a2).toNat * 6)).block, (ad470.add ((a2).toNat * 6)).off + 3, none⟩ = some (.slice A470_3 ((rd_T28 l1 a2).f3).length c470_3) ∧ w'.cell? ⟨(ad470.add ((a2).toNat * 6)).block, (ad470.add ((a2).toNat * 6)).off + 4, none⟩ = some (.string ((rd_T28 l1 a2).f4)) ∧ w'.cell? ⟨(ad470.add ((a2).toNat * 6)).block, (ad470.add ((a2).toNat * 6)).off + 5, none⟩ = some (.string ((rd_T28 l1 a2).f5))) (ds := []) #[false, false, false, false, false, false, false] (by kernel_rfl) rfl rfl (ba8 BK451.out ⟨(cb HB.out hw470_0), (cb HB.out hw470_1), (cb HB.out hw470_2), (cb HB.out hw470_3), (cb HB.out hw470_4), (cb HB.out hw470_5)⟩) (fun hHeld => ?_)
               generalize wc.drew = w66 at BK451 HB HR470_2 HR470_3 hx470_0 hx470_1 hx470_2 hx470_3 hx470_4 hx470_5 hHeld ⊢
               refine pu_ 0 92 #[true, false, false, false, false, false, false] (by kernel_rfl) ?_
               refine pu_ 1 93 #[true, true, false, false, false, false, false] (by kernel_rfl) ?_
               refine pu_ 2 94 #[true, true, true, false, false, false, false] (by kernel_rfl) ?_
               refine pu_ 4 96 #[true, true, true, false, true, false, false] (by kernel_rfl) ?_
               refine ta_ 3 95 #[true, true, true, true, true, false, false] (by kernel_rfl) hHeld ?_
               refine ta_ 5 97 #[true, true, true, true, true, true, false] (by kernel_rfl) hHeld ?_
               refine one_ (i := 6) (N := some 98) #[true, true, true, true, true, true, true] rfl rfl (by kernel_rfl) (by decide) (fun K hK => ?_)
               refine goes_ Tryz.func64 (by kernel_rfl) rfl #[.agg #[.int .i64 ((rd_T28 l1 a2).f0), .string ((rd_T28 l1 a2).f1), .slice A470_2 ((rd_T28 l1 a2).f2).length c470_2, .slice A470_3 ((rd_T28 l1 a2).f3).length c470_3, .string ((rd_T28 l1 a2).f4), .string ((rd_T28 l1 a2).f5)], .slice A0_7 l0_7.length c0_7] (by rfl) rfl rfl (by (try simp only [List.map_toArray, List.map_cons, List.map_nil]); (rfl)) ?_
               with_reducible refine (r22_tagged.calls kj42 ((rd_T28 l1 a2).f0) ((rd_T28 l1 a2).f1) _ _ ((rd_T28 l1 a2).f2) _ _ ((rd_T28 l1 a2).f3) ((rd_T28 l1 a2).f4) ((rd_T28 l1 a2).f5) _ _ l0_7 false _ ?side1 ?side2 ?side3 ?side4 ?side5 ?side6 A62.out).mono ?_
               (case side1 => repeat ((exact (Kd.C_below HR470_2.out HB.out))))
               (case side2 => exact HC470_2.out)
               (case side3 => repeat ((exact (Kd.C_below HR470_3.out HB.out))))
               (case side4 => exact HC470_3.out)
               (case side5 => repeat ((exact (Kd.C_below HR0_7.out HB.out))))
               (case side6 => exact HC0_7.out)
               rintro e w67 ⟨rfl, hb⟩
               refine ⟨_, rfl, ?_⟩
               have n0_ := Sd.mk (blk_below (g := gb451) (o := .cells #[.int .i64 a0_0, .int .i64 a0_1, .int .i64 a0_2, .int .i64 a0_3, .int .i64 a0_4, .int .i64 a0_5, .int .i64 a0_6, .slice A0_7 l0_7.length c0_7] 34 (0, 0)) (by (with_reducible repeat (fail)); exact BK451.out) hb)
               have n1_ := Sd.mk (below_step (by repeat ((with_reducible (exact HB.out)))) hb)
               clear BK451
               clear HB
               have BK451 := n0_
               have HB := n1_
               clear n0_ n1_
               (try clear hb)
               (try clear hb2)
               (try clear hk)
               (try clear hi)
               refine hK.out _ _ (ba8 BK451.out ⟨(cb HB.out hw470_0), (cb HB.out hw470_1), (cb HB.out hw470_2), (cb HB.out hw470_3), (cb HB.out hw470_4), (cb HB.out hw470_5)⟩) (fun hHeld => ?_)
               clear hK K
               refine norm_ (a' := ?_) ?_ ?_
               rotate_left
               ·show Act.put _ (some 98) _ = _
                simp only [Act.put, List.setIfInBounds_toArray, List.set_cons_zero, List.set_cons_succ, i64_w, i32_w]
                rfl
               refine done_ (by kernel_rfl) ?_
               try go_wp2
               go_ret
               exact ⟨by (rfl), by repeat ((with_reducible (exact HB.out)))⟩
             ·rw [if_neg c61] at H
              exact absurd H (by simp)
            ·rw [if_neg c60] at H
             exact absurd H (by simp)
mutual
def r22_Apply.l0 : Nat → List (S28) → Int → Int → Int → Int → Int → Int → Int → Int → List ByteArray → Option (List Int × Int)
 | 0, _, _, _, _, _, _, _, _, _, _ => none
 | k + 1, x1, x7, x473000, x473001, x473002, x473003, x473004, x473005, x473006, x473007 => if x7 < (x1.length : Int) then (if 0 ≤ x7 then ((r20_Check.f k ((rd_T28 x1 x7).f0) ((rd_T28 x1 x7).f1) ((rd_T28 x1 x7).f2) ((rd_T28 x1 x7).f3) ((rd_T28 x1 x7).f4) ((rd_T28 x1 x7).f5)).bind fun t475 => (if t475 = 0 then (r22_Apply.l0 k x1 (wrap64 (x7 + 1)) x473000 x473001 x473002 x473003 x473004 x473005 x473006 x473007) else (some (([] : List Int), t475)))) else (none)) else (r22_Apply.l1 k x1 ([] : List Int) 0 x473000 x473001 x473002 x473003 x473004 x473005 x473006 x473007)
def r22_Apply.l1 : Nat → List (S28) → List Int → Int → Int → Int → Int → Int → Int → Int → Int → List ByteArray → Option (List Int × Int)
 | 0, _, _, _, _, _, _, _, _, _, _, _ => none
 | k + 1, x1, x9, x10, x473000, x473001, x473002, x473003, x473004, x473005, x473006, x473007 => if x10 < (x1.length : Int) then ((r22_why.f k x473000 x473001 x473002 x473003 x473004 x473005 x473006 x473007 x1 x10).bind fun t476 => (if x9.length < 17592186044416 then (r22_Apply.l1 k x1 (x9 ++ [t476]) (wrap64 (x10 + 1)) x473000 x473001 x473002 x473003 x473004 x473005 x473006 x473007) else (none))) else (some (x9, 0))
end
def r22_Apply.f (k : Nat) (a0_0 : Int) (a0_1 : Int) (a0_2 : Int) (a0_3 : Int) (a0_4 : Int) (a0_5 : Int) (a0_6 : Int) (l0_7 : List ByteArray) (l1 : List (S28)) : Option (List Int × Int) := (r22_Check.f k a0_0 a0_1 a0_2 a0_3 a0_4 a0_5 a0_6 l0_7).bind fun t473 => (if t473 = 0 then (if (l1.length : Int) > 4096 then (some (([] : List Int), 2)) else (r22_Apply.l0 k l1 0 a0_0 a0_1 a0_2 a0_3 a0_4 a0_5 a0_6 l0_7)) else (some (([] : List Int), t473)))
theorem r22_Apply.calls (k : Nat) (a0_0 : Int) (a0_1 : Int) (a0_2 : Int) (a0_3 : Int) (a0_4 : Int) (a0_5 : Int) (a0_6 : Int) (A0_7 : Option Addr) (c0_7 : Nat) (l0_7 : List ByteArray) (A1 : Option Addr) (c1 : Nat) (l1 : List (S28)) (r1 : List Int) (r2 : Int) (w : World) (hr0_7 : Kd.C Kd.string w A0_7 l0_7.length l0_7) (hc0_7 : l0_7.length ≤ c0_7) (hr1 : Kd.C k28 w A1 l1.length l1) (hc1 : l1.length ≤ c1) (h : r22_Apply.f k a0_0 a0_1 a0_2 a0_3 a0_4 a0_5 a0_6 l0_7 l1 = some (r1, r2)) :
  Calls Tryz.prog 18 #[.agg #[.int .i64 a0_0, .int .i64 a0_1, .int .i64 a0_2, .int .i64 a0_3, .int .i64 a0_4, .int .i64 a0_5, .int .i64 a0_6, .slice A0_7 l0_7.length c0_7], .slice A1 l1.length c1] w fun e w' => ∃ v0_ : Value, e = .returned (.tuple #[v0_, .int .i64 r2]) ∧ Kd.R (Kd.int .i64) 3 w' w.heap.size (fun _ => True) v0_ r1 ∧ Below w.heap.size w w' := by
 have hu34 := Tryz.underlying34
 have hu28 := Tryz.underlying28
 have HR0_7 := Sd.mk hr0_7
 have HC0_7 := Sd.mk hc0_7
 clear hr0_7 hc0_7
 have HR1 := Sd.mk hr1
 have HC1 := Sd.mk hc1
 clear hr1 hc1
 have HB := Sd.mk (Below.refl w.heap.size w)
 have H : ((r22_Check.f k a0_0 a0_1 a0_2 a0_3 a0_4 a0_5 a0_6 l0_7).bind fun t473 => (if t473 = 0 then (if (l1.length : Int) > 4096 then (some (([] : List Int), 2)) else (r22_Apply.l0 k l1 0 a0_0 a0_1 a0_2 a0_3 a0_4 a0_5 a0_6 l0_7)) else (some (([] : List Int), t473)))) = some (r1, r2) := h
 clear h
 replace H := Option.bind_eq_some_iff.mp H
 obtain ⟨t473, A30, H⟩ := H
 replace H : (if t473 = 0 then (if (l1.length : Int) > 4096 then (some (([] : List Int), 2)) else (r22_Apply.l0 k l1 0 a0_0 a0_1 a0_2 a0_3 a0_4 a0_5 a0_6 l0_7)) else (some (([] : List Int), t473))) = some (r1, r2) := H
 have A3 := Sd.mk A30
 clear A30
 by_cases c4 : t473 = 0
 ·rw [if_pos c4] at H
  have c4b0 : (t473 == 0) = true := beq_iff_eq.mpr c4
  have c4b1 : (t473 != 0) = false := bne_eq_false_iff_eq.mpr c4
  clear c4
  by_cases c5 : (l1.length : Int) > 4096
  ·rw [if_pos c5] at H
   have c5b0 : decide (4096 < (l1.length : Int)) = true := decide_eq_true c5
   have c5b1 : decide (4096 < l1.length) = true := decide_eq_true (by omega)
   clear c5
   simp only [Option.some.injEq, Prod.mk.injEq] at H
   obtain ⟨rfl, rfl⟩ := H
   go_enter Tryz.func18, Tryz.ntmps18
   go_wp2_with (first | ((with_reducible refine gate_dst (N := 2) rfl ?_); refine box_event ?hg (N := 2) ?hd (cs := #[.int .i64 a0_0, .int .i64 a0_1, .int .i64 a0_2, .int .i64 a0_3, .int .i64 a0_4, .int .i64 a0_5, .int .i64 a0_6, .slice A0_7 l0_7.length c0_7]) (t := 34) ?hr ?_; (case hd => rfl); (case hg => rfl); (case hr => (go_simp; done)); intro gb472 hg w6 hbox hb; have n0_ := Sd.mk (below_step (by repeat ((with_reducible (exact HB.out)))) hb); have n1_ := Sd.mk (hbox); have n2_ := Sd.mk ((by rw [hg]; exact (below_size (by repeat ((with_reducible (exact HB.out))))) : w.heap.size ≤ gb472)); have n3_ := Sd.mk ((by rw [hg]; exact (below_size (by repeat ((with_reducible (exact HB.out))))) : w.heap.size ≤ gb472)); clear HB; have HB := n0_; have BK472 := n1_; have GW472 := n2_; have GE472 := n3_; clear n0_ n1_ n2_ n3_; clear hb hbox hg; obtain ⟨hcz7_0, hcz7_1, hcz7_2, hcz7_3, hcz7_4, hcz7_5, hcz7_6, hcz7_7⟩ := bc8 BK472.out; obtain ⟨hfz7_0, hfz7_1, hfz7_2, hfz7_3, hfz7_4, hfz7_5, hfz7_6, hfz7_7⟩ := bf8 BK472.out) | ((with_reducible refine gate_callee (f := 26) rfl ?_); refine goesL_ (some 12) rfl rfl Tryz.func26 (by kernel_rfl) rfl #[.agg #[.int .i64 a0_0, .int .i64 a0_1, .int .i64 a0_2, .int .i64 a0_3, .int .i64 a0_4, .int .i64 a0_5, .int .i64 a0_6, .slice A0_7 l0_7.length c0_7]] rfl (by (try simp only [List.map_toArray, List.map_cons, List.map_nil]); (rfl)) ?_; (with_reducible refine (r22_Check.calls k a0_0 a0_1 a0_2 a0_3 a0_4 a0_5 a0_6 _ _ l0_7 t473 _ ?side1 ?side2 A3.out).mono ?_); (case side1 => repeat ((exact (Kd.C_below HR0_7.out HB.out)))); (case side2 => exact HC0_7.out); rintro e w8 ⟨rfl, hb⟩; refine ⟨_, rfl, ?_⟩; have n0_ := Sd.mk (blk_below (g := gb472) (o := .cells #[.int .i64 a0_0, .int .i64 a0_1, .int .i64 a0_2, .int .i64 a0_3, .int .i64 a0_4, .int .i64 a0_5, .int .i64 a0_6, .slice A0_7 l0_7.length c0_7] 34 (0, 0)) (by (with_reducible repeat (fail)); exact BK472.out) hb); have n1_ := Sd.mk (below_step (by repeat ((with_reducible (exact HB.out)))) hb); clear BK472; clear HB; have BK472 := n0_; have HB := n1_; clear n0_ n1_; (try clear hb); (try clear hb2); (try clear hk); (try clear hi)))
   go_ret2
   exact ⟨_, by (rfl), by (exact Kd.R_nil _ _ _ _ _), by repeat ((with_reducible (exact HB.out)))⟩
  ·rw [if_neg c5] at H
   have c5b0 : decide (4096 < (l1.length : Int)) = false := decide_eq_false c5
   have c5b1 : decide (4096 < l1.length) = false := decide_eq_false (by omega)
   clear c5
   have H' := Sd.mk H
   clear H
   go_enter Tryz.func18, Tryz.ntmps18
   go_wp2_with (first | ((with_reducible refine gate_dst (N := 2) rfl ?_); refine box_event ?hg (N := 2) ?hd (cs := #[.int .i64 a0_0, .int .i64 a0_1, .int .i64 a0_2, .int .i64 a0_3, .int .i64 a0_4, .int .i64 a0_5, .int .i64 a0_6, .slice A0_7 l0_7.length c0_7]) (t := 34) ?hr ?_; (case hd => rfl); (case hg => rfl); (case hr => (go_simp; done)); intro gb472 hg w9 hbox hb; have n0_ := Sd.mk (below_step (by repeat ((with_reducible (exact HB.out)))) hb); have n1_ := Sd.mk (hbox); have n2_ := Sd.mk ((by rw [hg]; exact (below_size (by repeat ((with_reducible (exact HB.out))))) : w.heap.size ≤ gb472)); have n3_ := Sd.mk ((by rw [hg]; exact (below_size (by repeat ((with_reducible (exact HB.out))))) : w.heap.size ≤ gb472)); clear HB; have HB := n0_; have BK472 := n1_; have GW472 := n2_; have GE472 := n3_; clear n0_ n1_ n2_ n3_; clear hb hbox hg; obtain ⟨hcz10_0, hcz10_1, hcz10_2, hcz10_3, hcz10_4, hcz10_5, hcz10_6, hcz10_7⟩ := bc8 BK472.out; obtain ⟨hfz10_0, hfz10_1, hfz10_2, hfz10_3, hfz10_4, hfz10_5, hfz10_6, hfz10_7⟩ := bf8 BK472.out) | ((with_reducible refine gate_callee (f := 26) rfl ?_); refine goesL_ (some 12) rfl rfl Tryz.func26 (by kernel_rfl) rfl #[.agg #[.int .i64 a0_0, .int .i64 a0_1, .int .i64 a0_2, .int .i64 a0_3, .int .i64 a0_4, .int .i64 a0_5, .int .i64 a0_6, .slice A0_7 l0_7.length c0_7]] rfl (by (try simp only [List.map_toArray, List.map_cons, List.map_nil]); (rfl)) ?_; (with_reducible refine (r22_Check.calls k a0_0 a0_1 a0_2 a0_3 a0_4 a0_5 a0_6 _ _ l0_7 t473 _ ?side1 ?side2 A3.out).mono ?_); (case side1 => repeat ((exact (Kd.C_below HR0_7.out HB.out)))); (case side2 => exact HC0_7.out); rintro e w11 ⟨rfl, hb⟩; refine ⟨_, rfl, ?_⟩; have n0_ := Sd.mk (blk_below (g := gb472) (o := .cells #[.int .i64 a0_0, .int .i64 a0_1, .int .i64 a0_2, .int .i64 a0_3, .int .i64 a0_4, .int .i64 a0_5, .int .i64 a0_6, .slice A0_7 l0_7.length c0_7] 34 (0, 0)) (by (with_reducible repeat (fail)); exact BK472.out) hb); have n1_ := Sd.mk (below_step (by repeat ((with_reducible (exact HB.out)))) hb); clear BK472; clear HB; have BK472 := n0_; have HB := n1_; clear n0_ n1_; (try clear hb); (try clear hb2); (try clear hk); (try clear hi)))
   go_loopg [7] k (fun kq v7 w' => ∃ (x7_1 : Int), v7 = .int .i64 x7_1 ∧ Sd (r22_Apply.l0 kq l1 x7_1 a0_0 a0_1 a0_2 a0_3 a0_4 a0_5 a0_6 l0_7 = some (r1, r2)) ∧ Sd (kq ≤ k) ∧ Sd (w'.heap[gb472]? = some (.cells #[.int .i64 a0_0, .int .i64 a0_1, .int .i64 a0_2, .int .i64 a0_3, .int .i64 a0_4, .int .i64 a0_5, .int .i64 a0_6, (.slice A0_7 l0_7.length c0_7)] 34 (0, 0))) ∧ Sd (Below w.heap.size w w'))
   case atStart => exact ⟨(0), (by (rfl)), H', ⟨Nat.le_refl _⟩, ⟨by (with_reducible repeat (fail)); exact BK472.out⟩, ⟨by repeat ((with_reducible (exact HB.out)))⟩⟩
   case round =>
    clear H'
    try clear c1
    try clear c2
    try clear p2
    try clear c4
    try clear c4b0
    try clear c4b1
    try clear c5
    try clear c5b0
    try clear c5b1
    try clear hcz10_0
    try clear hcz10_1
    try clear hcz10_2
    try clear hcz10_3
    try clear hcz10_4
    try clear hcz10_5
    try clear hcz10_6
    try clear hcz10_7
    try clear hcz7_0
    try clear hcz7_1
    try clear hcz7_2
    try clear hcz7_3
    try clear hcz7_4
    try clear hcz7_5
    try clear hcz7_6
    try clear hcz7_7
    try clear hfz10_0
    try clear hfz10_1
    try clear hfz10_2
    try clear hfz10_3
    try clear hfz10_4
    try clear hfz10_5
    try clear hfz10_6
    try clear hfz10_7
    try clear hfz7_0
    try clear hfz7_1
    try clear hfz7_2
    try clear hfz7_3
    try clear hfz7_4
    try clear hfz7_5
    try clear hfz7_6
    try clear hfz7_7
    obtain ⟨x7_1, rfl, HA, HK1, BK472, HB⟩ := hrel
    cases gk with
    | zero => exact absurd HA.out (by simp [r22_Apply.l0])
    | succ k1 =>
     have H := HA.out
     clear HA
     simp only [r22_Apply.l0] at H
     by_cases c12 : x7_1 < (l1.length : Int)
     ·rw [if_pos c12] at H
      have c12b0 : decide (x7_1 < (l1.length : Int)) = true := decide_eq_true c12
      clear c12
      by_cases c13 : 0 ≤ x7_1
      ·rw [if_pos c13] at H
       have c13b0 : decide (0 ≤ x7_1) = true := decide_eq_true c13
       clear c13
       replace H := Option.bind_eq_some_iff.mp H
       obtain ⟨t475, A140, H⟩ := H
       replace H : (if t475 = 0 then (r22_Apply.l0 k1 l1 (wrap64 (x7_1 + 1)) a0_0 a0_1 a0_2 a0_3 a0_4 a0_5 a0_6 l0_7) else (some (([] : List Int), t475))) = some (r1, r2) := H
       have A14 := Sd.mk A140
       clear A140
       by_cases c15 : t475 = 0
       ·rw [if_pos c15] at H
        have c15b0 : (t475 == 0) = true := beq_iff_eq.mpr c15
        have c15b1 : (t475 != 0) = false := bne_eq_false_iff_eq.mpr c15
        clear c15
        have H' := Sd.mk H
        clear H
        have p474 : 0 ≤ (x7_1 : Int) := odt (by (with_reducible assumption))
        have q474 : x7_1 < (l1.length : Int) := odt (by (with_reducible assumption))
        obtain ⟨ad474, A474_2, c474_2, A474_3, c474_3, e474, hx474_0, hx474_1, hx474_2, hx474_3, hx474_4, hx474_5, hl474_2, hi474_2, hl474_3, hi474_3⟩ := at_T28 HR1.out x7_1 p474 q474
        cases e474
        replace hx474_0 := cb HB.out hx474_0
        replace hx474_1 := cb HB.out hx474_1
        replace hx474_2 := cb HB.out hx474_2
        replace hx474_3 := cb HB.out hx474_3
        replace hx474_4 := cb HB.out hx474_4
        replace hx474_5 := cb HB.out hx474_5
        have HR474_2 := Sd.mk hi474_2
        have HC474_2 := Sd.mk hl474_2
        clear hi474_2 hl474_2
        have HR474_3 := Sd.mk hi474_3
        have HC474_3 := Sd.mk hl474_3
        clear hi474_3 hl474_3
        replace p474 := eq_true p474
        replace q474 := eq_true q474
        go_wp2_with (((with_reducible refine gate_callee (f := 27) rfl ?_); refine goesL_ (some 29) rfl rfl Tryz.func27 (by kernel_rfl) rfl #[.agg #[.int .i64 ((rd_T28 l1 x7_1).f0), .string ((rd_T28 l1 x7_1).f1), .slice A474_2 ((rd_T28 l1 x7_1).f2).length c474_2, .slice A474_3 ((rd_T28 l1 x7_1).f3).length c474_3, .string ((rd_T28 l1 x7_1).f4), .string ((rd_T28 l1 x7_1).f5)]] rfl (by (try simp only [List.map_toArray, List.map_cons, List.map_nil]); (rfl)) ?_; (with_reducible refine (r20_Check.calls k1 ((rd_T28 l1 x7_1).f0) ((rd_T28 l1 x7_1).f1) _ _ ((rd_T28 l1 x7_1).f2) _ _ ((rd_T28 l1 x7_1).f3) ((rd_T28 l1 x7_1).f4) ((rd_T28 l1 x7_1).f5) t475 _ ?side1 ?side2 ?side3 ?side4 A14.out).mono ?_); (case side1 => repeat ((exact (Kd.C_below HR474_2.out HB.out)))); (case side2 => exact HC474_2.out); (case side3 => repeat ((exact (Kd.C_below HR474_3.out HB.out)))); (case side4 => exact HC474_3.out); rintro e w16 ⟨rfl, hb⟩; refine ⟨_, rfl, ?_⟩; have n0_ := Sd.mk (blk_below (g := gb472) (o := .cells #[.int .i64 a0_0, .int .i64 a0_1, .int .i64 a0_2, .int .i64 a0_3, .int .i64 a0_4, .int .i64 a0_5, .int .i64 a0_6, .slice A0_7 l0_7.length c0_7] 34 (0, 0)) (by (with_reducible repeat (fail)); exact BK472.out) hb); have n1_ := Sd.mk (below_step (by repeat ((with_reducible (exact HB.out)))) hb); clear BK472; clear HB; have BK472 := n0_; have HB := n1_; clear n0_ n1_; (try clear hb); (try clear hb2); (try clear hk); (try clear hi)))
        go_roundg k1
        case measure => have := HK1.out; omega
        case rel => exact ⟨(wrap64 (x7_1 + 1)), (by (rfl)), H', ⟨by have := HK1.out; omega⟩, ⟨by (with_reducible repeat (fail)); exact BK472.out⟩, ⟨by repeat ((with_reducible (exact HB.out)))⟩⟩
       ·rw [if_neg c15] at H
        have c15b0 : (t475 == 0) = false := beq_eq_false_iff_ne.mpr c15
        have c15b1 : (t475 != 0) = true := bne_iff_ne.mpr c15
        simp only [Option.some.injEq, Prod.mk.injEq] at H
        obtain ⟨rfl, rfl⟩ := H
        have p474 : 0 ≤ (x7_1 : Int) := odt (by (with_reducible assumption))
        have q474 : x7_1 < (l1.length : Int) := odt (by (with_reducible assumption))
        obtain ⟨ad474, A474_2, c474_2, A474_3, c474_3, e474, hx474_0, hx474_1, hx474_2, hx474_3, hx474_4, hx474_5, hl474_2, hi474_2, hl474_3, hi474_3⟩ := at_T28 HR1.out x7_1 p474 q474
        cases e474
        replace hx474_0 := cb HB.out hx474_0
        replace hx474_1 := cb HB.out hx474_1
        replace hx474_2 := cb HB.out hx474_2
        replace hx474_3 := cb HB.out hx474_3
        replace hx474_4 := cb HB.out hx474_4
        replace hx474_5 := cb HB.out hx474_5
        have HR474_2 := Sd.mk hi474_2
        have HC474_2 := Sd.mk hl474_2
        clear hi474_2 hl474_2
        have HR474_3 := Sd.mk hi474_3
        have HC474_3 := Sd.mk hl474_3
        clear hi474_3 hl474_3
        replace p474 := eq_true p474
        replace q474 := eq_true q474
        go_wp2_with (((with_reducible refine gate_callee (f := 27) rfl ?_); refine goesL_ (some 29) rfl rfl Tryz.func27 (by kernel_rfl) rfl #[.agg #[.int .i64 ((rd_T28 l1 x7_1).f0), .string ((rd_T28 l1 x7_1).f1), .slice A474_2 ((rd_T28 l1 x7_1).f2).length c474_2, .slice A474_3 ((rd_T28 l1 x7_1).f3).length c474_3, .string ((rd_T28 l1 x7_1).f4), .string ((rd_T28 l1 x7_1).f5)]] rfl (by (try simp only [List.map_toArray, List.map_cons, List.map_nil]); (rfl)) ?_; (with_reducible refine (r20_Check.calls k1 ((rd_T28 l1 x7_1).f0) ((rd_T28 l1 x7_1).f1) _ _ ((rd_T28 l1 x7_1).f2) _ _ ((rd_T28 l1 x7_1).f3) ((rd_T28 l1 x7_1).f4) ((rd_T28 l1 x7_1).f5) t475 _ ?side1 ?side2 ?side3 ?side4 A14.out).mono ?_); (case side1 => repeat ((exact (Kd.C_below HR474_2.out HB.out)))); (case side2 => exact HC474_2.out); (case side3 => repeat ((exact (Kd.C_below HR474_3.out HB.out)))); (case side4 => exact HC474_3.out); rintro e w17 ⟨rfl, hb⟩; refine ⟨_, rfl, ?_⟩; have n0_ := Sd.mk (blk_below (g := gb472) (o := .cells #[.int .i64 a0_0, .int .i64 a0_1, .int .i64 a0_2, .int .i64 a0_3, .int .i64 a0_4, .int .i64 a0_5, .int .i64 a0_6, .slice A0_7 l0_7.length c0_7] 34 (0, 0)) (by (with_reducible repeat (fail)); exact BK472.out) hb); have n1_ := Sd.mk (below_step (by repeat ((with_reducible (exact HB.out)))) hb); clear BK472; clear HB; have BK472 := n0_; have HB := n1_; clear n0_ n1_; (try clear hb); (try clear hb2); (try clear hk); (try clear hi)))
        go_ret2
        exact ⟨_, by (rfl), by (exact Kd.R_nil _ _ _ _ _), by repeat ((with_reducible (exact HB.out)))⟩
      ·rw [if_neg c13] at H
       exact absurd H (by simp)
     ·rw [if_neg c12] at H
      have c12b0 : decide (x7_1 < (l1.length : Int)) = false := decide_eq_false c12
      clear c12
      have H' := Sd.mk H
      clear H
      go_wp2
      go_loopg [9, 10] k1 (fun kq v9 v10 w' => ∃ (x9_2 : List Int) (x10_2 : Int), v10 = .int .i64 x10_2 ∧ Sd (r22_Apply.l1 kq l1 x9_2 x10_2 a0_0 a0_1 a0_2 a0_3 a0_4 a0_5 a0_6 l0_7 = some (r1, r2)) ∧ Sd (kq ≤ k1) ∧ Sd (Kd.R (Kd.int .i64) 3 w' w.heap.size (fun _ => True) v9 x9_2) ∧ Sd (w'.heap[gb472]? = some (.cells #[.int .i64 a0_0, .int .i64 a0_1, .int .i64 a0_2, .int .i64 a0_3, .int .i64 a0_4, .int .i64 a0_5, .int .i64 a0_6, (.slice A0_7 l0_7.length c0_7)] 34 (0, 0))) ∧ Sd (Below w.heap.size w w'))
      case atStart => exact ⟨(([] : List Int)), (0), (by (rfl)), H', ⟨Nat.le_refl _⟩, ⟨by (exact Kd.R_nil _ _ _ _ _)⟩, ⟨by (with_reducible repeat (fail)); exact BK472.out⟩, ⟨by repeat ((with_reducible (exact HB.out)))⟩⟩
      case round =>
       clear H'
       try clear c1
       try clear c2
       try clear p2
       try clear c4
       try clear c4b0
       try clear c4b1
       try clear p4
       try clear q4
       try clear hx4
       try clear c5
       try clear c5b0
       try clear c5b1
       try clear p6
       try clear c12
       try clear c12b0
       try clear c13
       try clear c13b0
       try clear c15
       try clear c15b0
       try clear c15b1
       try clear hcz10_0
       try clear hcz10_1
       try clear hcz10_2
       try clear hcz10_3
       try clear hcz10_4
       try clear hcz10_5
       try clear hcz10_6
       try clear hcz10_7
       try clear hcz7_0
       try clear hcz7_1
       try clear hcz7_2
       try clear hcz7_3
       try clear hcz7_4
       try clear hcz7_5
       try clear hcz7_6
       try clear hcz7_7
       try clear hfz10_0
       try clear hfz10_1
       try clear hfz10_2
       try clear hfz10_3
       try clear hfz10_4
       try clear hfz10_5
       try clear hfz10_6
       try clear hfz10_7
       try clear hfz7_0
       try clear hfz7_1
       try clear hfz7_2
       try clear hfz7_3
       try clear hfz7_4
       try clear hfz7_5
       try clear hfz7_6
       try clear hfz7_7
       try clear hx474_0
       try clear hx474_1
       try clear hx474_2
       try clear hx474_3
       try clear hx474_4
       try clear hx474_5
       try clear p2
       try clear p474
       try clear q474
       obtain ⟨x9_2, x10_2, rfl, HA, HK2, HO_9, BK472, HB⟩ := hrel
       cases gk with
       | zero => exact absurd HA.out (by simp [r22_Apply.l1])
       | succ k2 =>
        have H := HA.out
        clear HA
        simp only [r22_Apply.l1] at H
        by_cases c18 : x10_2 < (l1.length : Int)
        ·rw [if_pos c18] at H
         have c18b0 : decide (x10_2 < (l1.length : Int)) = true := decide_eq_true c18
         clear c18
         replace H := Option.bind_eq_some_iff.mp H
         obtain ⟨t476, A190, H⟩ := H
         replace H : (if x9_2.length < 17592186044416 then (r22_Apply.l1 k2 l1 (x9_2 ++ [t476]) (wrap64 (x10_2 + 1)) a0_0 a0_1 a0_2 a0_3 a0_4 a0_5 a0_6 l0_7) else (none)) = some (r1, r2) := H
         have A19 := Sd.mk A190
         clear A190
         by_cases c20 : x9_2.length < 17592186044416
         ·rw [if_pos c20] at H
          have LMc20 := Sd.mk c20
          clear c20
          obtain ⟨y477, hy477⟩ : ∃ y_ : List Int, y_ = (x9_2 ++ [t476]) := ⟨_, rfl⟩
          replace H : (r22_Apply.l1 k2 l1 y477 (wrap64 (x10_2 + 1)) a0_0 a0_1 a0_2 a0_3 a0_4 a0_5 a0_6 l0_7) = some (r1, r2) := by (rw [hy477]; with_reducible exact H)
          have Ny477 := Sd.mk hy477
          clear hy477
          have H' := Sd.mk H
          clear H
          obtain ⟨hcz21_0, hcz21_1, hcz21_2, hcz21_3, hcz21_4, hcz21_5, hcz21_6, hcz21_7⟩ := bc8 BK472.out
          obtain ⟨hfz21_0, hfz21_1, hfz21_2, hfz21_3, hfz21_4, hfz21_5, hfz21_6, hfz21_7⟩ := bf8 BK472.out
          go_wp2_with (first | ((with_reducible refine gate_callee (f := 28) rfl ?_); refine goesL_ (some 43) rfl rfl Tryz.func28 (by kernel_rfl) rfl #[.agg #[.int .i64 a0_0, .int .i64 a0_1, .int .i64 a0_2, .int .i64 a0_3, .int .i64 a0_4, .int .i64 a0_5, .int .i64 a0_6, .slice A0_7 l0_7.length c0_7], .slice A1 l1.length c1, .int .i64 x10_2] rfl (by (try simp only [List.map_toArray, List.map_cons, List.map_nil]); (rfl)) ?_; (with_reducible refine (r22_why.calls k2 a0_0 a0_1 a0_2 a0_3 a0_4 a0_5 a0_6 _ _ l0_7 _ _ l1 x10_2 t476 _ ?side1 ?side2 ?side3 ?side4 A19.out).mono ?_); (case side1 => repeat ((exact (Kd.C_below HR0_7.out HB.out)))); (case side2 => exact HC0_7.out); (case side3 => repeat ((exact (Kd.C_below HR1.out HB.out)))); (case side4 => exact HC1.out); rintro e w22 ⟨rfl, hb⟩; refine ⟨_, rfl, ?_⟩; have n0_ := Sd.mk (Kd.R_below (by (with_reducible repeat (fail)); exact HO_9.out) hb); have n1_ := Sd.mk (blk_below (g := gb472) (o := .cells #[.int .i64 a0_0, .int .i64 a0_1, .int .i64 a0_2, .int .i64 a0_3, .int .i64 a0_4, .int .i64 a0_5, .int .i64 a0_6, .slice A0_7 l0_7.length c0_7] 34 (0, 0)) (by (with_reducible repeat (fail)); exact BK472.out) hb); have n2_ := Sd.mk (below_step (by repeat ((with_reducible (exact HB.out)))) hb); clear HO_9; clear BK472; clear HB; have HO_9 := n0_; have BK472 := n1_; have HB := n2_; clear n0_ n1_ n2_; (try clear hb); (try clear hb2); (try clear hk); (try clear hi)) | ((with_reducible refine gate_builtin (b := .append) (xs := #[.tmp 39, .tmp 44]) rfl ?_); at_builtin; refine Kd.R_append (Kd.int .i64) (w0 := w) w.heap.size rfl (.tmp 39) (.tmp 44) 39 3 (.int .i64 0) 8 rfl Tryz.underlying39 info3 rfl (by decide) (by omega) u9 x9_2 t476 [.int .i64 t476] (fun _ => True) (fun _ => False) rfl rfl ?aP (fun _ hk => hk.elim) ?aF ?aO ?aB ?aS ?aL ?_; (case aP => exact rfl); (case aB => exact (by repeat ((with_reducible (exact HB.out))))); (case aF => exact (fun _ _ => trivial)); (case aO => exact (by (with_reducible repeat (fail)); exact HO_9.out)); (case aS => exact (below_size (by repeat ((with_reducible (exact HB.out)))))); (case aL => have := LMc20.out; omega); intro v478 w23 ho hb hg hat; rw [← Ny477.out] at ho; have n0_ := Sd.mk (blk_grown (g := gb472) (o := .cells #[.int .i64 a0_0, .int .i64 a0_1, .int .i64 a0_2, .int .i64 a0_3, .int .i64 a0_4, .int .i64 a0_5, .int .i64 a0_6, .slice A0_7 l0_7.length c0_7] 34 (0, 0)) (by (with_reducible repeat (fail)); exact BK472.out) hg (Kd.R_ne HO_9.out BK472.out (by decide))); have n1_ := Sd.mk (hb); have n2_ := Sd.mk (ho); clear BK472; clear HB; clear HO_9; have BK472 := n0_; have HB := n1_; have HO479 := n2_; clear n0_ n1_ n2_; clear ho hb hg hat))
          go_roundg k2
          case measure => have := HK1.out; have := HK2.out; omega
          case rel => exact ⟨(y477), (wrap64 (x10_2 + 1)), (by (rfl)), H', ⟨by have := HK1.out; have := HK2.out; omega⟩, ⟨by (with_reducible repeat (fail)); exact HO479.out⟩, ⟨by (with_reducible repeat (fail)); exact BK472.out⟩, ⟨by repeat ((with_reducible (exact HB.out)))⟩⟩
         ·rw [if_neg c20] at H
          exact absurd H (by simp)
        ·rw [if_neg c18] at H
         have c18b0 : decide (x10_2 < (l1.length : Int)) = false := decide_eq_false c18
         clear c18
         simp only [Option.some.injEq, Prod.mk.injEq] at H
         obtain ⟨rfl, rfl⟩ := H
         go_wp2
         go_ret2
         exact ⟨_, by (rfl), by (with_reducible repeat (fail)); exact HO_9.out, by repeat ((with_reducible (exact HB.out)))⟩
 ·rw [if_neg c4] at H
  have c4b0 : (t473 == 0) = false := beq_eq_false_iff_ne.mpr c4
  have c4b1 : (t473 != 0) = true := bne_iff_ne.mpr c4
  simp only [Option.some.injEq, Prod.mk.injEq] at H
  obtain ⟨rfl, rfl⟩ := H
  go_enter Tryz.func18, Tryz.ntmps18
  go_wp2_with (first | ((with_reducible refine gate_dst (N := 2) rfl ?_); refine box_event ?hg (N := 2) ?hd (cs := #[.int .i64 a0_0, .int .i64 a0_1, .int .i64 a0_2, .int .i64 a0_3, .int .i64 a0_4, .int .i64 a0_5, .int .i64 a0_6, .slice A0_7 l0_7.length c0_7]) (t := 34) ?hr ?_; (case hd => rfl); (case hg => rfl); (case hr => (go_simp; done)); intro gb472 hg w24 hbox hb; have n0_ := Sd.mk (below_step (by repeat ((with_reducible (exact HB.out)))) hb); have n1_ := Sd.mk (hbox); have n2_ := Sd.mk ((by rw [hg]; exact (below_size (by repeat ((with_reducible (exact HB.out))))) : w.heap.size ≤ gb472)); have n3_ := Sd.mk ((by rw [hg]; exact (below_size (by repeat ((with_reducible (exact HB.out))))) : w.heap.size ≤ gb472)); clear HB; have HB := n0_; have BK472 := n1_; have GW472 := n2_; have GE472 := n3_; clear n0_ n1_ n2_ n3_; clear hb hbox hg; obtain ⟨hcz25_0, hcz25_1, hcz25_2, hcz25_3, hcz25_4, hcz25_5, hcz25_6, hcz25_7⟩ := bc8 BK472.out; obtain ⟨hfz25_0, hfz25_1, hfz25_2, hfz25_3, hfz25_4, hfz25_5, hfz25_6, hfz25_7⟩ := bf8 BK472.out) | ((with_reducible refine gate_callee (f := 26) rfl ?_); refine goesL_ (some 12) rfl rfl Tryz.func26 (by kernel_rfl) rfl #[.agg #[.int .i64 a0_0, .int .i64 a0_1, .int .i64 a0_2, .int .i64 a0_3, .int .i64 a0_4, .int .i64 a0_5, .int .i64 a0_6, .slice A0_7 l0_7.length c0_7]] rfl (by (try simp only [List.map_toArray, List.map_cons, List.map_nil]); (rfl)) ?_; (with_reducible refine (r22_Check.calls k a0_0 a0_1 a0_2 a0_3 a0_4 a0_5 a0_6 _ _ l0_7 t473 _ ?side1 ?side2 A3.out).mono ?_); (case side1 => repeat ((exact (Kd.C_below HR0_7.out HB.out)))); (case side2 => exact HC0_7.out); rintro e w26 ⟨rfl, hb⟩; refine ⟨_, rfl, ?_⟩; have n0_ := Sd.mk (blk_below (g := gb472) (o := .cells #[.int .i64 a0_0, .int .i64 a0_1, .int .i64 a0_2, .int .i64 a0_3, .int .i64 a0_4, .int .i64 a0_5, .int .i64 a0_6, .slice A0_7 l0_7.length c0_7] 34 (0, 0)) (by (with_reducible repeat (fail)); exact BK472.out) hb); have n1_ := Sd.mk (below_step (by repeat ((with_reducible (exact HB.out)))) hb); clear BK472; clear HB; have BK472 := n0_; have HB := n1_; clear n0_ n1_; (try clear hb); (try clear hb2); (try clear hk); (try clear hi)))
  go_ret2
  exact ⟨_, by (rfl), by (exact Kd.R_nil _ _ _ _ _), by repeat ((with_reducible (exact HB.out)))⟩
def r22_Forget.l0 : Nat → List Int → List Int → Int → Option (List Int × Int)
 | 0, _, _, _ => none
 | k + 1, x6, x8, x9 => if x9 < (x6.length : Int) then (if 0 ≤ x9 then (if (rd x6 x9) = 0 then (if x8.length < 17592186044416 then (r22_Forget.l0 k x6 (x8 ++ [x9]) (wrap64 (x9 + 1))) else (none)) else (r22_Forget.l0 k x6 x8 (wrap64 (x9 + 1)))) else (none)) else (some (x8, 0))
def r22_Forget.f (k : Nat) (a0_0 : Int) (a0_1 : Int) (a0_2 : Int) (a0_3 : Int) (a0_4 : Int) (a0_5 : Int) (a0_6 : Int) (l0_7 : List ByteArray) (l1 : List (S28)) : Option (List Int × Int) := (r22_Apply.f k a0_0 a0_1 a0_2 a0_3 a0_4 a0_5 a0_6 l0_7 l1).bind fun bt481 => (if bt481.2 = 0 then (r22_Forget.l0 k bt481.1 ([] : List Int) 0) else (some (([] : List Int), bt481.2)))
theorem r22_Forget.calls (k : Nat) (a0_0 : Int) (a0_1 : Int) (a0_2 : Int) (a0_3 : Int) (a0_4 : Int) (a0_5 : Int) (a0_6 : Int) (A0_7 : Option Addr) (c0_7 : Nat) (l0_7 : List ByteArray) (A1 : Option Addr) (c1 : Nat) (l1 : List (S28)) (r1 : List Int) (r2 : Int) (w : World) (hr0_7 : Kd.C Kd.string w A0_7 l0_7.length l0_7) (hc0_7 : l0_7.length ≤ c0_7) (hr1 : Kd.C k28 w A1 l1.length l1) (hc1 : l1.length ≤ c1) (h : r22_Forget.f k a0_0 a0_1 a0_2 a0_3 a0_4 a0_5 a0_6 l0_7 l1 = some (r1, r2)) :
  Calls Tryz.prog 13 #[.agg #[.int .i64 a0_0, .int .i64 a0_1, .int .i64 a0_2, .int .i64 a0_3, .int .i64 a0_4, .int .i64 a0_5, .int .i64 a0_6, .slice A0_7 l0_7.length c0_7], .slice A1 l1.length c1] w fun e w' => ∃ v0_ : Value, e = .returned (.tuple #[v0_, .int .i64 r2]) ∧ Kd.R (Kd.int .i64) 3 w' w.heap.size (fun _ => True) v0_ r1 ∧ Below w.heap.size w w' := by
 have hu34 := Tryz.underlying34
 have HR0_7 := Sd.mk hr0_7
 have HC0_7 := Sd.mk hc0_7
 clear hr0_7 hc0_7
 have HR1 := Sd.mk hr1
 have HC1 := Sd.mk hc1
 clear hr1 hc1
 have HB := Sd.mk (Below.refl w.heap.size w)
 have H : ((r22_Apply.f k a0_0 a0_1 a0_2 a0_3 a0_4 a0_5 a0_6 l0_7 l1).bind fun bt481 => (if bt481.2 = 0 then (r22_Forget.l0 k bt481.1 ([] : List Int) 0) else (some (([] : List Int), bt481.2)))) = some (r1, r2) := h
 clear h
 replace H := Option.bind_eq_some_iff.mp H
 obtain ⟨⟨t481, t484⟩, A30, H⟩ := H
 replace H : (if t484 = 0 then (r22_Forget.l0 k t481 ([] : List Int) 0) else (some (([] : List Int), t484))) = some (r1, r2) := H
 have A3 := Sd.mk A30
 clear A30
 by_cases c4 : t484 = 0
 ·rw [if_pos c4] at H
  have c4b0 : (t484 == 0) = true := beq_iff_eq.mpr c4
  have c4b1 : (t484 != 0) = false := bne_eq_false_iff_eq.mpr c4
  clear c4
  have H' := Sd.mk H
  clear H
  go_enter Tryz.func13, Tryz.ntmps13
  go_wp2_with (first | ((with_reducible refine gate_dst (N := 2) rfl ?_); refine box_event ?hg (N := 2) ?hd (cs := #[.int .i64 a0_0, .int .i64 a0_1, .int .i64 a0_2, .int .i64 a0_3, .int .i64 a0_4, .int .i64 a0_5, .int .i64 a0_6, .slice A0_7 l0_7.length c0_7]) (t := 34) ?hr ?_; (case hd => rfl); (case hg => rfl); (case hr => (go_simp; done)); intro gb480 hg w5 hbox hb; have n0_ := Sd.mk (below_step (by repeat ((with_reducible (exact HB.out)))) hb); have n1_ := Sd.mk (hbox); have n2_ := Sd.mk ((by rw [hg]; exact (below_size (by repeat ((with_reducible (exact HB.out))))) : w.heap.size ≤ gb480)); have n3_ := Sd.mk ((by rw [hg]; exact (below_size (by repeat ((with_reducible (exact HB.out))))) : w.heap.size ≤ gb480)); clear HB; have HB := n0_; have BK480 := n1_; have GW480 := n2_; have GE480 := n3_; clear n0_ n1_ n2_ n3_; clear hb hbox hg; obtain ⟨hcz6_0, hcz6_1, hcz6_2, hcz6_3, hcz6_4, hcz6_5, hcz6_6, hcz6_7⟩ := bc8 BK480.out; obtain ⟨hfz6_0, hfz6_1, hfz6_2, hfz6_3, hfz6_4, hfz6_5, hfz6_6, hfz6_7⟩ := bf8 BK480.out) | ((with_reducible refine gate_callee (f := 18) rfl ?_); refine goesL_ (some 13) rfl rfl Tryz.func18 (by kernel_rfl) rfl #[.agg #[.int .i64 a0_0, .int .i64 a0_1, .int .i64 a0_2, .int .i64 a0_3, .int .i64 a0_4, .int .i64 a0_5, .int .i64 a0_6, .slice A0_7 l0_7.length c0_7], .slice A1 l1.length c1] rfl (by (try simp only [List.map_toArray, List.map_cons, List.map_nil]); (rfl)) ?_; (with_reducible refine (r22_Apply.calls k a0_0 a0_1 a0_2 a0_3 a0_4 a0_5 a0_6 _ _ l0_7 _ _ l1 t481 t484 _ ?side1 ?side2 ?side3 ?side4 A3.out).mono ?_); (case side1 => repeat ((exact (Kd.C_below HR0_7.out HB.out)))); (case side2 => exact HC0_7.out); (case side3 => repeat ((exact (Kd.C_below HR1.out HB.out)))); (case side4 => exact HC1.out); rintro e w7 ⟨v482, rfl, ho0, hb⟩; refine ⟨_, rfl, ?_⟩; have n0_ := Sd.mk (Kd.R_lower ho0 (below_size (by repeat ((with_reducible (exact HB.out)))))); have n1_ := Sd.mk (blk_below (g := gb480) (o := .cells #[.int .i64 a0_0, .int .i64 a0_1, .int .i64 a0_2, .int .i64 a0_3, .int .i64 a0_4, .int .i64 a0_5, .int .i64 a0_6, .slice A0_7 l0_7.length c0_7] 34 (0, 0)) (by (with_reducible repeat (fail)); exact BK480.out) hb); have n2_ := Sd.mk (below_step (by repeat ((with_reducible (exact HB.out)))) hb); clear BK480; clear HB; have HO483 := n0_; have BK480 := n1_; have HB := n2_; clear n0_ n1_ n2_; (try clear hb); (try clear hb2); (try clear hk); (try clear hi); (try clear ho0)))
  go_loopg [8, 9] k (fun kq v8 v9 w' => ∃ (x8_1 : List Int) (x9_1 : Int), v9 = .int .i64 x9_1 ∧ Sd (r22_Forget.l0 kq t481 x8_1 x9_1 = some (r1, r2)) ∧ Sd (kq ≤ k) ∧ Sd (Kd.R (Kd.int .i64) 3 w' w.heap.size (fun k_ => some k_ ≠ (v8 : Value).ownBlock) v482 t481) ∧ Sd (Kd.R (Kd.int .i64) 3 w' w.heap.size (fun k_ => some k_ ≠ (v482 : Value).ownBlock) v8 x8_1) ∧ Sd (w'.heap[gb480]? = some (.cells #[.int .i64 a0_0, .int .i64 a0_1, .int .i64 a0_2, .int .i64 a0_3, .int .i64 a0_4, .int .i64 a0_5, .int .i64 a0_6, (.slice A0_7 l0_7.length c0_7)] 34 (0, 0))) ∧ Sd (Below w.heap.size w w'))
  case atStart => exact ⟨(([] : List Int)), (0), (by (rfl)), H', ⟨Nat.le_refl _⟩, ⟨by (with_reducible repeat (fail)); exact Kd.R_mono HO483.out (fun _ hk => (by simp [Value.ownBlock]))⟩, ⟨by (exact Kd.R_nil _ _ _ _ _)⟩, ⟨by (with_reducible repeat (fail)); exact BK480.out⟩, ⟨by repeat ((with_reducible (exact HB.out)))⟩⟩
  case round =>
   clear H'
   try clear c1
   try clear p2
   try clear c4
   try clear c4b0
   try clear c4b1
   try clear hcz6_0
   try clear hcz6_1
   try clear hcz6_2
   try clear hcz6_3
   try clear hcz6_4
   try clear hcz6_5
   try clear hcz6_6
   try clear hcz6_7
   try clear hfz6_0
   try clear hfz6_1
   try clear hfz6_2
   try clear hfz6_3
   try clear hfz6_4
   try clear hfz6_5
   try clear hfz6_6
   try clear hfz6_7
   obtain ⟨x8_1, x9_1, rfl, HA, HK1, HO_6, HO_8, BK480, HB⟩ := hrel
   cases gk with
   | zero => exact absurd HA.out (by simp [r22_Forget.l0])
   | succ k1 =>
    have H := HA.out
    clear HA
    simp only [r22_Forget.l0] at H
    by_cases c8 : x9_1 < (t481.length : Int)
    ·rw [if_pos c8] at H
     have c8b0 : decide (x9_1 < (t481.length : Int)) = true := decide_eq_true c8
     clear c8
     by_cases c9 : 0 ≤ x9_1
     ·rw [if_pos c9] at H
      have c9b0 : decide (0 ≤ x9_1) = true := decide_eq_true c9
      clear c9
      by_cases c10 : (rd t481 x9_1) = 0
      ·rw [if_pos c10] at H
       have c10b0 : ((rd t481 x9_1) == 0) = true := beq_iff_eq.mpr c10
       have c10b1 : ((rd t481 x9_1) != 0) = false := bne_eq_false_iff_eq.mpr c10
       clear c10
       by_cases c11 : x8_1.length < 17592186044416
       ·rw [if_pos c11] at H
        have LMc11 := Sd.mk c11
        clear c11
        obtain ⟨y486, hy486⟩ : ∃ y_ : List Int, y_ = (x8_1 ++ [x9_1]) := ⟨_, rfl⟩
        replace H : (r22_Forget.l0 k1 t481 y486 (wrap64 (x9_1 + 1))) = some (r1, r2) := by (rw [hy486]; with_reducible exact H)
        have Ny486 := Sd.mk hy486
        clear hy486
        have H' := Sd.mk H
        clear H
        obtain ⟨Ao12, co12, eo12⟩ := Kd.R_slice HO_6.out
        subst eo12
        have p485 : 0 ≤ (x9_1 : Int) := odt (by (with_reducible assumption))
        have q485 : x9_1 < (t481.length : Int) := odt (by (with_reducible assumption))
        obtain ⟨ad485, e485, hx485_0⟩ := Kd.at_int (Kd.R_reads' HO_6.out).2.2 x9_1 p485 q485
        cases e485
        replace p485 := eq_true p485
        replace q485 := eq_true q485
        go_wp2_with (((with_reducible refine gate_builtin (b := .append) (xs := #[.tmp 30, .tmp 32]) rfl ?_); at_builtin; refine Kd.R_append (Kd.int .i64) (w0 := w) w.heap.size rfl (.tmp 30) (.tmp 32) 39 3 (.int .i64 0) 8 rfl Tryz.underlying39 info3 rfl (by decide) (by omega) u8 x8_1 x9_1 [.int .i64 x9_1] (fun k_ => some k_ ≠ (.slice (some ad485) t481.length co12 : Value).ownBlock) (fun _ => False) rfl rfl ?aP (fun _ hk => hk.elim) ?aF ?aO ?aB ?aS ?aL ?_; (case aP => exact rfl); (case aB => exact (by repeat ((with_reducible (exact HB.out))))); (case aF => exact (fun k_ hk => Kd.fresh' (Kd.R_lt (by (with_reducible repeat (fail)); exact HO_6.out)) k_ hk)); (case aO => exact (by (with_reducible repeat (fail)); exact HO_8.out)); (case aS => exact (below_size (by repeat ((with_reducible (exact HB.out)))))); (case aL => have := LMc11.out; omega); intro v487 w13 ho hb hg hat; rw [← Ny486.out] at ho; have n0_ := Sd.mk (Kd.R_after (ok := (fun _ => True)) (by (with_reducible repeat (fail)); exact Kd.R_mono HO_6.out (fun _ hk => ⟨trivial, hk⟩)) hg hat); have n1_ := Sd.mk (blk_grown (g := gb480) (o := .cells #[.int .i64 a0_0, .int .i64 a0_1, .int .i64 a0_2, .int .i64 a0_3, .int .i64 a0_4, .int .i64 a0_5, .int .i64 a0_6, .slice A0_7 l0_7.length c0_7] 34 (0, 0)) (by (with_reducible repeat (fail)); exact BK480.out) hg (Kd.R_ne HO_8.out BK480.out (by decide))); have n2_ := Sd.mk (hb); have n3_ := Sd.mk (ho); clear HO_6; clear BK480; clear HB; clear HO_8; have HO_6 := n0_; have BK480 := n1_; have HB := n2_; have HO488 := n3_; clear n0_ n1_ n2_ n3_; clear ho hb hg hat))
        go_roundg k1
        case measure => have := HK1.out; omega
        case rel => exact ⟨(y486), (wrap64 (x9_1 + 1)), (by (rfl)), H', ⟨by have := HK1.out; omega⟩, ⟨by (with_reducible repeat (fail)); exact Kd.R_mono HO_6.out (fun _ hk => hk.2)⟩, ⟨by (with_reducible repeat (fail)); exact HO488.out⟩, ⟨by (with_reducible repeat (fail)); exact BK480.out⟩, ⟨by repeat ((with_reducible (exact HB.out)))⟩⟩
       ·rw [if_neg c11] at H
        exact absurd H (by simp)
      ·rw [if_neg c10] at H
       have c10b0 : ((rd t481 x9_1) == 0) = false := beq_eq_false_iff_ne.mpr c10
       have c10b1 : ((rd t481 x9_1) != 0) = true := bne_iff_ne.mpr c10
       have H' := Sd.mk H
       clear H
       obtain ⟨Ao14, co14, eo14⟩ := Kd.R_slice HO_6.out
       subst eo14
       have p485 : 0 ≤ (x9_1 : Int) := odt (by (with_reducible assumption))
       have q485 : x9_1 < (t481.length : Int) := odt (by (with_reducible assumption))
       obtain ⟨ad485, e485, hx485_0⟩ := Kd.at_int (Kd.R_reads' HO_6.out).2.2 x9_1 p485 q485
       cases e485
       replace p485 := eq_true p485
       replace q485 := eq_true q485
       go_wp2
       go_roundg k1
       case measure => have := HK1.out; omega
       case rel => exact ⟨(x8_1), (wrap64 (x9_1 + 1)), (by (rfl)), H', ⟨by have := HK1.out; omega⟩, ⟨by (with_reducible repeat (fail)); exact HO_6.out⟩, ⟨by (with_reducible repeat (fail)); exact HO_8.out⟩, ⟨by (with_reducible repeat (fail)); exact BK480.out⟩, ⟨by repeat ((with_reducible (exact HB.out)))⟩⟩
     ·rw [if_neg c9] at H
      exact absurd H (by simp)
    ·rw [if_neg c8] at H
     have c8b0 : decide (x9_1 < (t481.length : Int)) = false := decide_eq_false c8
     clear c8
     simp only [Option.some.injEq, Prod.mk.injEq] at H
     obtain ⟨rfl, rfl⟩ := H
     obtain ⟨Ao15, co15, eo15⟩ := Kd.R_slice HO_6.out
     subst eo15
     go_wp2
     go_ret2
     exact ⟨_, by (rfl), by (with_reducible repeat (fail)); exact Kd.R_mono HO_8.out (fun _ hk => trivial), by repeat ((with_reducible (exact HB.out)))⟩
 ·rw [if_neg c4] at H
  have c4b0 : (t484 == 0) = false := beq_eq_false_iff_ne.mpr c4
  have c4b1 : (t484 != 0) = true := bne_iff_ne.mpr c4
  simp only [Option.some.injEq, Prod.mk.injEq] at H
  obtain ⟨rfl, rfl⟩ := H
  go_enter Tryz.func13, Tryz.ntmps13
  go_wp2_with (first | ((with_reducible refine gate_dst (N := 2) rfl ?_); refine box_event ?hg (N := 2) ?hd (cs := #[.int .i64 a0_0, .int .i64 a0_1, .int .i64 a0_2, .int .i64 a0_3, .int .i64 a0_4, .int .i64 a0_5, .int .i64 a0_6, .slice A0_7 l0_7.length c0_7]) (t := 34) ?hr ?_; (case hd => rfl); (case hg => rfl); (case hr => (go_simp; done)); intro gb480 hg w16 hbox hb; have n0_ := Sd.mk (below_step (by repeat ((with_reducible (exact HB.out)))) hb); have n1_ := Sd.mk (hbox); have n2_ := Sd.mk ((by rw [hg]; exact (below_size (by repeat ((with_reducible (exact HB.out))))) : w.heap.size ≤ gb480)); have n3_ := Sd.mk ((by rw [hg]; exact (below_size (by repeat ((with_reducible (exact HB.out))))) : w.heap.size ≤ gb480)); clear HB; have HB := n0_; have BK480 := n1_; have GW480 := n2_; have GE480 := n3_; clear n0_ n1_ n2_ n3_; clear hb hbox hg; obtain ⟨hcz17_0, hcz17_1, hcz17_2, hcz17_3, hcz17_4, hcz17_5, hcz17_6, hcz17_7⟩ := bc8 BK480.out; obtain ⟨hfz17_0, hfz17_1, hfz17_2, hfz17_3, hfz17_4, hfz17_5, hfz17_6, hfz17_7⟩ := bf8 BK480.out) | ((with_reducible refine gate_callee (f := 18) rfl ?_); refine goesL_ (some 13) rfl rfl Tryz.func18 (by kernel_rfl) rfl #[.agg #[.int .i64 a0_0, .int .i64 a0_1, .int .i64 a0_2, .int .i64 a0_3, .int .i64 a0_4, .int .i64 a0_5, .int .i64 a0_6, .slice A0_7 l0_7.length c0_7], .slice A1 l1.length c1] rfl (by (try simp only [List.map_toArray, List.map_cons, List.map_nil]); (rfl)) ?_; (with_reducible refine (r22_Apply.calls k a0_0 a0_1 a0_2 a0_3 a0_4 a0_5 a0_6 _ _ l0_7 _ _ l1 t481 t484 _ ?side1 ?side2 ?side3 ?side4 A3.out).mono ?_); (case side1 => repeat ((exact (Kd.C_below HR0_7.out HB.out)))); (case side2 => exact HC0_7.out); (case side3 => repeat ((exact (Kd.C_below HR1.out HB.out)))); (case side4 => exact HC1.out); rintro e w18 ⟨v482, rfl, ho0, hb⟩; refine ⟨_, rfl, ?_⟩; have n0_ := Sd.mk (Kd.R_lower ho0 (below_size (by repeat ((with_reducible (exact HB.out)))))); have n1_ := Sd.mk (blk_below (g := gb480) (o := .cells #[.int .i64 a0_0, .int .i64 a0_1, .int .i64 a0_2, .int .i64 a0_3, .int .i64 a0_4, .int .i64 a0_5, .int .i64 a0_6, .slice A0_7 l0_7.length c0_7] 34 (0, 0)) (by (with_reducible repeat (fail)); exact BK480.out) hb); have n2_ := Sd.mk (below_step (by repeat ((with_reducible (exact HB.out)))) hb); clear BK480; clear HB; have HO483 := n0_; have BK480 := n1_; have HB := n2_; clear n0_ n1_ n2_; (try clear hb); (try clear hb2); (try clear hk); (try clear hi); (try clear ho0)))
  go_ret2
  exact ⟨_, by (rfl), by (exact Kd.R_nil _ _ _ _ _), by repeat ((with_reducible (exact HB.out)))⟩
mutual
def r28_Plan.l0 : Nat → List ByteArray → List Int → List ByteArray → Int → Option (List ByteArray × Int)
 | 0, _, _, _, _ => none
 | k + 1, x1, x8, x10, x11 => if x11 < (x8.length : Int) then (if 0 ≤ x11 then (if 0 ≤ (rd x8 x11) then (if (rd x8 x11) < (x1.length : Int) then (r28_Plan.l1 k x1 x8 x10 x11 (rdOf ByteArray.empty x1 (rd x8 x11)) 0) else (none)) else (none)) else (none)) else (some (x10, 0))
def r28_Plan.l1 : Nat → List ByteArray → List Int → List ByteArray → Int → ByteArray → Int → Option (List ByteArray × Int)
 | 0, _, _, _, _, _, _ => none
 | k + 1, x1, x8, x10, x11, x12, x13 => if x13 < (x10.length : Int) then (if 0 ≤ x13 then (if (Op.bytesLess ((rdOf ByteArray.empty x10 x13).toList) x12.toList) = true then (r28_Plan.l1 k x1 x8 x10 x11 x12 (wrap64 (x13 + 1))) else (if (rdOf ByteArray.empty x10 x13).toList = x12.toList then (r28_Plan.l0 k x1 x8 x10 (wrap64 (x11 + 1))) else (if x13 ≤ (x10.length : Int) then ((some (x10.take (x13 : Int).toNat : List ByteArray)).bind fun y498 => (if ([] : List ByteArray).length + y498.length < 8796093022208 then ((some (([] : List ByteArray) ++ y498 : List ByteArray)).bind fun y502 => (if y502.length < 8796093022208 then ((some (y502 ++ [x12] : List ByteArray)).bind fun y505 => ((some (x10.drop (x13 : Int).toNat : List ByteArray)).bind fun y508 => (if y505.length + y508.length < 8796093022208 then (r28_Plan.l0 k x1 x8 (y505 ++ y508) (wrap64 (x11 + 1))) else (none)))) else (none))) else (none))) else (none)))) else (none)) else (if 0 ≤ x13 then (if x13 ≤ (x10.length : Int) then ((some (x10.take (x13 : Int).toNat : List ByteArray)).bind fun y515 => (if ([] : List ByteArray).length + y515.length < 8796093022208 then ((some (([] : List ByteArray) ++ y515 : List ByteArray)).bind fun y519 => (if y519.length < 8796093022208 then ((some (y519 ++ [x12] : List ByteArray)).bind fun y522 => ((some (x10.drop (x13 : Int).toNat : List ByteArray)).bind fun y525 => (if y522.length + y525.length < 8796093022208 then (r28_Plan.l0 k x1 x8 (y522 ++ y525) (wrap64 (x11 + 1))) else (none)))) else (none))) else (none))) else (none)) else (none))
end
def r28_Plan.f (k : Nat) (a0_0 : Int) (a0_1 : Int) (a0_2 : Int) (a0_3 : Int) (a0_4 : Int) (a0_5 : Int) (a0_6 : Int) (l0_7 : List ByteArray) (l1 : List ByteArray) (l2 : List (S28)) : Option (List ByteArray × Int) := if (l1.length : Int) = (l2.length : Int) then ((r22_Forget.f k a0_0 a0_1 a0_2 a0_3 a0_4 a0_5 a0_6 l0_7 l2).bind fun bt490 => (if bt490.2 = 0 then (r28_Plan.l0 k l1 bt490.1 ([] : List ByteArray) 0) else (some (([] : List ByteArray), bt490.2)))) else (some (([] : List ByteArray), 1))
theorem r28_Plan.calls (k : Nat) (a0_0 : Int) (a0_1 : Int) (a0_2 : Int) (a0_3 : Int) (a0_4 : Int) (a0_5 : Int) (a0_6 : Int) (A0_7 : Option Addr) (c0_7 : Nat) (l0_7 : List ByteArray) (A1 : Option Addr) (c1 : Nat) (l1 : List ByteArray) (A2 : Option Addr) (c2 : Nat) (l2 : List (S28)) (r1 : List ByteArray) (r2 : Int) (w : World) (hr0_7 : Kd.C Kd.string w A0_7 l0_7.length l0_7) (hc0_7 : l0_7.length ≤ c0_7) (hr1 : Kd.C Kd.string w A1 l1.length l1) (hc1 : l1.length ≤ c1) (hr2 : Kd.C k28 w A2 l2.length l2) (hc2 : l2.length ≤ c2) (h : r28_Plan.f k a0_0 a0_1 a0_2 a0_3 a0_4 a0_5 a0_6 l0_7 l1 l2 = some (r1, r2)) :
  Calls Tryz.prog 7 #[.agg #[.int .i64 a0_0, .int .i64 a0_1, .int .i64 a0_2, .int .i64 a0_3, .int .i64 a0_4, .int .i64 a0_5, .int .i64 a0_6, .slice A0_7 l0_7.length c0_7], .slice A1 l1.length c1, .slice A2 l2.length c2] w fun e w' => ∃ v0_ : Value, e = .returned (.tuple #[v0_, .int .i64 r2]) ∧ Kd.R Kd.string 9 w' w.heap.size (fun _ => True) v0_ r1 ∧ Below w.heap.size w w' := by
 have hu34 := Tryz.underlying34
 have HR0_7 := Sd.mk hr0_7
 have HC0_7 := Sd.mk hc0_7
 clear hr0_7 hc0_7
 have HR1 := Sd.mk hr1
 have HC1 := Sd.mk hc1
 clear hr1 hc1
 have HR2 := Sd.mk hr2
 have HC2 := Sd.mk hc2
 clear hr2 hc2
 have HB := Sd.mk (Below.refl w.heap.size w)
 have H : (if (l1.length : Int) = (l2.length : Int) then ((r22_Forget.f k a0_0 a0_1 a0_2 a0_3 a0_4 a0_5 a0_6 l0_7 l2).bind fun bt490 => (if bt490.2 = 0 then (r28_Plan.l0 k l1 bt490.1 ([] : List ByteArray) 0) else (some (([] : List ByteArray), bt490.2)))) else (some (([] : List ByteArray), 1))) = some (r1, r2) := h
 clear h
 by_cases c4 : (l1.length : Int) = (l2.length : Int)
 ·rw [if_pos c4] at H
  have c4b0 : ((l1.length : Int) == (l2.length : Int)) = true := beq_iff_eq.mpr c4
  have c4b1 : ((l1.length : Int) != (l2.length : Int)) = false := bne_eq_false_iff_eq.mpr c4
  have c4b2 : (l1.length == l2.length) = true := by (simp at c4 ⊢; omega)
  clear c4
  replace H := Option.bind_eq_some_iff.mp H
  obtain ⟨⟨t490, t493⟩, A50, H⟩ := H
  replace H : (if t493 = 0 then (r28_Plan.l0 k l1 t490 ([] : List ByteArray) 0) else (some (([] : List ByteArray), t493))) = some (r1, r2) := H
  have A5 := Sd.mk A50
  clear A50
  by_cases c6 : t493 = 0
  ·rw [if_pos c6] at H
   have c6b0 : (t493 == 0) = true := beq_iff_eq.mpr c6
   have c6b1 : (t493 != 0) = false := bne_eq_false_iff_eq.mpr c6
   clear c6
   have H' := Sd.mk H
   clear H
   go_enter Tryz.func7, Tryz.ntmps7
   go_wp2_with (first | ((with_reducible refine gate_dst (N := 3) rfl ?_); refine box_event ?hg (N := 3) ?hd (cs := #[.int .i64 a0_0, .int .i64 a0_1, .int .i64 a0_2, .int .i64 a0_3, .int .i64 a0_4, .int .i64 a0_5, .int .i64 a0_6, .slice A0_7 l0_7.length c0_7]) (t := 34) ?hr ?_; (case hd => rfl); (case hg => rfl); (case hr => (go_simp; done)); intro gb489 hg w7 hbox hb; have n0_ := Sd.mk (below_step (by repeat ((with_reducible (exact HB.out)))) hb); have n1_ := Sd.mk (hbox); have n2_ := Sd.mk ((by rw [hg]; exact (below_size (by repeat ((with_reducible (exact HB.out))))) : w.heap.size ≤ gb489)); have n3_ := Sd.mk ((by rw [hg]; exact (below_size (by repeat ((with_reducible (exact HB.out))))) : w.heap.size ≤ gb489)); clear HB; have HB := n0_; have BK489 := n1_; have GW489 := n2_; have GE489 := n3_; clear n0_ n1_ n2_ n3_; clear hb hbox hg; obtain ⟨hcz8_0, hcz8_1, hcz8_2, hcz8_3, hcz8_4, hcz8_5, hcz8_6, hcz8_7⟩ := bc8 BK489.out; obtain ⟨hfz8_0, hfz8_1, hfz8_2, hfz8_3, hfz8_4, hfz8_5, hfz8_6, hfz8_7⟩ := bf8 BK489.out) | ((with_reducible refine gate_callee (f := 13) rfl ?_); refine goesL_ (some 23) rfl rfl Tryz.func13 (by kernel_rfl) rfl #[.agg #[.int .i64 a0_0, .int .i64 a0_1, .int .i64 a0_2, .int .i64 a0_3, .int .i64 a0_4, .int .i64 a0_5, .int .i64 a0_6, .slice A0_7 l0_7.length c0_7], .slice A2 l2.length c2] rfl (by (try simp only [List.map_toArray, List.map_cons, List.map_nil]); (rfl)) ?_; (with_reducible refine (r22_Forget.calls k a0_0 a0_1 a0_2 a0_3 a0_4 a0_5 a0_6 _ _ l0_7 _ _ l2 t490 t493 _ ?side1 ?side2 ?side3 ?side4 A5.out).mono ?_); (case side1 => repeat ((exact (Kd.C_below HR0_7.out HB.out)))); (case side2 => exact HC0_7.out); (case side3 => repeat ((exact (Kd.C_below HR2.out HB.out)))); (case side4 => exact HC2.out); rintro e w9 ⟨v491, rfl, ho0, hb⟩; refine ⟨_, rfl, ?_⟩; have n0_ := Sd.mk (Kd.R_lower ho0 (below_size (by repeat ((with_reducible (exact HB.out)))))); have n1_ := Sd.mk (blk_below (g := gb489) (o := .cells #[.int .i64 a0_0, .int .i64 a0_1, .int .i64 a0_2, .int .i64 a0_3, .int .i64 a0_4, .int .i64 a0_5, .int .i64 a0_6, .slice A0_7 l0_7.length c0_7] 34 (0, 0)) (by (with_reducible repeat (fail)); exact BK489.out) hb); have n2_ := Sd.mk (below_step (by repeat ((with_reducible (exact HB.out)))) hb); clear BK489; clear HB; have HO492 := n0_; have BK489 := n1_; have HB := n2_; clear n0_ n1_ n2_; (try clear hb); (try clear hb2); (try clear hk); (try clear hi); (try clear ho0)))
   go_loopg [10, 11] k (fun kq v10 v11 w' => ∃ (x10_1 : List ByteArray) (x11_1 : Int), v11 = .int .i64 x11_1 ∧ Sd (r28_Plan.l0 kq l1 t490 x10_1 x11_1 = some (r1, r2)) ∧ Sd (kq ≤ k) ∧ Sd (Kd.R (Kd.int .i64) 3 w' w.heap.size (fun _ => True) v491 t490) ∧ Sd (Kd.R Kd.string 9 w' w.heap.size (fun _ => True) v10 x10_1) ∧ Sd (w'.heap[gb489]? = some (.cells #[.int .i64 a0_0, .int .i64 a0_1, .int .i64 a0_2, .int .i64 a0_3, .int .i64 a0_4, .int .i64 a0_5, .int .i64 a0_6, (.slice A0_7 l0_7.length c0_7)] 34 (0, 0))) ∧ Sd (Below w.heap.size w w'))
   case atStart => exact ⟨(([] : List ByteArray)), (0), (by (rfl)), H', ⟨Nat.le_refl _⟩, ⟨by (with_reducible repeat (fail)); exact HO492.out⟩, ⟨by (exact Kd.R_nil _ _ _ _ _)⟩, ⟨by (with_reducible repeat (fail)); exact BK489.out⟩, ⟨by repeat ((with_reducible (exact HB.out)))⟩⟩
   case round =>
    clear H'
    try clear c1
    try clear c2
    try clear p2
    try clear c4
    try clear c4b0
    try clear c4b1
    try clear c4b2
    try clear c6
    try clear c6b0
    try clear c6b1
    try clear c7
    try clear hcz8_0
    try clear hcz8_1
    try clear hcz8_2
    try clear hcz8_3
    try clear hcz8_4
    try clear hcz8_5
    try clear hcz8_6
    try clear hcz8_7
    try clear hfz8_0
    try clear hfz8_1
    try clear hfz8_2
    try clear hfz8_3
    try clear hfz8_4
    try clear hfz8_5
    try clear hfz8_6
    try clear hfz8_7
    obtain ⟨x10_1, x11_1, rfl, HA, HK1, HO_8, HO_10, BK489, HB⟩ := hrel
    cases gk with
    | zero => exact absurd HA.out (by simp [r28_Plan.l0])
    | succ k1 =>
     have H := HA.out
     clear HA
     simp only [r28_Plan.l0] at H
     by_cases c10 : x11_1 < (t490.length : Int)
     ·rw [if_pos c10] at H
      have c10b0 : decide (x11_1 < (t490.length : Int)) = true := decide_eq_true c10
      clear c10
      by_cases c11 : 0 ≤ x11_1
      ·rw [if_pos c11] at H
       have c11b0 : decide (0 ≤ x11_1) = true := decide_eq_true c11
       clear c11
       by_cases c12 : 0 ≤ (rd t490 x11_1)
       ·rw [if_pos c12] at H
        have c12b0 : decide (0 ≤ (rd t490 x11_1)) = true := decide_eq_true c12
        clear c12
        by_cases c13 : (rd t490 x11_1) < (l1.length : Int)
        ·rw [if_pos c13] at H
         have c13b0 : decide ((rd t490 x11_1) < (l1.length : Int)) = true := decide_eq_true c13
         clear c13
         have H' := Sd.mk H
         clear H
         obtain ⟨Ao14, co14, eo14⟩ := Kd.R_slice HO_8.out
         subst eo14
         have p494 : 0 ≤ (x11_1 : Int) := odt (by (with_reducible assumption))
         have q494 : x11_1 < (t490.length : Int) := odt (by (with_reducible assumption))
         obtain ⟨ad494, e494, hx494_0⟩ := Kd.at_int (Kd.R_reads' HO_8.out).2.2 x11_1 p494 q494
         cases e494
         replace p494 := eq_true p494
         replace q494 := eq_true q494
         have p495 : 0 ≤ ((rd t490 x11_1) : Int) := odt (by (with_reducible assumption))
         have q495 : (rd t490 x11_1) < (l1.length : Int) := odt (by (with_reducible assumption))
         obtain ⟨ad495, e495, hx495_0⟩ := Kd.at_string HR1.out (rd t490 x11_1) p495 q495
         cases e495
         replace hx495_0 := cb HB.out hx495_0
         replace p495 := eq_true p495
         replace q495 := eq_true q495
         go_wp2
         go_loopg [13] k1 (fun kq v13 w' => ∃ (x13_2 : Int), v13 = .int .i64 x13_2 ∧ Sd (r28_Plan.l1 kq l1 t490 x10_1 x11_1 (rdOf ByteArray.empty l1 (rd t490 x11_1)) x13_2 = some (r1, r2)) ∧ Sd (kq ≤ k1) ∧ Sd (Kd.R (Kd.int .i64) 3 w' w.heap.size (fun _ => True) (.slice (some ad494) t490.length co14) t490) ∧ Sd (Kd.R Kd.string 9 w' w.heap.size (fun _ => True) u10 x10_1) ∧ Sd (w'.heap[gb489]? = some (.cells #[.int .i64 a0_0, .int .i64 a0_1, .int .i64 a0_2, .int .i64 a0_3, .int .i64 a0_4, .int .i64 a0_5, .int .i64 a0_6, (.slice A0_7 l0_7.length c0_7)] 34 (0, 0))) ∧ Sd (Below w.heap.size w w'))
         case atStart => exact ⟨(0), (by (rfl)), H', ⟨Nat.le_refl _⟩, ⟨by (with_reducible repeat (fail)); exact HO_8.out⟩, ⟨by (with_reducible repeat (fail)); exact HO_10.out⟩, ⟨by (with_reducible repeat (fail)); exact BK489.out⟩, ⟨by repeat ((with_reducible (exact HB.out)))⟩⟩
         case round =>
          clear H'
          try clear c1
          try clear c2
          try clear p2
          try clear c4
          try clear c4b0
          try clear c4b1
          try clear c4b2
          try clear p4
          try clear q4
          try clear hx4
          try clear c6
          try clear c6b0
          try clear c6b1
          try clear c7
          try clear c10
          try clear c10b0
          try clear c11
          try clear c11b0
          try clear c12
          try clear c12b0
          try clear c13
          try clear c13b0
          try clear hcz8_0
          try clear hcz8_1
          try clear hcz8_2
          try clear hcz8_3
          try clear hcz8_4
          try clear hcz8_5
          try clear hcz8_6
          try clear hcz8_7
          try clear hfz8_0
          try clear hfz8_1
          try clear hfz8_2
          try clear hfz8_3
          try clear hfz8_4
          try clear hfz8_5
          try clear hfz8_6
          try clear hfz8_7
          try clear hx494_0
          try clear hx495_0
          try clear p2
          try clear p494
          try clear p495
          try clear q494
          try clear q495
          obtain ⟨x13_2, rfl, HA, HK2, HO_8, HO_10, BK489, HB⟩ := hrel
          cases gk with
          | zero => exact absurd HA.out (by simp [r28_Plan.l1])
          | succ k2 =>
           have H := HA.out
           clear HA
           simp only [r28_Plan.l1] at H
           by_cases c15 : x13_2 < (x10_1.length : Int)
           ·rw [if_pos c15] at H
            have c15b0 : decide (x13_2 < (x10_1.length : Int)) = true := decide_eq_true c15
            clear c15
            by_cases c16 : 0 ≤ x13_2
            ·rw [if_pos c16] at H
             have c16b0 : decide (0 ≤ x13_2) = true := decide_eq_true c16
             clear c16
             by_cases c17 : (Op.bytesLess ((rdOf ByteArray.empty x10_1 x13_2).toList) (rdOf ByteArray.empty l1 (rd t490 x11_1)).toList) = true
             ·rw [if_pos c17] at H
              have c17b0 : (Op.bytesLess ((rdOf ByteArray.empty x10_1 x13_2).toList) (rdOf ByteArray.empty l1 (rd t490 x11_1)).toList) = true := c17
              clear c17
              have H' := Sd.mk H
              clear H
              obtain ⟨Ao18, co18, eo18⟩ := Kd.R_slice HO_10.out
              subst eo18
              have p496 : 0 ≤ (x13_2 : Int) := odt (by (with_reducible assumption))
              have q496 : x13_2 < (x10_1.length : Int) := odt (by (with_reducible assumption))
              obtain ⟨ad496, e496, hx496_0⟩ := Kd.at_string (Kd.R_reads' HO_10.out).2.2 x13_2 p496 q496
              cases e496
              replace p496 := eq_true p496
              replace q496 := eq_true q496
              go_wp2
              go_roundg k2
              case measure => have := HK1.out; have := HK2.out; omega
              case rel => exact ⟨(wrap64 (x13_2 + 1)), (by (rfl)), H', ⟨by have := HK1.out; have := HK2.out; omega⟩, ⟨by (with_reducible repeat (fail)); exact HO_8.out⟩, ⟨by (with_reducible repeat (fail)); exact HO_10.out⟩, ⟨by (with_reducible repeat (fail)); exact BK489.out⟩, ⟨by repeat ((with_reducible (exact HB.out)))⟩⟩
             ·rw [if_neg c17] at H
              have c17b0 : (Op.bytesLess ((rdOf ByteArray.empty x10_1 x13_2).toList) (rdOf ByteArray.empty l1 (rd t490 x11_1)).toList) = false := by simpa using c17
              clear c17
              by_cases c19 : (rdOf ByteArray.empty x10_1 x13_2).toList = (rdOf ByteArray.empty l1 (rd t490 x11_1)).toList
              ·rw [if_pos c19] at H
               have c19b0 : ((rdOf ByteArray.empty x10_1 x13_2).toList == (rdOf ByteArray.empty l1 (rd t490 x11_1)).toList) = true := beq_iff_eq.mpr c19
               have c19b1 : ((rdOf ByteArray.empty x10_1 x13_2).toList != (rdOf ByteArray.empty l1 (rd t490 x11_1)).toList) = false := bne_eq_false_iff_eq.mpr c19
               clear c19
               have H' := Sd.mk H
               clear H
               obtain ⟨Ao20, co20, eo20⟩ := Kd.R_slice HO_10.out
               subst eo20
               have p496 : 0 ≤ (x13_2 : Int) := odt (by (with_reducible assumption))
               have q496 : x13_2 < (x10_1.length : Int) := odt (by (with_reducible assumption))
               obtain ⟨ad496, e496, hx496_0⟩ := Kd.at_string (Kd.R_reads' HO_10.out).2.2 x13_2 p496 q496
               cases e496
               replace p496 := eq_true p496
               replace q496 := eq_true q496
               have p497 : 0 ≤ (x13_2 : Int) := odt (by (with_reducible assumption))
               have q497 : x13_2 < (x10_1.length : Int) := odt (by (with_reducible assumption))
               obtain ⟨ad497, e497, hx497_0⟩ := Kd.at_string (Kd.R_reads' HO_10.out).2.2 x13_2 p497 q497
               obtain rfl : ad496 = ad497 := (by injection e497)
               replace p497 := eq_true p497
               replace q497 := eq_true q497
               go_wp2
               go_roundg k2
               case measure => have := HK1.out; have := HK2.out; omega
               case rel => exact ⟨(x10_1), (wrap64 (x11_1 + 1)), (by (rfl)), H', ⟨by have := HK1.out; have := HK2.out; omega⟩, ⟨by (with_reducible repeat (fail)); exact HO_8.out⟩, ⟨by (with_reducible repeat (fail)); exact HO_10.out⟩, ⟨by (with_reducible repeat (fail)); exact BK489.out⟩, ⟨by repeat ((with_reducible (exact HB.out)))⟩⟩
              ·rw [if_neg c19] at H
               have c19b0 : ((rdOf ByteArray.empty x10_1 x13_2).toList == (rdOf ByteArray.empty l1 (rd t490 x11_1)).toList) = false := beq_eq_false_iff_ne.mpr c19
               have c19b1 : ((rdOf ByteArray.empty x10_1 x13_2).toList != (rdOf ByteArray.empty l1 (rd t490 x11_1)).toList) = true := bne_iff_ne.mpr c19
               have c21b0 := eq_true (odt (by (with_reducible assumption)) : 0 ≤ x13_2)
               by_cases c22 : x13_2 ≤ (x10_1.length : Int)
               ·rw [if_pos c22] at H
                have c22b0 := eq_true c22
                have c22b1 : decide (x13_2 ≤ (x10_1.length : Int)) = true := decide_eq_true c22
                clear c22
                obtain ⟨y498, hy498⟩ : ∃ y_ : List ByteArray, y_ = (x10_1.take (x13_2 : Int).toNat) := ⟨_, rfl⟩
                replace H : (if ([] : List ByteArray).length + y498.length < 8796093022208 then ((some (([] : List ByteArray) ++ y498 : List ByteArray)).bind fun y502 => (if y502.length < 8796093022208 then ((some (y502 ++ [(rdOf ByteArray.empty l1 (rd t490 x11_1))] : List ByteArray)).bind fun y505 => ((some (x10_1.drop (x13_2 : Int).toNat : List ByteArray)).bind fun y508 => (if y505.length + y508.length < 8796093022208 then (r28_Plan.l0 k2 l1 t490 (y505 ++ y508) (wrap64 (x11_1 + 1))) else (none)))) else (none))) else (none)) = some (r1, r2) := by (have H2_ := (Option.bind_some _ _).symm.trans H; rw [hy498]; with_reducible exact H2_)
                have Ny498 := Sd.mk hy498
                clear hy498
                by_cases c23 : ([] : List ByteArray).length + y498.length < 8796093022208
                ·rw [if_pos c23] at H
                 have LMc23 := Sd.mk c23
                 clear c23
                 obtain ⟨y502, hy502⟩ : ∃ y_ : List ByteArray, y_ = (([] : List ByteArray) ++ y498) := ⟨_, rfl⟩
                 replace H : (if y502.length < 8796093022208 then ((some (y502 ++ [(rdOf ByteArray.empty l1 (rd t490 x11_1))] : List ByteArray)).bind fun y505 => ((some (x10_1.drop (x13_2 : Int).toNat : List ByteArray)).bind fun y508 => (if y505.length + y508.length < 8796093022208 then (r28_Plan.l0 k2 l1 t490 (y505 ++ y508) (wrap64 (x11_1 + 1))) else (none)))) else (none)) = some (r1, r2) := by (have H2_ := (Option.bind_some _ _).symm.trans H; rw [hy502]; with_reducible exact H2_)
                 have Ny502 := Sd.mk hy502
                 clear hy502
                 by_cases c24 : y502.length < 8796093022208
                 ·rw [if_pos c24] at H
                  have LMc24 := Sd.mk c24
                  clear c24
                  obtain ⟨y505, hy505⟩ : ∃ y_ : List ByteArray, y_ = (y502 ++ [(rdOf ByteArray.empty l1 (rd t490 x11_1))]) := ⟨_, rfl⟩
                  replace H : ((some (x10_1.drop (x13_2 : Int).toNat : List ByteArray)).bind fun y508 => (if y505.length + y508.length < 8796093022208 then (r28_Plan.l0 k2 l1 t490 (y505 ++ y508) (wrap64 (x11_1 + 1))) else (none))) = some (r1, r2) := by (have H2_ := (Option.bind_some _ _).symm.trans H; rw [hy505]; with_reducible exact H2_)
                  have Ny505 := Sd.mk hy505
                  clear hy505
                  have c25b0 := eq_true (odt (by (with_reducible assumption)) : 0 ≤ x13_2)
                  have c26b0 := eq_true (odt (by (with_reducible assumption)) : x13_2 ≤ (x10_1.length : Int))
                  obtain ⟨y508, hy508⟩ : ∃ y_ : List ByteArray, y_ = (x10_1.drop (x13_2 : Int).toNat) := ⟨_, rfl⟩
                  replace H : (if y505.length + y508.length < 8796093022208 then (r28_Plan.l0 k2 l1 t490 (y505 ++ y508) (wrap64 (x11_1 + 1))) else (none)) = some (r1, r2) := by (have H2_ := (Option.bind_some _ _).symm.trans H; rw [hy508]; with_reducible exact H2_)
                  have Ny508 := Sd.mk hy508
                  clear hy508
                  by_cases c27 : y505.length + y508.length < 8796093022208
                  ·rw [if_pos c27] at H
                   have LMc27 := Sd.mk c27
                   clear c27
                   obtain ⟨y512, hy512⟩ : ∃ y_ : List ByteArray, y_ = (y505 ++ y508) := ⟨_, rfl⟩
                   replace H : (r28_Plan.l0 k2 l1 t490 y512 (wrap64 (x11_1 + 1))) = some (r1, r2) := by (rw [hy512]; with_reducible exact H)
                   have Ny512 := Sd.mk hy512
                   clear hy512
                   have H' := Sd.mk H
                   clear H
                   obtain ⟨Ao28, co28, eo28⟩ := Kd.R_slice HO_10.out
                   subst eo28
                   have p496 : 0 ≤ (x13_2 : Int) := odt (by (with_reducible assumption))
                   have q496 : x13_2 < (x10_1.length : Int) := odt (by (with_reducible assumption))
                   obtain ⟨ad496, e496, hx496_0⟩ := Kd.at_string (Kd.R_reads' HO_10.out).2.2 x13_2 p496 q496
                   cases e496
                   replace p496 := eq_true p496
                   replace q496 := eq_true q496
                   have p497 : 0 ≤ (x13_2 : Int) := odt (by (with_reducible assumption))
                   have q497 : x13_2 < (x10_1.length : Int) := odt (by (with_reducible assumption))
                   obtain ⟨ad497, e497, hx497_0⟩ := Kd.at_string (Kd.R_reads' HO_10.out).2.2 x13_2 p497 q497
                   obtain rfl : ad496 = ad497 := (by injection e497)
                   replace p497 := eq_true p497
                   replace q497 := eq_true q497
                   have q29 : (x13_2 : Int) ≤ ((x10_1.length : Int) : Int) := odt (by (with_reducible assumption))
                   obtain ⟨i029, hi029, _, hsz29, _⟩ := info_parts info9
                   have hroom29 : x10_1.length ≤ co28 := (Kd.R_reads' HO_10.out).2.1
                   have hC29 : Kd.C Kd.string _ (some ad496) x10_1.length x10_1 := (Kd.R_reads' HO_10.out).2.2
                   have hcut29 := cut_to (P := Tryz.prog) 22 9 .i64 Tryz.underlying22 hi029 (some ad496) x10_1.length co28 x13_2 (odt (by (with_reducible assumption))) q29 hroom29
                   have hr29 := Kd.C_take (m := (x13_2 : Int).toNat) hC29 (by omega)
                   have hy29 : y498.length = (x13_2 : Int).toNat := (by rw [Ny498.out, List.length_take]; omega)
                   rw [← Ny498.out] at hr29
                   rw [← hy29] at hcut29
                   have HR501 := Sd.mk hr29
                   have HC501 := Sd.mk (show y498.length ≤ co28 from by omega)
                   clear hr29 hC29 hroom29 hi029 hsz29
                   have KY29 := Sd.mk hy29
                   clear hy29
                   have KL29 := Sd.mk (show (x13_2 : Int).toNat ≤ x10_1.length from by omega)
                   replace q29 := eq_true q29
                   go_wp2_with (first | ((with_reducible refine gate_builtin (b := .append) (xs := #[.tmp 68, .tmp 71]) rfl ?_); at_builtin; refine Kd.R_append_rows Kd.string (w0 := w) w.heap.size rfl (.tmp 68) (.tmp 71) 22 9 (.string ⟨#[]⟩) 16 rfl Tryz.underlying22 info9 rfl (by decide) (by omega) (.slice none 0 0) ([] : List ByteArray) y498 _ _ _ (fun k_ => some k_ ≠ (.slice (some ad496) x10_1.length co28 : Value).ownBlock) (fun _ => False) rfl rfl ?aO ?aR (fun _ _ h => h) (fun _ h => h.elim) ?aF ?aB ?aS ?aL ?_; (case aR => repeat ((exact (by repeat ((exact HR501.out)))))); (case aB => exact (by repeat ((with_reducible (exact HB.out))))); (case aF => exact (fun k_ hk => Kd.fresh' (Kd.R_lt (by (with_reducible repeat (fail)); exact HO_10.out)) k_ hk)); (case aO => exact ((Kd.R_nil _ _ _ _ (fun k_ => some k_ ≠ (.slice (some ad496) x10_1.length co28 : Value).ownBlock)))); (case aS => exact (below_size (by repeat ((with_reducible (exact HB.out)))))); (case aL => have := LMc23.out; omega); intro v503 w30 ho hb hg hat; rw [← Ny502.out] at ho; have n0_ := Sd.mk (Kd.R_grown (by (with_reducible repeat (fail)); exact HO_8.out) hg (fun _ _ => by simp [Value.ownBlock])); have n1_ := Sd.mk (Kd.R_after (Kd.R_apart_nil (by (with_reducible repeat (fail)); exact HO_10.out)) hg hat); have n2_ := Sd.mk (blk_grown (g := gb489) (o := .cells #[.int .i64 a0_0, .int .i64 a0_1, .int .i64 a0_2, .int .i64 a0_3, .int .i64 a0_4, .int .i64 a0_5, .int .i64 a0_6, .slice A0_7 l0_7.length c0_7] 34 (0, 0)) (by (with_reducible repeat (fail)); exact BK489.out) hg (by simp [Value.ownBlock])); have n3_ := Sd.mk (hb); have n4_ := Sd.mk ((show Kd.C Kd.string w30 (some ad496) y498.length y498 from by rw [Ny498.out]; exact Kd.C_take (m := (x13_2 : Int).toNat) ((Kd.R_reads' (Kd.R_after (Kd.R_apart_nil (by (with_reducible repeat (fail)); exact HO_10.out)) hg hat)).2.2) KL29.out)); have n5_ := Sd.mk (ho); clear HO_8; clear HO_10; clear BK489; clear HB; clear HR501; have HO_8 := n0_; have HO_10 := n1_; have BK489 := n2_; have HB := n3_; have HR501 := n4_; have HO504 := n5_; clear n0_ n1_ n2_ n3_ n4_ n5_; clear ho hb hg hat) | ((with_reducible refine gate_builtin (b := .append) (xs := #[.tmp 73, .tmp 75]) rfl ?_); at_builtin; refine Kd.R_append Kd.string (w0 := w) w.heap.size rfl (.tmp 73) (.tmp 75) 22 9 (.string ⟨#[]⟩) 16 rfl Tryz.underlying22 info9 rfl (by decide) (by omega) v503 y502 (rdOf ByteArray.empty l1 (rd t490 x11_1)) [.string (rdOf ByteArray.empty l1 (rd t490 x11_1))] (fun k_ => some k_ ≠ (.slice (some ad496) x10_1.length co28 : Value).ownBlock) (fun _ => False) rfl rfl ?aP (fun _ hk => hk.elim) ?aF ?aO ?aB ?aS ?aL ?_; (case aP => exact rfl); (case aB => exact (by repeat ((with_reducible (exact HB.out))))); (case aF => exact (fun k_ hk => Kd.fresh' (Kd.R_lt (by (with_reducible repeat (fail)); exact HO_10.out)) k_ hk)); (case aO => exact (by (with_reducible repeat (fail)); exact HO504.out)); (case aS => exact (below_size (by repeat ((with_reducible (exact HB.out)))))); (case aL => have := LMc24.out; omega); intro v506 w31 ho hb hg hat; rw [← Ny505.out] at ho; have n0_ := Sd.mk (Kd.R_over' (by (with_reducible repeat (fail)); exact HO_8.out) (Kd.R_typed (by (with_reducible repeat (fail)); exact HO504.out)) (by decide) hg); have n1_ := Sd.mk (Kd.R_after (ok := (fun _ => True)) (by (with_reducible repeat (fail)); exact HO_10.out) hg hat); have n2_ := Sd.mk (blk_grown (g := gb489) (o := .cells #[.int .i64 a0_0, .int .i64 a0_1, .int .i64 a0_2, .int .i64 a0_3, .int .i64 a0_4, .int .i64 a0_5, .int .i64 a0_6, .slice A0_7 l0_7.length c0_7] 34 (0, 0)) (by (with_reducible repeat (fail)); exact BK489.out) hg (Kd.R_ne HO504.out BK489.out (by decide))); have n3_ := Sd.mk (hb); have n4_ := Sd.mk ((show Kd.C Kd.string w31 (some ad496) y498.length y498 from by rw [Ny498.out]; exact Kd.C_take (m := (x13_2 : Int).toNat) ((Kd.R_reads' (Kd.R_after (ok := (fun _ => True)) (by (with_reducible repeat (fail)); exact HO_10.out) hg hat)).2.2) KL29.out)); have n5_ := Sd.mk (ho); clear HO_8; clear HO_10; clear BK489; clear HB; clear HR501; clear HO504; have HO_8 := n0_; have HO_10 := n1_; have BK489 := n2_; have HB := n3_; have HR501 := n4_; have HO507 := n5_; clear n0_ n1_ n2_ n3_ n4_ n5_; clear ho hb hg hat; have q32 : (x13_2 : Int) ≤ ((x10_1.length : Int) : Int) := odt (by (with_reducible assumption)); obtain ⟨i032, hi032, _, hsz32, _⟩ := info_parts info9; have hroom32 : x10_1.length ≤ co28 := (Kd.R_reads' HO_10.out).2.1; have hC32 : Kd.C Kd.string _ (some ad496) x10_1.length x10_1 := (Kd.R_reads' HO_10.out).2.2; have q032 : (0 : Int) ≤ (x13_2 : Int) := odt (by (with_reducible assumption)); have hcut32 := cut_from (P := Tryz.prog) 22 9 .i64 Tryz.underlying22 hi032 1 hsz32 (some ad496) x10_1.length co28 x13_2 q032 q32; have hr32 := Kd.C_drop (m := (x13_2 : Int).toNat) (c := co28) hC32 (by omega) hroom32; obtain ⟨A32, hA32⟩ : ∃ A1, A1 = (if co28 = (x13_2 : Int).toNat then (some ad496) else ((some ad496) : Option Addr).map (·.add ((x13_2 : Int).toNat * 1))) := ⟨_, rfl⟩; obtain ⟨c32, hc32⟩ : ∃ c1, c1 = co28 - (x13_2 : Int).toNat := ⟨_, rfl⟩; have hy32 : y508.length = x10_1.length - (x13_2 : Int).toNat := (by rw [Ny508.out, List.length_drop] <;> omega); rw [show (x10_1).drop (x13_2 : Int).toNat = y508 from Ny508.out.symm] at hr32; replace hr32 : Kd.C Kd.string _ A32 y508.length y508 := (by rw [hA32]; exact hr32); rw [← hy32, ← hA32, ← hc32] at hcut32; have HR511 := Sd.mk hr32; have HC511 := Sd.mk (show y508.length ≤ c32 from by rw [hy32, hc32]; exact Nat.sub_le_sub_right hroom32 _); clear hr32 hC32 hroom32 hi032 hsz32 hc32; have KY32 := Sd.mk hy32; have KA32 := Sd.mk hA32; clear hy32 hA32; have KL32 := Sd.mk (show (x13_2 : Int).toNat ≤ x10_1.length from by omega); replace q32 := eq_true q32) | ((with_reducible refine gate_builtin (b := .append) (xs := #[.tmp 77, .tmp 80]) rfl ?_); at_builtin; refine Kd.R_append_rows Kd.string (w0 := w) w.heap.size rfl (.tmp 77) (.tmp 80) 22 9 (.string ⟨#[]⟩) 16 rfl Tryz.underlying22 info9 rfl (by decide) (by omega) v506 y505 y508 _ _ _ (fun k_ => some k_ ≠ (.slice (some ad496) x10_1.length co28 : Value).ownBlock) (fun _ => False) rfl rfl ?aO ?aR (fun _ _ h => h) (fun _ h => h.elim) ?aF ?aB ?aS ?aL ?_; (case aR => repeat ((exact (by repeat ((exact HR511.out)))))); (case aB => exact (by repeat ((with_reducible (exact HB.out))))); (case aF => exact (fun k_ hk => Kd.fresh' (Kd.R_lt (by (with_reducible repeat (fail)); exact HO_10.out)) k_ hk)); (case aO => exact (by (with_reducible repeat (fail)); exact HO507.out)); (case aS => exact (below_size (by repeat ((with_reducible (exact HB.out)))))); (case aL => have := LMc27.out; omega); intro v513 w33 ho hb hg hat; rw [← Ny512.out] at ho; have n0_ := Sd.mk (Kd.R_over' (by (with_reducible repeat (fail)); exact HO_8.out) (Kd.R_typed (by (with_reducible repeat (fail)); exact HO507.out)) (by decide) hg); have n1_ := Sd.mk (Kd.R_after (ok := (fun _ => True)) (by (with_reducible repeat (fail)); exact HO_10.out) hg hat); have n2_ := Sd.mk (blk_grown (g := gb489) (o := .cells #[.int .i64 a0_0, .int .i64 a0_1, .int .i64 a0_2, .int .i64 a0_3, .int .i64 a0_4, .int .i64 a0_5, .int .i64 a0_6, .slice A0_7 l0_7.length c0_7] 34 (0, 0)) (by (with_reducible repeat (fail)); exact BK489.out) hg (Kd.R_ne HO507.out BK489.out (by decide))); have n3_ := Sd.mk (hb); have n4_ := Sd.mk ((show Kd.C Kd.string w33 (some ad496) y498.length y498 from by rw [Ny498.out]; exact Kd.C_take (m := (x13_2 : Int).toNat) ((Kd.R_reads' (Kd.R_after (ok := (fun _ => True)) (by (with_reducible repeat (fail)); exact HO_10.out) hg hat)).2.2) KL29.out)); have n5_ := Sd.mk ((show Kd.C Kd.string w33 A32 y508.length y508 from by rw [Ny508.out, KA32.out]; exact Kd.C_drop (m := (x13_2 : Int).toNat) (c := co28) ((Kd.R_reads' (Kd.R_after (ok := (fun _ => True)) (by (with_reducible repeat (fail)); exact HO_10.out) hg hat)).2.2) KL32.out ((Kd.R_reads' (Kd.R_after (ok := (fun _ => True)) (by (with_reducible repeat (fail)); exact HO_10.out) hg hat)).2.1))); have n6_ := Sd.mk (ho); clear HO_8; clear HO_10; clear BK489; clear HB; clear HR501; clear HR511; clear HO507; have HO_8 := n0_; have HO_10 := n1_; have BK489 := n2_; have HB := n3_; have HR501 := n4_; have HR511 := n5_; have HO514 := n6_; clear n0_ n1_ n2_ n3_ n4_ n5_ n6_; clear ho hb hg hat))
                   go_roundg k2
                   case measure => have := HK1.out; have := HK2.out; omega
                   case rel => exact ⟨(y512), (wrap64 (x11_1 + 1)), (by (rfl)), H', ⟨by have := HK1.out; have := HK2.out; omega⟩, ⟨by (with_reducible repeat (fail)); exact HO_8.out⟩, ⟨by (with_reducible repeat (fail)); exact Kd.R_mono HO514.out (fun _ hk => trivial)⟩, ⟨by (with_reducible repeat (fail)); exact BK489.out⟩, ⟨by repeat ((with_reducible (exact HB.out)))⟩⟩
                  ·rw [if_neg c27] at H
                   exact absurd H (by simp)
                 ·rw [if_neg c24] at H
                  exact absurd H (by simp)
                ·rw [if_neg c23] at H
                 exact absurd H (by simp)
               ·rw [if_neg c22] at H
                exact absurd H (by simp)
            ·rw [if_neg c16] at H
             exact absurd H (by simp)
           ·rw [if_neg c15] at H
            have c15b0 : decide (x13_2 < (x10_1.length : Int)) = false := decide_eq_false c15
            clear c15
            by_cases c34 : 0 ≤ x13_2
            ·rw [if_pos c34] at H
             have c34b0 := eq_true c34
             have c34b1 : decide (0 ≤ x13_2) = true := decide_eq_true c34
             clear c34
             by_cases c35 : x13_2 ≤ (x10_1.length : Int)
             ·rw [if_pos c35] at H
              have c35b0 := eq_true c35
              have c35b1 : decide (x13_2 ≤ (x10_1.length : Int)) = true := decide_eq_true c35
              clear c35
              obtain ⟨y515, hy515⟩ : ∃ y_ : List ByteArray, y_ = (x10_1.take (x13_2 : Int).toNat) := ⟨_, rfl⟩
              replace H : (if ([] : List ByteArray).length + y515.length < 8796093022208 then ((some (([] : List ByteArray) ++ y515 : List ByteArray)).bind fun y519 => (if y519.length < 8796093022208 then ((some (y519 ++ [(rdOf ByteArray.empty l1 (rd t490 x11_1))] : List ByteArray)).bind fun y522 => ((some (x10_1.drop (x13_2 : Int).toNat : List ByteArray)).bind fun y525 => (if y522.length + y525.length < 8796093022208 then (r28_Plan.l0 k2 l1 t490 (y522 ++ y525) (wrap64 (x11_1 + 1))) else (none)))) else (none))) else (none)) = some (r1, r2) := by (have H2_ := (Option.bind_some _ _).symm.trans H; rw [hy515]; with_reducible exact H2_)
              have Ny515 := Sd.mk hy515
              clear hy515
              by_cases c36 : ([] : List ByteArray).length + y515.length < 8796093022208
              ·rw [if_pos c36] at H
               have LMc36 := Sd.mk c36
               clear c36
               obtain ⟨y519, hy519⟩ : ∃ y_ : List ByteArray, y_ = (([] : List ByteArray) ++ y515) := ⟨_, rfl⟩
               replace H : (if y519.length < 8796093022208 then ((some (y519 ++ [(rdOf ByteArray.empty l1 (rd t490 x11_1))] : List ByteArray)).bind fun y522 => ((some (x10_1.drop (x13_2 : Int).toNat : List ByteArray)).bind fun y525 => (if y522.length + y525.length < 8796093022208 then (r28_Plan.l0 k2 l1 t490 (y522 ++ y525) (wrap64 (x11_1 + 1))) else (none)))) else (none)) = some (r1, r2) := by (have H2_ := (Option.bind_some _ _).symm.trans H; rw [hy519]; with_reducible exact H2_)
               have Ny519 := Sd.mk hy519
               clear hy519
               by_cases c37 : y519.length < 8796093022208
               ·rw [if_pos c37] at H
                have LMc37 := Sd.mk c37
                clear c37
                obtain ⟨y522, hy522⟩ : ∃ y_ : List ByteArray, y_ = (y519 ++ [(rdOf ByteArray.empty l1 (rd t490 x11_1))]) := ⟨_, rfl⟩
                replace H : ((some (x10_1.drop (x13_2 : Int).toNat : List ByteArray)).bind fun y525 => (if y522.length + y525.length < 8796093022208 then (r28_Plan.l0 k2 l1 t490 (y522 ++ y525) (wrap64 (x11_1 + 1))) else (none))) = some (r1, r2) := by (have H2_ := (Option.bind_some _ _).symm.trans H; rw [hy522]; with_reducible exact H2_)
                have Ny522 := Sd.mk hy522
                clear hy522
                have c38b0 := eq_true (odt (by (with_reducible assumption)) : 0 ≤ x13_2)
                have c39b0 := eq_true (odt (by (with_reducible assumption)) : x13_2 ≤ (x10_1.length : Int))
                obtain ⟨y525, hy525⟩ : ∃ y_ : List ByteArray, y_ = (x10_1.drop (x13_2 : Int).toNat) := ⟨_, rfl⟩
                replace H : (if y522.length + y525.length < 8796093022208 then (r28_Plan.l0 k2 l1 t490 (y522 ++ y525) (wrap64 (x11_1 + 1))) else (none)) = some (r1, r2) := by (have H2_ := (Option.bind_some _ _).symm.trans H; rw [hy525]; with_reducible exact H2_)
                have Ny525 := Sd.mk hy525
                clear hy525
                by_cases c40 : y522.length + y525.length < 8796093022208
                ·rw [if_pos c40] at H
                 have LMc40 := Sd.mk c40
                 clear c40
                 obtain ⟨y529, hy529⟩ : ∃ y_ : List ByteArray, y_ = (y522 ++ y525) := ⟨_, rfl⟩
                 replace H : (r28_Plan.l0 k2 l1 t490 y529 (wrap64 (x11_1 + 1))) = some (r1, r2) := by (rw [hy529]; with_reducible exact H)
                 have Ny529 := Sd.mk hy529
                 clear hy529
                 have H' := Sd.mk H
                 clear H
                 obtain ⟨Ao41, co41, eo41⟩ := Kd.R_slice HO_10.out
                 subst eo41
                 have q42 : (x13_2 : Int) ≤ ((x10_1.length : Int) : Int) := odt (by (with_reducible assumption))
                 obtain ⟨i042, hi042, _, hsz42, _⟩ := info_parts info9
                 have hroom42 : x10_1.length ≤ co41 := (Kd.R_reads' HO_10.out).2.1
                 have hC42 : Kd.C Kd.string _ Ao41 x10_1.length x10_1 := (Kd.R_reads' HO_10.out).2.2
                 have hcut42 := cut_to (P := Tryz.prog) 22 9 .i64 Tryz.underlying22 hi042 Ao41 x10_1.length co41 x13_2 (odt (by (with_reducible assumption))) q42 hroom42
                 have hr42 := Kd.C_take (m := (x13_2 : Int).toNat) hC42 (by omega)
                 have hy42 : y515.length = (x13_2 : Int).toNat := (by rw [Ny515.out, List.length_take]; omega)
                 rw [← Ny515.out] at hr42
                 rw [← hy42] at hcut42
                 have HR518 := Sd.mk hr42
                 have HC518 := Sd.mk (show y515.length ≤ co41 from by omega)
                 clear hr42 hC42 hroom42 hi042 hsz42
                 have KY42 := Sd.mk hy42
                 clear hy42
                 have KL42 := Sd.mk (show (x13_2 : Int).toNat ≤ x10_1.length from by omega)
                 replace q42 := eq_true q42
                 go_wp2_with (first | ((with_reducible refine gate_builtin (b := .append) (xs := #[.tmp 68, .tmp 71]) rfl ?_); at_builtin; refine Kd.R_append_rows Kd.string (w0 := w) w.heap.size rfl (.tmp 68) (.tmp 71) 22 9 (.string ⟨#[]⟩) 16 rfl Tryz.underlying22 info9 rfl (by decide) (by omega) (.slice none 0 0) ([] : List ByteArray) y515 _ _ _ (fun k_ => some k_ ≠ (.slice Ao41 x10_1.length co41 : Value).ownBlock) (fun _ => False) rfl rfl ?aO ?aR (fun _ _ h => h) (fun _ h => h.elim) ?aF ?aB ?aS ?aL ?_; (case aR => repeat ((exact (by repeat ((exact HR518.out)))))); (case aB => exact (by repeat ((with_reducible (exact HB.out))))); (case aF => exact (fun k_ hk => Kd.fresh' (Kd.R_lt (by (with_reducible repeat (fail)); exact HO_10.out)) k_ hk)); (case aO => exact ((Kd.R_nil _ _ _ _ (fun k_ => some k_ ≠ (.slice Ao41 x10_1.length co41 : Value).ownBlock)))); (case aS => exact (below_size (by repeat ((with_reducible (exact HB.out)))))); (case aL => have := LMc36.out; omega); intro v520 w43 ho hb hg hat; rw [← Ny519.out] at ho; have n0_ := Sd.mk (Kd.R_grown (by (with_reducible repeat (fail)); exact HO_8.out) hg (fun _ _ => by simp [Value.ownBlock])); have n1_ := Sd.mk (Kd.R_after (Kd.R_apart_nil (by (with_reducible repeat (fail)); exact HO_10.out)) hg hat); have n2_ := Sd.mk (blk_grown (g := gb489) (o := .cells #[.int .i64 a0_0, .int .i64 a0_1, .int .i64 a0_2, .int .i64 a0_3, .int .i64 a0_4, .int .i64 a0_5, .int .i64 a0_6, .slice A0_7 l0_7.length c0_7] 34 (0, 0)) (by (with_reducible repeat (fail)); exact BK489.out) hg (by simp [Value.ownBlock])); have n3_ := Sd.mk (hb); have n4_ := Sd.mk ((show Kd.C Kd.string w43 Ao41 y515.length y515 from by rw [Ny515.out]; exact Kd.C_take (m := (x13_2 : Int).toNat) ((Kd.R_reads' (Kd.R_after (Kd.R_apart_nil (by (with_reducible repeat (fail)); exact HO_10.out)) hg hat)).2.2) KL42.out)); have n5_ := Sd.mk (ho); clear HO_8; clear HO_10; clear BK489; clear HB; clear HR518; have HO_8 := n0_; have HO_10 := n1_; have BK489 := n2_; have HB := n3_; have HR518 := n4_; have HO521 := n5_; clear n0_ n1_ n2_ n3_ n4_ n5_; clear ho hb hg hat) | ((with_reducible refine gate_builtin (b := .append) (xs := #[.tmp 73, .tmp 75]) rfl ?_); at_builtin; refine Kd.R_append Kd.string (w0 := w) w.heap.size rfl (.tmp 73) (.tmp 75) 22 9 (.string ⟨#[]⟩) 16 rfl Tryz.underlying22 info9 rfl (by decide) (by omega) v520 y519 (rdOf ByteArray.empty l1 (rd t490 x11_1)) [.string (rdOf ByteArray.empty l1 (rd t490 x11_1))] (fun k_ => some k_ ≠ (.slice Ao41 x10_1.length co41 : Value).ownBlock) (fun _ => False) rfl rfl ?aP (fun _ hk => hk.elim) ?aF ?aO ?aB ?aS ?aL ?_; (case aP => exact rfl); (case aB => exact (by repeat ((with_reducible (exact HB.out))))); (case aF => exact (fun k_ hk => Kd.fresh' (Kd.R_lt (by (with_reducible repeat (fail)); exact HO_10.out)) k_ hk)); (case aO => exact (by (with_reducible repeat (fail)); exact HO521.out)); (case aS => exact (below_size (by repeat ((with_reducible (exact HB.out)))))); (case aL => have := LMc37.out; omega); intro v523 w44 ho hb hg hat; rw [← Ny522.out] at ho; have n0_ := Sd.mk (Kd.R_over' (by (with_reducible repeat (fail)); exact HO_8.out) (Kd.R_typed (by (with_reducible repeat (fail)); exact HO521.out)) (by decide) hg); have n1_ := Sd.mk (Kd.R_after (ok := (fun _ => True)) (by (with_reducible repeat (fail)); exact HO_10.out) hg hat); have n2_ := Sd.mk (blk_grown (g := gb489) (o := .cells #[.int .i64 a0_0, .int .i64 a0_1, .int .i64 a0_2, .int .i64 a0_3, .int .i64 a0_4, .int .i64 a0_5, .int .i64 a0_6, .slice A0_7 l0_7.length c0_7] 34 (0, 0)) (by (with_reducible repeat (fail)); exact BK489.out) hg (Kd.R_ne HO521.out BK489.out (by decide))); have n3_ := Sd.mk (hb); have n4_ := Sd.mk ((show Kd.C Kd.string w44 Ao41 y515.length y515 from by rw [Ny515.out]; exact Kd.C_take (m := (x13_2 : Int).toNat) ((Kd.R_reads' (Kd.R_after (ok := (fun _ => True)) (by (with_reducible repeat (fail)); exact HO_10.out) hg hat)).2.2) KL42.out)); have n5_ := Sd.mk (ho); clear HO_8; clear HO_10; clear BK489; clear HB; clear HR518; clear HO521; have HO_8 := n0_; have HO_10 := n1_; have BK489 := n2_; have HB := n3_; have HR518 := n4_; have HO524 := n5_; clear n0_ n1_ n2_ n3_ n4_ n5_; clear ho hb hg hat; have q45 : (x13_2 : Int) ≤ ((x10_1.length : Int) : Int) := odt (by (with_reducible assumption)); obtain ⟨i045, hi045, _, hsz45, _⟩ := info_parts info9; have hroom45 : x10_1.length ≤ co41 := (Kd.R_reads' HO_10.out).2.1; have hC45 : Kd.C Kd.string _ Ao41 x10_1.length x10_1 := (Kd.R_reads' HO_10.out).2.2; have q045 : (0 : Int) ≤ (x13_2 : Int) := odt (by (with_reducible assumption)); have hcut45 := cut_from (P := Tryz.prog) 22 9 .i64 Tryz.underlying22 hi045 1 hsz45 Ao41 x10_1.length co41 x13_2 q045 q45; have hr45 := Kd.C_drop (m := (x13_2 : Int).toNat) (c := co41) hC45 (by omega) hroom45; obtain ⟨A45, hA45⟩ : ∃ A1, A1 = (if co41 = (x13_2 : Int).toNat then Ao41 else (Ao41 : Option Addr).map (·.add ((x13_2 : Int).toNat * 1))) := ⟨_, rfl⟩; obtain ⟨c45, hc45⟩ : ∃ c1, c1 = co41 - (x13_2 : Int).toNat := ⟨_, rfl⟩; have hy45 : y525.length = x10_1.length - (x13_2 : Int).toNat := (by rw [Ny525.out, List.length_drop] <;> omega); rw [show (x10_1).drop (x13_2 : Int).toNat = y525 from Ny525.out.symm] at hr45; replace hr45 : Kd.C Kd.string _ A45 y525.length y525 := (by rw [hA45]; exact hr45); rw [← hy45, ← hA45, ← hc45] at hcut45; have HR528 := Sd.mk hr45; have HC528 := Sd.mk (show y525.length ≤ c45 from by rw [hy45, hc45]; exact Nat.sub_le_sub_right hroom45 _); clear hr45 hC45 hroom45 hi045 hsz45 hc45; have KY45 := Sd.mk hy45; have KA45 := Sd.mk hA45; clear hy45 hA45; have KL45 := Sd.mk (show (x13_2 : Int).toNat ≤ x10_1.length from by omega); replace q45 := eq_true q45) | ((with_reducible refine gate_builtin (b := .append) (xs := #[.tmp 77, .tmp 80]) rfl ?_); at_builtin; refine Kd.R_append_rows Kd.string (w0 := w) w.heap.size rfl (.tmp 77) (.tmp 80) 22 9 (.string ⟨#[]⟩) 16 rfl Tryz.underlying22 info9 rfl (by decide) (by omega) v523 y522 y525 _ _ _ (fun k_ => some k_ ≠ (.slice Ao41 x10_1.length co41 : Value).ownBlock) (fun _ => False) rfl rfl ?aO ?aR (fun _ _ h => h) (fun _ h => h.elim) ?aF ?aB ?aS ?aL ?_; (case aR => repeat ((exact (by repeat ((exact HR528.out)))))); (case aB => exact (by repeat ((with_reducible (exact HB.out))))); (case aF => exact (fun k_ hk => Kd.fresh' (Kd.R_lt (by (with_reducible repeat (fail)); exact HO_10.out)) k_ hk)); (case aO => exact (by (with_reducible repeat (fail)); exact HO524.out)); (case aS => exact (below_size (by repeat ((with_reducible (exact HB.out)))))); (case aL => have := LMc40.out; omega); intro v530 w46 ho hb hg hat; rw [← Ny529.out] at ho; have n0_ := Sd.mk (Kd.R_over' (by (with_reducible repeat (fail)); exact HO_8.out) (Kd.R_typed (by (with_reducible repeat (fail)); exact HO524.out)) (by decide) hg); have n1_ := Sd.mk (Kd.R_after (ok := (fun _ => True)) (by (with_reducible repeat (fail)); exact HO_10.out) hg hat); have n2_ := Sd.mk (blk_grown (g := gb489) (o := .cells #[.int .i64 a0_0, .int .i64 a0_1, .int .i64 a0_2, .int .i64 a0_3, .int .i64 a0_4, .int .i64 a0_5, .int .i64 a0_6, .slice A0_7 l0_7.length c0_7] 34 (0, 0)) (by (with_reducible repeat (fail)); exact BK489.out) hg (Kd.R_ne HO524.out BK489.out (by decide))); have n3_ := Sd.mk (hb); have n4_ := Sd.mk ((show Kd.C Kd.string w46 Ao41 y515.length y515 from by rw [Ny515.out]; exact Kd.C_take (m := (x13_2 : Int).toNat) ((Kd.R_reads' (Kd.R_after (ok := (fun _ => True)) (by (with_reducible repeat (fail)); exact HO_10.out) hg hat)).2.2) KL42.out)); have n5_ := Sd.mk ((show Kd.C Kd.string w46 A45 y525.length y525 from by rw [Ny525.out, KA45.out]; exact Kd.C_drop (m := (x13_2 : Int).toNat) (c := co41) ((Kd.R_reads' (Kd.R_after (ok := (fun _ => True)) (by (with_reducible repeat (fail)); exact HO_10.out) hg hat)).2.2) KL45.out ((Kd.R_reads' (Kd.R_after (ok := (fun _ => True)) (by (with_reducible repeat (fail)); exact HO_10.out) hg hat)).2.1))); have n6_ := Sd.mk (ho); clear HO_8; clear HO_10; clear BK489; clear HB; clear HR518; clear HR528; clear HO524; have HO_8 := n0_; have HO_10 := n1_; have BK489 := n2_; have HB := n3_; have HR518 := n4_; have HR528 := n5_; have HO531 := n6_; clear n0_ n1_ n2_ n3_ n4_ n5_ n6_; clear ho hb hg hat))
                 go_roundg k2
                 case measure => have := HK1.out; have := HK2.out; omega
                 case rel => exact ⟨(y529), (wrap64 (x11_1 + 1)), (by (rfl)), H', ⟨by have := HK1.out; have := HK2.out; omega⟩, ⟨by (with_reducible repeat (fail)); exact HO_8.out⟩, ⟨by (with_reducible repeat (fail)); exact Kd.R_mono HO531.out (fun _ hk => trivial)⟩, ⟨by (with_reducible repeat (fail)); exact BK489.out⟩, ⟨by repeat ((with_reducible (exact HB.out)))⟩⟩
                ·rw [if_neg c40] at H
                 exact absurd H (by simp)
               ·rw [if_neg c37] at H
                exact absurd H (by simp)
              ·rw [if_neg c36] at H
               exact absurd H (by simp)
             ·rw [if_neg c35] at H
              exact absurd H (by simp)
            ·rw [if_neg c34] at H
             exact absurd H (by simp)
        ·rw [if_neg c13] at H
         exact absurd H (by simp)
       ·rw [if_neg c12] at H
        exact absurd H (by simp)
      ·rw [if_neg c11] at H
       exact absurd H (by simp)
     ·rw [if_neg c10] at H
      have c10b0 : decide (x11_1 < (t490.length : Int)) = false := decide_eq_false c10
      clear c10
      simp only [Option.some.injEq, Prod.mk.injEq] at H
      obtain ⟨rfl, rfl⟩ := H
      obtain ⟨Ao47, co47, eo47⟩ := Kd.R_slice HO_8.out
      subst eo47
      go_wp2
      go_ret2
      exact ⟨_, by (rfl), by (with_reducible repeat (fail)); exact HO_10.out, by repeat ((with_reducible (exact HB.out)))⟩
  ·rw [if_neg c6] at H
   have c6b0 : (t493 == 0) = false := beq_eq_false_iff_ne.mpr c6
   have c6b1 : (t493 != 0) = true := bne_iff_ne.mpr c6
   simp only [Option.some.injEq, Prod.mk.injEq] at H
   obtain ⟨rfl, rfl⟩ := H
   go_enter Tryz.func7, Tryz.ntmps7
   go_wp2_with (first | ((with_reducible refine gate_dst (N := 3) rfl ?_); refine box_event ?hg (N := 3) ?hd (cs := #[.int .i64 a0_0, .int .i64 a0_1, .int .i64 a0_2, .int .i64 a0_3, .int .i64 a0_4, .int .i64 a0_5, .int .i64 a0_6, .slice A0_7 l0_7.length c0_7]) (t := 34) ?hr ?_; (case hd => rfl); (case hg => rfl); (case hr => (go_simp; done)); intro gb489 hg w48 hbox hb; have n0_ := Sd.mk (below_step (by repeat ((with_reducible (exact HB.out)))) hb); have n1_ := Sd.mk (hbox); have n2_ := Sd.mk ((by rw [hg]; exact (below_size (by repeat ((with_reducible (exact HB.out))))) : w.heap.size ≤ gb489)); have n3_ := Sd.mk ((by rw [hg]; exact (below_size (by repeat ((with_reducible (exact HB.out))))) : w.heap.size ≤ gb489)); clear HB; have HB := n0_; have BK489 := n1_; have GW489 := n2_; have GE489 := n3_; clear n0_ n1_ n2_ n3_; clear hb hbox hg; obtain ⟨hcz49_0, hcz49_1, hcz49_2, hcz49_3, hcz49_4, hcz49_5, hcz49_6, hcz49_7⟩ := bc8 BK489.out; obtain ⟨hfz49_0, hfz49_1, hfz49_2, hfz49_3, hfz49_4, hfz49_5, hfz49_6, hfz49_7⟩ := bf8 BK489.out) | ((with_reducible refine gate_callee (f := 13) rfl ?_); refine goesL_ (some 23) rfl rfl Tryz.func13 (by kernel_rfl) rfl #[.agg #[.int .i64 a0_0, .int .i64 a0_1, .int .i64 a0_2, .int .i64 a0_3, .int .i64 a0_4, .int .i64 a0_5, .int .i64 a0_6, .slice A0_7 l0_7.length c0_7], .slice A2 l2.length c2] rfl (by (try simp only [List.map_toArray, List.map_cons, List.map_nil]); (rfl)) ?_; (with_reducible refine (r22_Forget.calls k a0_0 a0_1 a0_2 a0_3 a0_4 a0_5 a0_6 _ _ l0_7 _ _ l2 t490 t493 _ ?side1 ?side2 ?side3 ?side4 A5.out).mono ?_); (case side1 => repeat ((exact (Kd.C_below HR0_7.out HB.out)))); (case side2 => exact HC0_7.out); (case side3 => repeat ((exact (Kd.C_below HR2.out HB.out)))); (case side4 => exact HC2.out); rintro e w50 ⟨v491, rfl, ho0, hb⟩; refine ⟨_, rfl, ?_⟩; have n0_ := Sd.mk (Kd.R_lower ho0 (below_size (by repeat ((with_reducible (exact HB.out)))))); have n1_ := Sd.mk (blk_below (g := gb489) (o := .cells #[.int .i64 a0_0, .int .i64 a0_1, .int .i64 a0_2, .int .i64 a0_3, .int .i64 a0_4, .int .i64 a0_5, .int .i64 a0_6, .slice A0_7 l0_7.length c0_7] 34 (0, 0)) (by (with_reducible repeat (fail)); exact BK489.out) hb); have n2_ := Sd.mk (below_step (by repeat ((with_reducible (exact HB.out)))) hb); clear BK489; clear HB; have HO492 := n0_; have BK489 := n1_; have HB := n2_; clear n0_ n1_ n2_; (try clear hb); (try clear hb2); (try clear hk); (try clear hi); (try clear ho0)))
   go_ret2
   exact ⟨_, by (rfl), by (exact Kd.R_nil _ _ _ _ _), by repeat ((with_reducible (exact HB.out)))⟩
 ·rw [if_neg c4] at H
  have c4b0 : ((l1.length : Int) == (l2.length : Int)) = false := beq_eq_false_iff_ne.mpr c4
  have c4b1 : ((l1.length : Int) != (l2.length : Int)) = true := bne_iff_ne.mpr c4
  have c4b2 : (l1.length == l2.length) = false := by (simp at c4 ⊢; omega)
  simp only [Option.some.injEq, Prod.mk.injEq] at H
  obtain ⟨rfl, rfl⟩ := H
  go_enter Tryz.func7, Tryz.ntmps7
  go_wp2_with (((with_reducible refine gate_dst (N := 3) rfl ?_); refine box_event ?hg (N := 3) ?hd (cs := #[.int .i64 a0_0, .int .i64 a0_1, .int .i64 a0_2, .int .i64 a0_3, .int .i64 a0_4, .int .i64 a0_5, .int .i64 a0_6, .slice A0_7 l0_7.length c0_7]) (t := 34) ?hr ?_; (case hd => rfl); (case hg => rfl); (case hr => (go_simp; done)); intro gb489 hg w51 hbox hb; have n0_ := Sd.mk (below_step (by repeat ((with_reducible (exact HB.out)))) hb); have n1_ := Sd.mk (hbox); have n2_ := Sd.mk ((by rw [hg]; exact (below_size (by repeat ((with_reducible (exact HB.out))))) : w.heap.size ≤ gb489)); have n3_ := Sd.mk ((by rw [hg]; exact (below_size (by repeat ((with_reducible (exact HB.out))))) : w.heap.size ≤ gb489)); clear HB; have HB := n0_; have BK489 := n1_; have GW489 := n2_; have GE489 := n3_; clear n0_ n1_ n2_ n3_; clear hb hbox hg))
  go_ret2
  exact ⟨_, by (rfl), by (exact Kd.R_nil _ _ _ _ _), by repeat ((with_reducible (exact HB.out)))⟩
end Go.Proofs.YtpdkgpmcmebefaaGreatDoor.Q
