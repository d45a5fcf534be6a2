/- Of the proof about maint: several texts, joined. -/
import Derived.Laws.Cover1
import Derived.Test.YtpdkgpmcmebefaaGreatDoorMA
set_option maxHeartbeats 16000000
set_option maxRecDepth 100000
set_option linter.unusedVariables false
set_option linter.unusedSimpArgs false
namespace Go.Proofs.YtpdkgpmcmebefaaGreatDoor.Q
open Go.RowKit Go.Proofs.YtpdkgpmcmebefaaGreatDoorW.PrintWords Go.Proofs.YtpdkgpmcmebefaaGreatDoorW.PrintLast Go.Proofs.YtpdkgpmcmebefaaGreatDoorW.PrintMore
attribute [local go_sem] max2_int min2_int max_two min_two max_three min_three max_four min_four
mutual
def r20_Check.j0 : Nat → Bool → Int → ByteArray → List ByteArray → List ByteArray → ByteArray → ByteArray → Option (Int)
 | 0, _, _, _, _, _, _, _ => none
 | k + 1, x30, x314000, x314001, x314002, x314003, x314004, x314005 => if x30 = true then (some 200) else (r20_Check.l0 k 0 x314000 x314001 x314002 x314003 x314004 x314005)
def r20_Check.l0 : Nat → Int → Int → ByteArray → List ByteArray → List ByteArray → ByteArray → ByteArray → Option (Int)
 | 0, _, _, _, _, _, _, _ => none
 | k + 1, x3, x314000, x314001, x314002, x314003, x314004, x314005 => if x3 < (x314002.length : Int) then (if 0 ≤ x3 then ((r17_Is.f k (rdOf ByteArray.empty x314002 x3)).bind fun t316 => (if t316 = true then (if x3 > 0 then (if 0 ≤ (wrap64 (x3 - 1)) then (if (wrap64 (x3 - 1)) < (x314002.length : Int) then ((r17_Less.f k (rdOf ByteArray.empty x314002 (wrap64 (x3 - 1))) (rdOf ByteArray.empty x314002 x3)).bind fun t319 => (if t319 = true then (r20_Check.l0 k (wrap64 (x3 + 1)) x314000 x314001 x314002 x314003 x314004 x314005) else (some 200))) else (none)) else (none)) else (r20_Check.l0 k (wrap64 (x3 + 1)) x314000 x314001 x314002 x314003 x314004 x314005)) else (some 200))) else (none)) else (r20_Check.l1 k 0 x314000 x314001 x314002 x314003 x314004 x314005)
def r20_Check.l1 : Nat → Int → Int → ByteArray → List ByteArray → List ByteArray → ByteArray → ByteArray → Option (Int)
 | 0, _, _, _, _, _, _, _ => none
 | k + 1, x4, x314000, x314001, x314002, x314003, x314004, x314005 => if x4 < (x314003.length : Int) then (if 0 ≤ x4 then ((r20_word.f k (rdOf ByteArray.empty x314003 x4) 32).bind fun t321 => (if t321 = true then (if x4 > 0 then (if 0 ≤ (wrap64 (x4 - 1)) then (if (wrap64 (x4 - 1)) < (x314003.length : Int) then (if ((Op.bytesLess ((rdOf ByteArray.empty x314003 (wrap64 (x4 - 1))).toList) ((rdOf ByteArray.empty x314003 x4).toList)) = true) then (r20_Check.l1 k (wrap64 (x4 + 1)) x314000 x314001 x314002 x314003 x314004 x314005) else (some 200)) else (none)) else (none)) else (r20_Check.l1 k (wrap64 (x4 + 1)) x314000 x314001 x314002 x314003 x314004 x314005)) else (some 200))) else (none)) else (if (x314004.size : Int) = 32 then (if x314005.toList = ([] : List UInt8) then (some 0) else (if (x314005.size : Int) = 32 then (some 0) else (some 200))) else (some 200))
end
def r20_Check.f (k : Nat) (a0_0 : Int) (a0_1 : ByteArray) (l0_2 : List ByteArray) (l0_3 : List ByteArray) (a0_4 : ByteArray) (a0_5 : ByteArray) : Option (Int) := if a0_0 < 0 then (r20_Check.j0 k true a0_0 a0_1 l0_2 l0_3 a0_4 a0_5) else (if a0_0 > 1099511627776 then (r20_Check.j0 k true a0_0 a0_1 l0_2 l0_3 a0_4 a0_5) else ((r20_word.f k a0_1 64).bind fun t314 => (if t314 = true then (if (l0_2.length : Int) > 64 then (r20_Check.j0 k true a0_0 a0_1 l0_2 l0_3 a0_4 a0_5) else (r20_Check.j0 k (decide ((l0_3.length : Int) > 64)) a0_0 a0_1 l0_2 l0_3 a0_4 a0_5)) else (r20_Check.j0 k true a0_0 a0_1 l0_2 l0_3 a0_4 a0_5))))
theorem r20_Check.mono_l : ∀ k, (∀ y0 y1 y2 y3 y4 y5 y6, LeO (r20_Check.j0 k y0 y1 y2 y3 y4 y5 y6) (r20_Check.j0 (k + 1) y0 y1 y2 y3 y4 y5 y6)) ∧ (∀ y0 y1 y2 y3 y4 y5 y6, LeO (r20_Check.l0 k y0 y1 y2 y3 y4 y5 y6) (r20_Check.l0 (k + 1) y0 y1 y2 y3 y4 y5 y6)) ∧ (∀ y0 y1 y2 y3 y4 y5 y6, LeO (r20_Check.l1 k y0 y1 y2 y3 y4 y5 y6) (r20_Check.l1 (k + 1) y0 y1 y2 y3 y4 y5 y6))
 | 0 => ⟨fun _ _ _ _ _ _ _ r h => by simp [r20_Check.j0] at h, fun _ _ _ _ _ _ _ r h => by simp [r20_Check.l0] at h, fun _ _ _ _ _ _ _ r h => by simp [r20_Check.l1] at h⟩
 | k + 1 => by
  obtain ⟨ih0, ih1, ih2⟩ := r20_Check.mono_l k
  refine ⟨?_, ?_, ?_⟩
  ·intro y0 y1 y2 y3 y4 y5 y6
   unfold r20_Check.j0
   repeat' first | (with_reducible exact ih1 _ _ _ _ _ _ _) | (with_reducible exact LeO.refl _) | (with_reducible refine LeO.ite ?_ ?_)
  ·intro y0 y1 y2 y3 y4 y5 y6
   unfold r20_Check.l0
   repeat' first | (with_reducible exact ih1 _ _ _ _ _ _ _) | (with_reducible exact ih2 _ _ _ _ _ _ _) | (with_reducible exact r17_Is.mono _ _) | (with_reducible exact r17_Less.mono _ _ _) | (with_reducible exact LeO.refl _) | (with_reducible refine LeO.ite ?_ ?_) | (with_reducible refine LeO.bind ?_ (fun _ => ?_))
  ·intro y0 y1 y2 y3 y4 y5 y6
   unfold r20_Check.l1
   repeat' first | (with_reducible exact ih2 _ _ _ _ _ _ _) | (with_reducible exact r20_word.mono _ _ _) | (with_reducible exact LeO.refl _) | (with_reducible refine LeO.ite ?_ ?_) | (with_reducible refine LeO.bind ?_ (fun _ => ?_))
def r20_Check.T6 : Bool × List (List Nat × List Nat) := (true, [([], []), ([0], [0]), ([], []), ([1, 2], [1, 2]), ([3], [3]), ([4], [4]), ([5], [5]), ([6, 5], [6]), ([7], [7]), ([8, 7], [7, 8]), ([9, 7, 7], [7, 9]), ([10], [10]), ([11, 10], [10, 11]), ([10], [10]), ([13, 10], [10, 13]), ([12, 14, 10], [10, 12, 14]), ([15, 10], [10, 15]), ([10], [10]), ([17, 10], [10, 17]), ([10], [10]), ([18, 19, 10], [10, 18, 19]), ([20, 10], [10, 20]), ([16, 21, 10, 10], [10, 16, 21]), ([22, 10], [10, 22]), ([10, 23, 7], [7, 10, 23]), ([7, 24], [7, 24])])
def r20_Check.B6 : List Nat := [0, 1, 0, 7, 15, 31, 63, 127, 255, 511, 1023, 2047, 4095, 2047, 10239, 32767, 65535, 2047, 133119, 2047, 919551, 1968127, 4194303, 8388607, 16777215, 33554431]
theorem r20_Check.tab6 : rtab .any (opsOf Tryz.f27 6) = r20_Check.T6 := by kernel_rfl
theorem r20_Check.bits6 : waitsOk r20_Check.T6.2 r20_Check.B6 = true := by kernel_rfl
def r20_Check.T11 : Bool × List (List Nat × List Nat) := (true, [([], []), ([0], [0]), ([], []), ([1, 2], [1, 2]), ([3], [3]), ([4], [4]), ([5], [5]), ([6, 5], [6]), ([7], [7]), ([8, 7], [7, 8]), ([9, 7, 7], [7, 9]), ([10], [10]), ([11, 10], [10, 11]), ([10], [10]), ([13, 10], [10, 13]), ([12, 14, 10], [10, 12, 14]), ([15, 10], [10, 15]), ([10], [10]), ([17, 10], [10, 17]), ([10], [10]), ([18, 19, 10], [10, 18, 19]), ([20, 10], [10, 20]), ([16, 21, 10], [10, 16, 21]), ([10, 22, 7], [7, 10, 22]), ([7, 23], [7, 23])])
def r20_Check.B11 : List Nat := [0, 1, 0, 7, 15, 31, 63, 127, 255, 511, 1023, 2047, 4095, 2047, 10239, 32767, 65535, 2047, 133119, 2047, 919551, 1968127, 4194303, 8388607, 16777215]
theorem r20_Check.tab11 : rtab .any (opsOf Tryz.f27 11) = r20_Check.T11 := by kernel_rfl
theorem r20_Check.bits11 : waitsOk r20_Check.T11.2 r20_Check.B11 = true := by kernel_rfl
theorem r20_Check.calls (k : Nat) (a0_0 : Int) (a0_1 : ByteArray) (A0_2 : Option Addr) (c0_2 : Nat) (l0_2 : List ByteArray) (A0_3 : Option Addr) (c0_3 : Nat) (l0_3 : List ByteArray) (a0_4 : ByteArray) (a0_5 : ByteArray) (r : Int) (w : World) (hr0_2 : Kd.C Kd.string w A0_2 l0_2.length l0_2) (hc0_2 : l0_2.length ≤ c0_2) (hr0_3 : Kd.C Kd.string w A0_3 l0_3.length l0_3) (hc0_3 : l0_3.length ≤ c0_3) (h : r20_Check.f k a0_0 a0_1 l0_2 l0_3 a0_4 a0_5 = some r) :
  Calls Tryz.prog 27 #[.agg #[.int .i64 a0_0, .string a0_1, .slice A0_2 l0_2.length c0_2, .slice A0_3 l0_3.length c0_3, .string a0_4, .string a0_5]] w fun e w' => e = .returned (.int .i64 r) ∧ Below w.heap.size w w' := by
 have hu28 := Tryz.underlying28
 have HR0_2 := Sd.mk hr0_2
 have HC0_2 := Sd.mk hc0_2
 clear hr0_2 hc0_2
 have HR0_3 := Sd.mk hr0_3
 have HC0_3 := Sd.mk hc0_3
 clear hr0_3 hc0_3
 have HB := Sd.mk (Below.refl w.heap.size w)
 have H : (if a0_0 < 0 then (r20_Check.j0 k true a0_0 a0_1 l0_2 l0_3 a0_4 a0_5) else (if a0_0 > 1099511627776 then (r20_Check.j0 k true a0_0 a0_1 l0_2 l0_3 a0_4 a0_5) else ((r20_word.f k a0_1 64).bind fun t314 => (if t314 = true then (if (l0_2.length : Int) > 64 then (r20_Check.j0 k true a0_0 a0_1 l0_2 l0_3 a0_4 a0_5) else (r20_Check.j0 k (decide ((l0_3.length : Int) > 64)) a0_0 a0_1 l0_2 l0_3 a0_4 a0_5)) else (r20_Check.j0 k true a0_0 a0_1 l0_2 l0_3 a0_4 a0_5))))) = some r := h
 clear h
 have HC2 := Sd.mk H
 clear H
 go_enter Tryz.func27, Tryz.ntmps27
 go_upto_region 1 with (((with_reducible refine gate_dst (N := 1) rfl ?_); (try (refine gate_guard (by rfl) ?_; dsimp only)); refine box_event ?hg (N := 1) ?hd (cs := #[.int .i64 a0_0, .string a0_1, .slice A0_2 l0_2.length c0_2, .slice A0_3 l0_3.length c0_3, .string a0_4, .string a0_5]) (t := 28) ?hr ?_; (case hd => rfl); (case hg => rfl); (case hr => (go_simp; done)); intro gb313 hg w3 hbox hb; have n0_ := Sd.mk (below_step (by repeat ((with_reducible (exact HB.out)))) hb); have n1_ := Sd.mk (hbox); have n2_ := Sd.mk ((by rw [hg]; exact (below_size (by repeat ((with_reducible (exact HB.out))))) : w.heap.size ≤ gb313)); have n3_ := Sd.mk ((by rw [hg]; exact (below_size (by repeat ((with_reducible (exact HB.out))))) : w.heap.size ≤ gb313)); clear HB; have HB := n0_; have BK313 := n1_; have GW313 := n2_; have GE313 := n3_; clear n0_ n1_ n2_ n3_; clear hb hbox hg))
 (try simp only [Act.put, List.setIfInBounds_toArray, List.set_cons_zero, List.set_cons_succ])
 go_cut [30] (fun v30 wc => ∃ (kq : Nat) (x30_1 : Bool), v30 = .bool x30_1 ∧ Sd (r20_Check.j0 kq x30_1 a0_0 a0_1 l0_2 l0_3 a0_4 a0_5 = some r) ∧ Sd (kq ≤ k) ∧ Sd (wc.heap[gb313]? = some (.cells #[.int .i64 a0_0, .string a0_1, (.slice A0_2 l0_2.length c0_2), (.slice A0_3 l0_3.length c0_3), .string a0_4, .string a0_5] 28 (0, 0))) ∧ Sd (Below w.heap.size w wc))
 case first =>
  have H := HC2.out
  clear HC2
  by_cases c4 : a0_0 < 0
  ·rw [if_pos c4] at H
   have c4b0 : decide (a0_0 < 0) = true := decide_eq_true c4
   clear c4
   ((skip))
   have H' := Sd.mk H
   clear H
   obtain ⟨hcz5_0, hcz5_1, hcz5_2, hcz5_3, hcz5_4, hcz5_5⟩ := bc6 BK313.out
   obtain ⟨hfz5_0, hfz5_1, hfz5_2, hfz5_3, hfz5_4, hfz5_5⟩ := bf6 BK313.out
   go_wp2
   go_meet
   case rel => exact ⟨_, (true), (by (rfl)), H', ⟨by (omega)⟩, ⟨by (with_reducible repeat (fail)); exact BK313.out⟩, ⟨by repeat ((with_reducible (exact HB.out)))⟩⟩
  ·rw [if_neg c4] at H
   have c4b0 : decide (a0_0 < 0) = false := decide_eq_false c4
   clear c4
   ((skip))
   by_cases c6 : a0_0 > 1099511627776
   ·rw [if_pos c6] at H
    have c6b0 : decide (1099511627776 < a0_0) = true := decide_eq_true c6
    clear c6
    have H' := Sd.mk H
    clear H
    obtain ⟨hcz7_0, hcz7_1, hcz7_2, hcz7_3, hcz7_4, hcz7_5⟩ := bc6 BK313.out
    obtain ⟨hfz7_0, hfz7_1, hfz7_2, hfz7_3, hfz7_4, hfz7_5⟩ := bf6 BK313.out
    go_wp2
    go_meet
    case rel => exact ⟨_, (true), (by (rfl)), H', ⟨by (omega)⟩, ⟨by (with_reducible repeat (fail)); exact BK313.out⟩, ⟨by repeat ((with_reducible (exact HB.out)))⟩⟩
   ·rw [if_neg c6] at H
    have c6b0 : decide (1099511627776 < a0_0) = false := decide_eq_false c6
    clear c6
    replace H := Option.bind_eq_some_iff.mp H
    obtain ⟨t314, A80, H⟩ := H
    replace H : (if t314 = true then (if (l0_2.length : Int) > 64 then (r20_Check.j0 k true a0_0 a0_1 l0_2 l0_3 a0_4 a0_5) else (r20_Check.j0 k (decide ((l0_3.length : Int) > 64)) a0_0 a0_1 l0_2 l0_3 a0_4 a0_5)) else (r20_Check.j0 k true a0_0 a0_1 l0_2 l0_3 a0_4 a0_5)) = some r := H
    have A8 := Sd.mk A80
    clear A80
    by_cases c9 : t314 = true
    ·subst c9
     have H1 : (if (l0_2.length : Int) > 64 then (r20_Check.j0 k true a0_0 a0_1 l0_2 l0_3 a0_4 a0_5) else (r20_Check.j0 k (decide ((l0_3.length : Int) > 64)) a0_0 a0_1 l0_2 l0_3 a0_4 a0_5)) = some r := by rw [if_pos rfl] at H; exact H
     clear H
     have H := H1
     clear H1
     by_cases c10 : (l0_2.length : Int) > 64
     ·rw [if_pos c10] at H
      have c10b0 : decide (64 < (l0_2.length : Int)) = true := decide_eq_true c10
      have c10b1 : decide (64 < l0_2.length) = true := decide_eq_true (by omega)
      clear c10
      have H' := Sd.mk H
      clear H
      obtain ⟨hcz11_0, hcz11_1, hcz11_2, hcz11_3, hcz11_4, hcz11_5⟩ := bc6 BK313.out
      obtain ⟨hfz11_0, hfz11_1, hfz11_2, hfz11_3, hfz11_4, hfz11_5⟩ := bf6 BK313.out
      go_wp2_with ((go_at_call 57; (with_reducible refine (r20_word.calls k a0_1 64 true _ A8.out).mono ?_); rintro e w' ⟨rfl, ⟨nd, rfl⟩⟩))
      go_meet
      case rel => exact ⟨_, (true), (by (rfl)), H', ⟨by (omega)⟩, ⟨by (with_reducible repeat ((refine blk_drewN ?_ _))); exact BK313.out⟩, ⟨by repeat ((with_reducible first | exact HB.out | apply pw_below_drewN))⟩⟩
     ·rw [if_neg c10] at H
      have c10b0 : decide (64 < (l0_2.length : Int)) = false := decide_eq_false c10
      have c10b1 : decide (64 < l0_2.length) = false := decide_eq_false (by omega)
      clear c10
      have H' := Sd.mk H
      clear H
      obtain ⟨hcz12_0, hcz12_1, hcz12_2, hcz12_3, hcz12_4, hcz12_5⟩ := bc6 BK313.out
      obtain ⟨hfz12_0, hfz12_1, hfz12_2, hfz12_3, hfz12_4, hfz12_5⟩ := bf6 BK313.out
      go_wp2_with ((go_at_call 57; (with_reducible refine (r20_word.calls k a0_1 64 true _ A8.out).mono ?_); rintro e w' ⟨rfl, ⟨nd, rfl⟩⟩))
      go_meet
      case rel => exact ⟨_, (decide ((l0_3.length : Int) > 64)), (by (rfl)), H', ⟨by (omega)⟩, ⟨by (with_reducible repeat ((refine blk_drewN ?_ _))); exact BK313.out⟩, ⟨by repeat ((with_reducible first | exact HB.out | apply pw_below_drewN))⟩⟩
    ·replace c9 := Bool.eq_false_iff.mpr c9
     subst c9
     have H1 : (r20_Check.j0 k true a0_0 a0_1 l0_2 l0_3 a0_4 a0_5) = some r := by rw [if_neg (show ¬ (false = true) by decide)] at H; exact H
     clear H
     have H := H1
     clear H1
     have H' := Sd.mk H
     clear H
     obtain ⟨hcz13_0, hcz13_1, hcz13_2, hcz13_3, hcz13_4, hcz13_5⟩ := bc6 BK313.out
     obtain ⟨hfz13_0, hfz13_1, hfz13_2, hfz13_3, hfz13_4, hfz13_5⟩ := bf6 BK313.out
     go_wp2_with ((go_at_call 57; (with_reducible refine (r20_word.calls k a0_1 64 false _ A8.out).mono ?_); rintro e w' ⟨rfl, ⟨nd, rfl⟩⟩))
     go_meet
     case rel => exact ⟨_, (true), (by (rfl)), H', ⟨by (omega)⟩, ⟨by (with_reducible repeat ((refine blk_drewN ?_ _))); exact BK313.out⟩, ⟨by repeat ((with_reducible first | exact HB.out | apply pw_below_drewN))⟩⟩
 case rest =>
  clear HC2
  try clear c1
  try clear c2
  try clear p2
  try clear c4
  try clear c4b0
  try clear c6
  try clear c6b0
  try clear c9
  try clear c10
  try clear c10b0
  try clear c10b1
  try clear hcz11_0
  try clear hcz11_1
  try clear hcz11_2
  try clear hcz11_3
  try clear hcz11_4
  try clear hcz11_5
  try clear hcz12_0
  try clear hcz12_1
  try clear hcz12_2
  try clear hcz12_3
  try clear hcz12_4
  try clear hcz12_5
  try clear hcz13_0
  try clear hcz13_1
  try clear hcz13_2
  try clear hcz13_3
  try clear hcz13_4
  try clear hcz13_5
  try clear hcz5_0
  try clear hcz5_1
  try clear hcz5_2
  try clear hcz5_3
  try clear hcz5_4
  try clear hcz5_5
  try clear hcz7_0
  try clear hcz7_1
  try clear hcz7_2
  try clear hcz7_3
  try clear hcz7_4
  try clear hcz7_5
  try clear hfz11_0
  try clear hfz11_1
  try clear hfz11_2
  try clear hfz11_3
  try clear hfz11_4
  try clear hfz11_5
  try clear hfz12_0
  try clear hfz12_1
  try clear hfz12_2
  try clear hfz12_3
  try clear hfz12_4
  try clear hfz12_5
  try clear hfz13_0
  try clear hfz13_1
  try clear hfz13_2
  try clear hfz13_3
  try clear hfz13_4
  try clear hfz13_5
  try clear hfz5_0
  try clear hfz5_1
  try clear hfz5_2
  try clear hfz5_3
  try clear hfz5_4
  try clear hfz5_5
  try clear hfz7_0
  try clear hfz7_1
  try clear hfz7_2
  try clear hfz7_3
  try clear hfz7_4
  try clear hfz7_5
  obtain ⟨kq, x30_1, rfl, HA, HJ1, BK313, HB⟩ := hcut
  cases kq with
  | zero => exact absurd HA.out (by simp [r20_Check.j0])
  | succ kj1 =>
   have H := HA.out
   clear HA
   simp only [r20_Check.j0] at H
   by_cases c14 : x30_1 = true
   ·subst c14
    have H1 : (some 200) = some r := by rw [if_pos rfl] at H; exact H
    clear H
    have H := H1
    clear H1
    obtain rfl := Option.some.inj H
    go_wp2
    go_ret
    exact ⟨by (rfl), by repeat ((with_reducible (exact HB.out)))⟩
   ·replace c14 := Bool.eq_false_iff.mpr c14
    subst c14
    have H1 : (r20_Check.l0 kj1 0 a0_0 a0_1 l0_2 l0_3 a0_4 a0_5) = some r := by rw [if_neg (show ¬ (false = true) by decide)] at H; exact H
    clear H
    have H := H1
    clear H1
    have H' := Sd.mk H
    clear H
    go_wp2
    go_loopg [3] kj1 (fun kq v3 w' => ∃ (x3_2 : Int), v3 = .int .i64 x3_2 ∧ Sd (r20_Check.l0 kq x3_2 a0_0 a0_1 l0_2 l0_3 a0_4 a0_5 = some r) ∧ Sd (kq ≤ kj1) ∧ Sd (w'.heap[gb313]? = some (.cells #[.int .i64 a0_0, .string a0_1, (.slice A0_2 l0_2.length c0_2), (.slice A0_3 l0_3.length c0_3), .string a0_4, .string a0_5] 28 (0, 0))) ∧ Sd (Below w.heap.size w w'))
    case atStart => exact ⟨(0), (by (rfl)), H', ⟨Nat.le_refl _⟩, ⟨by (with_reducible repeat (fail)); exact BK313.out⟩, ⟨by repeat ((with_reducible (exact HB.out)))⟩⟩
    case round =>
     clear H'
     try clear c1
     try clear c2
     try clear p2
     try clear c4
     try clear c4b0
     try clear c6
     try clear c6b0
     try clear c9
     try clear c10
     try clear c10b0
     try clear c10b1
     try clear c14
     try clear hcz11_0
     try clear hcz11_1
     try clear hcz11_2
     try clear hcz11_3
     try clear hcz11_4
     try clear hcz11_5
     try clear hcz12_0
     try clear hcz12_1
     try clear hcz12_2
     try clear hcz12_3
     try clear hcz12_4
     try clear hcz12_5
     try clear hcz13_0
     try clear hcz13_1
     try clear hcz13_2
     try clear hcz13_3
     try clear hcz13_4
     try clear hcz13_5
     try clear hcz5_0
     try clear hcz5_1
     try clear hcz5_2
     try clear hcz5_3
     try clear hcz5_4
     try clear hcz5_5
     try clear hcz7_0
     try clear hcz7_1
     try clear hcz7_2
     try clear hcz7_3
     try clear hcz7_4
     try clear hcz7_5
     try clear hfz11_0
     try clear hfz11_1
     try clear hfz11_2
     try clear hfz11_3
     try clear hfz11_4
     try clear hfz11_5
     try clear hfz12_0
     try clear hfz12_1
     try clear hfz12_2
     try clear hfz12_3
     try clear hfz12_4
     try clear hfz12_5
     try clear hfz13_0
     try clear hfz13_1
     try clear hfz13_2
     try clear hfz13_3
     try clear hfz13_4
     try clear hfz13_5
     try clear hfz5_0
     try clear hfz5_1
     try clear hfz5_2
     try clear hfz5_3
     try clear hfz5_4
     try clear hfz5_5
     try clear hfz7_0
     try clear hfz7_1
     try clear hfz7_2
     try clear hfz7_3
     try clear hfz7_4
     try clear hfz7_5
     try clear p2
     obtain ⟨x3_2, rfl, HA, HK2, BK313, HB⟩ := hrel
     cases gk with
     | zero => exact absurd HA.out (by simp [r20_Check.l0])
     | succ k2 =>
      have H := HA.out
      clear HA
      simp only [r20_Check.l0] at H
      by_cases c15 : x3_2 < (l0_2.length : Int)
      ·rw [if_pos c15] at H
       have c15b0 : decide (x3_2 < (l0_2.length : Int)) = true := decide_eq_true c15
       clear c15
       by_cases c16 : 0 ≤ x3_2
       ·rw [if_pos c16] at H
        have c16b0 : decide (0 ≤ x3_2) = true := decide_eq_true c16
        clear c16
        replace H := Option.bind_eq_some_iff.mp H
        obtain ⟨t316, A170, H⟩ := H
        replace H : (if t316 = true then (if x3_2 > 0 then (if 0 ≤ (wrap64 (x3_2 - 1)) then (if (wrap64 (x3_2 - 1)) < (l0_2.length : Int) then ((r17_Less.f k2 (rdOf ByteArray.empty l0_2 (wrap64 (x3_2 - 1))) (rdOf ByteArray.empty l0_2 x3_2)).bind fun t319 => (if t319 = true then (r20_Check.l0 k2 (wrap64 (x3_2 + 1)) a0_0 a0_1 l0_2 l0_3 a0_4 a0_5) else (some 200))) else (none)) else (none)) else (r20_Check.l0 k2 (wrap64 (x3_2 + 1)) a0_0 a0_1 l0_2 l0_3 a0_4 a0_5)) else (some 200)) = some r := H
        have A17 := Sd.mk A170
        clear A170
        by_cases c18 : t316 = true
        ·subst c18
         have H1 : (if x3_2 > 0 then (if 0 ≤ (wrap64 (x3_2 - 1)) then (if (wrap64 (x3_2 - 1)) < (l0_2.length : Int) then ((r17_Less.f k2 (rdOf ByteArray.empty l0_2 (wrap64 (x3_2 - 1))) (rdOf ByteArray.empty l0_2 x3_2)).bind fun t319 => (if t319 = true then (r20_Check.l0 k2 (wrap64 (x3_2 + 1)) a0_0 a0_1 l0_2 l0_3 a0_4 a0_5) else (some 200))) else (none)) else (none)) else (r20_Check.l0 k2 (wrap64 (x3_2 + 1)) a0_0 a0_1 l0_2 l0_3 a0_4 a0_5)) = some r := by rw [if_pos rfl] at H; exact H
         clear H
         have H := H1
         clear H1
         by_cases c19 : x3_2 > 0
         ·rw [if_pos c19] at H
          have c19b0 : decide (0 < x3_2) = true := decide_eq_true c19
          clear c19
          obtain ⟨ji20, hji20⟩ : ∃ j_ : Int, (wrap64 (x3_2 - 1)) = j_ := ⟨_, rfl⟩
          replace H : (if 0 ≤ (ji20) then (if (ji20) < (l0_2.length : Int) then ((r17_Less.f k2 (rdOf ByteArray.empty l0_2 (ji20)) (rdOf ByteArray.empty l0_2 x3_2)).bind fun t319 => (if t319 = true then (r20_Check.l0 k2 (wrap64 (x3_2 + 1)) a0_0 a0_1 l0_2 l0_3 a0_4 a0_5) else (some 200))) else (none)) else (none)) = some r := by (rw [hji20] at H; exact H)
          (try rw [hji20] at A17)
          have hji20w : (IntKind.i64.wrap (x3_2 - 1)) = ji20 := (i64_w _).trans hji20
          by_cases c21 : 0 ≤ (ji20)
          ·rw [if_pos c21] at H
           have c21b0 : decide (0 ≤ (ji20)) = true := decide_eq_true c21
           clear c21
           by_cases c22 : (ji20) < (l0_2.length : Int)
           ·rw [if_pos c22] at H
            have c22b0 : decide ((ji20) < (l0_2.length : Int)) = true := decide_eq_true c22
            clear c22
            replace H := Option.bind_eq_some_iff.mp H
            obtain ⟨t319, A230, H⟩ := H
            replace H : (if t319 = true then (r20_Check.l0 k2 (wrap64 (x3_2 + 1)) a0_0 a0_1 l0_2 l0_3 a0_4 a0_5) else (some 200)) = some r := H
            have A23 := Sd.mk A230
            clear A230
            by_cases c24 : t319 = true
            ·subst c24
             have H1 : (r20_Check.l0 k2 (wrap64 (x3_2 + 1)) a0_0 a0_1 l0_2 l0_3 a0_4 a0_5) = some r := by rw [if_pos rfl] at H; exact H
             clear H
             have H := H1
             clear H1
             have H' := Sd.mk H
             clear H
             obtain ⟨hcz25_0, hcz25_1, hcz25_2, hcz25_3, hcz25_4, hcz25_5⟩ := bc6 BK313.out
             obtain ⟨hfz25_0, hfz25_1, hfz25_2, hfz25_3, hfz25_4, hfz25_5⟩ := bf6 BK313.out
             try go_wp2
             have n0_ := Sd.mk (blk_drew BK313.out)
             have n1_ := Sd.mk (below_drew1 HB.out)
             clear BK313
             clear HB
             have BK313 := n0_
             have HB := n1_
             clear n0_ n1_
             have p315 : 0 ≤ (x3_2 : Int) := odt (by (with_reducible assumption))
             have q315 : x3_2 < (l0_2.length : Int) := odt (by (with_reducible assumption))
             obtain ⟨ad315, e315, hx315_0⟩ := Kd.at_string HR0_2.out x3_2 p315 q315
             have hw315_0 := hx315_0
             cases e315
             replace hx315_0 := (cb HB.out hx315_0 :)
             replace p315 := eq_true p315
             replace q315 := eq_true q315
             have p317 : 0 ≤ ((ji20) : Int) := odt (by (with_reducible assumption))
             have q317 : (ji20) < (l0_2.length : Int) := odt (by (with_reducible assumption))
             obtain ⟨ad317, e317, hx317_0⟩ := Kd.at_string HR0_2.out (ji20) p317 q317
             have hw317_0 := hx317_0
             obtain rfl : ad315 = ad317 := (by injection e317)
             replace hx317_0 := (cb HB.out hx317_0 :)
             replace p317 := eq_true p317
             replace q317 := eq_true q317
             have p318 : 0 ≤ (x3_2 : Int) := odt (by (with_reducible assumption))
             have q318 : x3_2 < (l0_2.length : Int) := odt (by (with_reducible assumption))
             obtain ⟨ad318, e318, hx318_0⟩ := Kd.at_string HR0_2.out x3_2 p318 q318
             have hw318_0 := hx318_0
             obtain rfl : ad315 = ad318 := (by injection e318)
             replace hx318_0 := (cb HB.out hx318_0 :)
             replace p318 := eq_true p318
             replace q318 := eq_true q318
             refine start_ (n := 26) (S := fun w' => w'.cell? ⟨gb313, 0, none⟩ = some (.int .i64 a0_0) ∧ w'.cell? ⟨gb313, 1, none⟩ = some (.string a0_1) ∧ w'.cell? ⟨gb313, 2, none⟩ = some (.slice (some ad315) l0_2.length c0_2) ∧ w'.cell? ⟨gb313, 3, none⟩ = some (.slice A0_3 l0_3.length c0_3) ∧ w'.cell? ⟨gb313, 4, none⟩ = some (.string a0_4) ∧ w'.cell? ⟨gb313, 5, none⟩ = some (.string a0_5) ∧ w'.cell? (ad315.add (x3_2).toNat) = some (.string (rdOf ByteArray.empty l0_2 x3_2)) ∧ w'.cell? (ad315.add ((ji20)).toNat) = some (.string (rdOf ByteArray.empty l0_2 (ji20))) ∧ w'.cell? (ad315.add (x3_2).toNat) = some (.string (rdOf ByteArray.empty l0_2 x3_2))) (ds := []) (bz 26 0) (by kernel_rfl) rfl rfl (ba6 BK313.out ⟨(cb HB.out hw315_0 :), (cb HB.out hw317_0 :), (cb HB.out hw318_0 :)⟩) (fun hHeld => ?_); refine with_tabW r20_Check.tab6 r20_Check.bits6 (fun HT_ HW_ => ?_)
             generalize wr.drew = w26 at BK313 HB hx315_0 hx317_0 hx318_0 hHeld ⊢
             refine pu_ 0 38 (bz 26 1) (any_of HT_.out (by kernel_rfl)) ?_
             refine pu_ 2 40 (bz 26 5) (any_of HT_.out (by kernel_rfl)) ?_
             refine ta_ 1 39 (bz 26 7) (take_ofW HT_.out HW_.out (by kernel_rfl)) hHeld ?_
             refine pu_ 3 41 (bz 26 15) (any_of HT_.out (by kernel_rfl)) ?_
             refine ta_ 4 42 (bz 26 31) (take_ofW HT_.out HW_.out (by kernel_rfl)) hHeld ?_
             refine one_ (i := 5) (N := some 43) (bz 26 63) rfl rfl (one_of HT_.out (by kernel_rfl)) (by decide) (fun K hK => ?_)
             refine goes_ Tryz.func58 (by kernel_rfl) rfl #[.string (rdOf ByteArray.empty l0_2 x3_2)] (by rfl) rfl rfl (by (try simp only [List.map_toArray, List.map_cons, List.map_nil]); (rfl)) ?_
             with_reducible refine (r17_Is.calls k2 (rdOf ByteArray.empty l0_2 x3_2) true _ A17.out).mono ?_
             rintro e w27 ⟨rfl, hb⟩
             refine ⟨_, rfl, ?_⟩
             have n0_ := Sd.mk (blk_below (g := gb313) (o := .cells #[.int .i64 a0_0, .string a0_1, .slice (some ad315) l0_2.length c0_2, .slice A0_3 l0_3.length c0_3, .string a0_4, .string a0_5] 28 (0, 0)) (by (with_reducible repeat (fail)); exact BK313.out) hb)
             have n1_ := Sd.mk (below_step (by repeat ((with_reducible (exact HB.out)))) hb)
             clear BK313
             clear HB
             have BK313 := n0_
             have HB := n1_
             clear n0_ n1_
             (try clear hb)
             (try clear hb2)
             (try clear hk)
             (try clear hi)
             refine hK.out _ _ (ba6 BK313.out ⟨(cb HB.out hw315_0 :), (cb HB.out hw317_0 :), (cb HB.out hw318_0 :)⟩) (fun hHeld => ?_)
             clear hK K
             refine norm_ (a' := ?_) ?_ ?_
             rotate_left
             ·show Act.put _ (some 43) _ = _
              simp only [Act.put, List.setIfInBounds_toArray, List.set_cons_zero, List.set_cons_succ, i64_w, i32_w]
              rfl
             refine pu_ 6 44 (bz 26 127) (any_of HT_.out (by kernel_rfl)) ?_
             refine pu_ 7 45 (bz 26 255) (any_of HT_.out (by kernel_rfl)) ?_
             refine pu_ 8 46 (bz 26 511) (any_of HT_.out (by kernel_rfl)) ?_
             refine pu_ 9 47 (bz 26 1023) (any_of HT_.out (by kernel_rfl)) ?_
             refine pu_ 10 48 (bz 26 2047) (any_of HT_.out (by kernel_rfl)) ?_
             refine pu_ 11 49 (bz 26 4095) (any_of HT_.out (by kernel_rfl)) ?_
             refine pu_ 13 51 (bz 26 12287) (any_of HT_.out (by kernel_rfl)) ?_
             refine pu_ 14 52 (bz 26 28671) (any_of HT_.out (by kernel_rfl)) ?_
             refine pu_ 17 55 (bz 26 159743) (any_of HT_.out (by kernel_rfl)) ?_
             refine pu_ 19 57 (bz 26 684031) (any_of HT_.out (by kernel_rfl)) ?_
             refine ta_ 12 50 (bz 26 688127) (take_ofW HT_.out HW_.out (by kernel_rfl)) hHeld ?_
             refine pu_ 15 53 (bz 26 720895) (any_of HT_.out (by kernel_rfl)) ?_
             refine ta_ 16 54 (bz 26 786431) (take_ofW HT_.out HW_.out (by kernel_rfl)) hHeld ?_
             refine ta_ 18 56 (bz 26 1048575) (take_ofW HT_.out HW_.out (by kernel_rfl)) hHeld ?_
             refine pu_ 20 58 (bz 26 2097151) (any_of HT_.out (by kernel_rfl)) ?_
             refine ta_ 21 59 (bz 26 4194303) (take_ofW HT_.out HW_.out (by kernel_rfl)) hHeld ?_
             refine one_ (i := 22) (N := some 60) (bz 26 8388607) rfl rfl (one_of HT_.out (by kernel_rfl)) (by decide) (fun K hK => ?_)
             refine goes_ Tryz.func59 (by kernel_rfl) rfl #[.string (rdOf ByteArray.empty l0_2 (ji20)), .string (rdOf ByteArray.empty l0_2 x3_2)] (by rfl) rfl rfl (by (try simp only [List.map_toArray, List.map_cons, List.map_nil]); (rfl)) ?_
             with_reducible refine (r17_Less.calls k2 (rdOf ByteArray.empty l0_2 (ji20)) (rdOf ByteArray.empty l0_2 x3_2) true _ A23.out).mono ?_
             rintro e w28 ⟨rfl, hb⟩
             refine ⟨_, rfl, ?_⟩
             have n0_ := Sd.mk (blk_below (g := gb313) (o := .cells #[.int .i64 a0_0, .string a0_1, .slice (some ad315) l0_2.length c0_2, .slice A0_3 l0_3.length c0_3, .string a0_4, .string a0_5] 28 (0, 0)) (by (with_reducible repeat (fail)); exact BK313.out) hb)
             have n1_ := Sd.mk (below_step (by repeat ((with_reducible (exact HB.out)))) hb)
             clear BK313
             clear HB
             have BK313 := n0_
             have HB := n1_
             clear n0_ n1_
             (try clear hb)
             (try clear hb2)
             (try clear hk)
             (try clear hi)
             refine hK.out _ _ (ba6 BK313.out ⟨(cb HB.out hw315_0 :), (cb HB.out hw317_0 :), (cb HB.out hw318_0 :)⟩) (fun hHeld => ?_)
             clear hK K
             refine norm_ (a' := ?_) ?_ ?_
             rotate_left
             ·show Act.put _ (some 60) _ = _
              simp only [Act.put, List.setIfInBounds_toArray, List.set_cons_zero, List.set_cons_succ, i64_w, i32_w]
              rfl
             refine pu_ 23 61 (bz 26 16777215) (any_of HT_.out (by kernel_rfl)) ?_
             refine pu_ 24 62 (bz 26 33554431) (any_of HT_.out (by kernel_rfl)) ?_
             refine pu_ 25 63 (bz 26 67108863) (any_of HT_.out (by kernel_rfl)) ?_
             refine done_ (done_of HT_.out (by kernel_rfl)) ?_
             (try simp only [wrap64_u8w, wrap64_m256])
             try go_wp2
             go_roundg k2
             case measure => have := HJ1.out; have := HK2.out; omega
             case rel => exact ⟨(wrap64 (x3_2 + 1)), (by (rfl)), H', ⟨by have := HJ1.out; have := HK2.out; omega⟩, ⟨by (with_reducible repeat (fail)); exact BK313.out⟩, ⟨by repeat ((with_reducible (exact HB.out)))⟩⟩
            ·replace c24 := Bool.eq_false_iff.mpr c24
             subst c24
             have H1 : (some 200) = some r := by rw [if_neg (show ¬ (false = true) by decide)] at H; exact H
             clear H
             have H := H1
             clear H1
             obtain rfl := Option.some.inj H
             obtain ⟨hcz29_0, hcz29_1, hcz29_2, hcz29_3, hcz29_4, hcz29_5⟩ := bc6 BK313.out
             obtain ⟨hfz29_0, hfz29_1, hfz29_2, hfz29_3, hfz29_4, hfz29_5⟩ := bf6 BK313.out
             try go_wp2
             have n0_ := Sd.mk (blk_drew BK313.out)
             have n1_ := Sd.mk (below_drew1 HB.out)
             clear BK313
             clear HB
             have BK313 := n0_
             have HB := n1_
             clear n0_ n1_
             have p315 : 0 ≤ (x3_2 : Int) := odt (by (with_reducible assumption))
             have q315 : x3_2 < (l0_2.length : Int) := odt (by (with_reducible assumption))
             obtain ⟨ad315, e315, hx315_0⟩ := Kd.at_string HR0_2.out x3_2 p315 q315
             have hw315_0 := hx315_0
             cases e315
             replace hx315_0 := (cb HB.out hx315_0 :)
             replace p315 := eq_true p315
             replace q315 := eq_true q315
             have p317 : 0 ≤ ((ji20) : Int) := odt (by (with_reducible assumption))
             have q317 : (ji20) < (l0_2.length : Int) := odt (by (with_reducible assumption))
             obtain ⟨ad317, e317, hx317_0⟩ := Kd.at_string HR0_2.out (ji20) p317 q317
             have hw317_0 := hx317_0
             obtain rfl : ad315 = ad317 := (by injection e317)
             replace hx317_0 := (cb HB.out hx317_0 :)
             replace p317 := eq_true p317
             replace q317 := eq_true q317
             have p318 : 0 ≤ (x3_2 : Int) := odt (by (with_reducible assumption))
             have q318 : x3_2 < (l0_2.length : Int) := odt (by (with_reducible assumption))
             obtain ⟨ad318, e318, hx318_0⟩ := Kd.at_string HR0_2.out x3_2 p318 q318
             have hw318_0 := hx318_0
             obtain rfl : ad315 = ad318 := (by injection e318)
             replace hx318_0 := (cb HB.out hx318_0 :)
             replace p318 := eq_true p318
             replace q318 := eq_true q318
             refine start_ (n := 26) (S := fun w' => w'.cell? ⟨gb313, 0, none⟩ = some (.int .i64 a0_0) ∧ w'.cell? ⟨gb313, 1, none⟩ = some (.string a0_1) ∧ w'.cell? ⟨gb313, 2, none⟩ = some (.slice (some ad315) l0_2.length c0_2) ∧ w'.cell? ⟨gb313, 3, none⟩ = some (.slice A0_3 l0_3.length c0_3) ∧ w'.cell? ⟨gb313, 4, none⟩ = some (.string a0_4) ∧ w'.cell? ⟨gb313, 5, none⟩ = some (.string a0_5) ∧ w'.cell? (ad315.add (x3_2).toNat) = some (.string (rdOf ByteArray.empty l0_2 x3_2)) ∧ w'.cell? (ad315.add ((ji20)).toNat) = some (.string (rdOf ByteArray.empty l0_2 (ji20))) ∧ w'.cell? (ad315.add (x3_2).toNat) = some (.string (rdOf ByteArray.empty l0_2 x3_2))) (ds := []) (bz 26 0) (by kernel_rfl) rfl rfl (ba6 BK313.out ⟨(cb HB.out hw315_0 :), (cb HB.out hw317_0 :), (cb HB.out hw318_0 :)⟩) (fun hHeld => ?_); refine with_tabW r20_Check.tab6 r20_Check.bits6 (fun HT_ HW_ => ?_)
             generalize wr.drew = w30 at BK313 HB hx315_0 hx317_0 hx318_0 hHeld ⊢
             refine pu_ 0 38 (bz 26 1) (any_of HT_.out (by kernel_rfl)) ?_
             refine pu_ 2 40 (bz 26 5) (any_of HT_.out (by kernel_rfl)) ?_
             refine ta_ 1 39 (bz 26 7) (take_ofW HT_.out HW_.out (by kernel_rfl)) hHeld ?_
             refine pu_ 3 41 (bz 26 15) (any_of HT_.out (by kernel_rfl)) ?_
             refine ta_ 4 42 (bz 26 31) (take_ofW HT_.out HW_.out (by kernel_rfl)) hHeld ?_
             refine one_ (i := 5) (N := some 43) (bz 26 63) rfl rfl (one_of HT_.out (by kernel_rfl)) (by decide) (fun K hK => ?_)
             refine goes_ Tryz.func58 (by kernel_rfl) rfl #[.string (rdOf ByteArray.empty l0_2 x3_2)] (by rfl) rfl rfl (by (try simp only [List.map_toArray, List.map_cons, List.map_nil]); (rfl)) ?_
             with_reducible refine (r17_Is.calls k2 (rdOf ByteArray.empty l0_2 x3_2) true _ A17.out).mono ?_
             rintro e w31 ⟨rfl, hb⟩
             refine ⟨_, rfl, ?_⟩
             have n0_ := Sd.mk (blk_below (g := gb313) (o := .cells #[.int .i64 a0_0, .string a0_1, .slice (some ad315) l0_2.length c0_2, .slice A0_3 l0_3.length c0_3, .string a0_4, .string a0_5] 28 (0, 0)) (by (with_reducible repeat (fail)); exact BK313.out) hb)
             have n1_ := Sd.mk (below_step (by repeat ((with_reducible (exact HB.out)))) hb)
             clear BK313
             clear HB
             have BK313 := n0_
             have HB := n1_
             clear n0_ n1_
             (try clear hb)
             (try clear hb2)
             (try clear hk)
             (try clear hi)
             refine hK.out _ _ (ba6 BK313.out ⟨(cb HB.out hw315_0 :), (cb HB.out hw317_0 :), (cb HB.out hw318_0 :)⟩) (fun hHeld => ?_)
             clear hK K
             refine norm_ (a' := ?_) ?_ ?_
             rotate_left
             ·show Act.put _ (some 43) _ = _
              simp only [Act.put, List.setIfInBounds_toArray, List.set_cons_zero, List.set_cons_succ, i64_w, i32_w]
              rfl
             refine pu_ 6 44 (bz 26 127) (any_of HT_.out (by kernel_rfl)) ?_
             refine pu_ 7 45 (bz 26 255) (any_of HT_.out (by kernel_rfl)) ?_
             refine pu_ 8 46 (bz 26 511) (any_of HT_.out (by kernel_rfl)) ?_
             refine pu_ 9 47 (bz 26 1023) (any_of HT_.out (by kernel_rfl)) ?_
             refine pu_ 10 48 (bz 26 2047) (any_of HT_.out (by kernel_rfl)) ?_
             refine pu_ 11 49 (bz 26 4095) (any_of HT_.out (by kernel_rfl)) ?_
             refine pu_ 13 51 (bz 26 12287) (any_of HT_.out (by kernel_rfl)) ?_
             refine pu_ 14 52 (bz 26 28671) (any_of HT_.out (by kernel_rfl)) ?_
             refine pu_ 17 55 (bz 26 159743) (any_of HT_.out (by kernel_rfl)) ?_
             refine pu_ 19 57 (bz 26 684031) (any_of HT_.out (by kernel_rfl)) ?_
             refine ta_ 12 50 (bz 26 688127) (take_ofW HT_.out HW_.out (by kernel_rfl)) hHeld ?_
             refine pu_ 15 53 (bz 26 720895) (any_of HT_.out (by kernel_rfl)) ?_
             refine ta_ 16 54 (bz 26 786431) (take_ofW HT_.out HW_.out (by kernel_rfl)) hHeld ?_
             refine ta_ 18 56 (bz 26 1048575) (take_ofW HT_.out HW_.out (by kernel_rfl)) hHeld ?_
             refine pu_ 20 58 (bz 26 2097151) (any_of HT_.out (by kernel_rfl)) ?_
             refine ta_ 21 59 (bz 26 4194303) (take_ofW HT_.out HW_.out (by kernel_rfl)) hHeld ?_
             refine one_ (i := 22) (N := some 60) (bz 26 8388607) rfl rfl (one_of HT_.out (by kernel_rfl)) (by decide) (fun K hK => ?_)
             refine goes_ Tryz.func59 (by kernel_rfl) rfl #[.string (rdOf ByteArray.empty l0_2 (ji20)), .string (rdOf ByteArray.empty l0_2 x3_2)] (by rfl) rfl rfl (by (try simp only [List.map_toArray, List.map_cons, List.map_nil]); (rfl)) ?_
             with_reducible refine (r17_Less.calls k2 (rdOf ByteArray.empty l0_2 (ji20)) (rdOf ByteArray.empty l0_2 x3_2) false _ A23.out).mono ?_
             rintro e w32 ⟨rfl, hb⟩
             refine ⟨_, rfl, ?_⟩
             have n0_ := Sd.mk (blk_below (g := gb313) (o := .cells #[.int .i64 a0_0, .string a0_1, .slice (some ad315) l0_2.length c0_2, .slice A0_3 l0_3.length c0_3, .string a0_4, .string a0_5] 28 (0, 0)) (by (with_reducible repeat (fail)); exact BK313.out) hb)
             have n1_ := Sd.mk (below_step (by repeat ((with_reducible (exact HB.out)))) hb)
             clear BK313
             clear HB
             have BK313 := n0_
             have HB := n1_
             clear n0_ n1_
             (try clear hb)
             (try clear hb2)
             (try clear hk)
             (try clear hi)
             refine hK.out _ _ (ba6 BK313.out ⟨(cb HB.out hw315_0 :), (cb HB.out hw317_0 :), (cb HB.out hw318_0 :)⟩) (fun hHeld => ?_)
             clear hK K
             refine norm_ (a' := ?_) ?_ ?_
             rotate_left
             ·show Act.put _ (some 60) _ = _
              simp only [Act.put, List.setIfInBounds_toArray, List.set_cons_zero, List.set_cons_succ, i64_w, i32_w]
              rfl
             refine pu_ 23 61 (bz 26 16777215) (any_of HT_.out (by kernel_rfl)) ?_
             refine pu_ 24 62 (bz 26 33554431) (any_of HT_.out (by kernel_rfl)) ?_
             refine pu_ 25 63 (bz 26 67108863) (any_of HT_.out (by kernel_rfl)) ?_
             refine done_ (done_of HT_.out (by kernel_rfl)) ?_
             (try simp only [wrap64_u8w, wrap64_m256])
             try go_wp2
             go_ret
             exact ⟨by (rfl), by repeat ((with_reducible (exact HB.out)))⟩
           ·rw [if_neg c22] at H
            exact absurd H (by simp)
          ·rw [if_neg c21] at H
           exact absurd H (by simp)
         ·rw [if_neg c19] at H
          have c19b0 : decide (0 < x3_2) = false := decide_eq_false c19
          clear c19
          have H' := Sd.mk H
          clear H
          obtain ⟨hcz33_0, hcz33_1, hcz33_2, hcz33_3, hcz33_4, hcz33_5⟩ := bc6 BK313.out
          obtain ⟨hfz33_0, hfz33_1, hfz33_2, hfz33_3, hfz33_4, hfz33_5⟩ := bf6 BK313.out
          try go_wp2
          have n0_ := Sd.mk (blk_drew BK313.out)
          have n1_ := Sd.mk (below_drew1 HB.out)
          clear BK313
          clear HB
          have BK313 := n0_
          have HB := n1_
          clear n0_ n1_
          have p315 : 0 ≤ (x3_2 : Int) := odt (by (with_reducible assumption))
          have q315 : x3_2 < (l0_2.length : Int) := odt (by (with_reducible assumption))
          obtain ⟨ad315, e315, hx315_0⟩ := Kd.at_string HR0_2.out x3_2 p315 q315
          have hw315_0 := hx315_0
          cases e315
          replace hx315_0 := (cb HB.out hx315_0 :)
          replace p315 := eq_true p315
          replace q315 := eq_true q315
          refine start_ (n := 26) (S := fun w' => w'.cell? ⟨gb313, 0, none⟩ = some (.int .i64 a0_0) ∧ w'.cell? ⟨gb313, 1, none⟩ = some (.string a0_1) ∧ w'.cell? ⟨gb313, 2, none⟩ = some (.slice (some ad315) l0_2.length c0_2) ∧ w'.cell? ⟨gb313, 3, none⟩ = some (.slice A0_3 l0_3.length c0_3) ∧ w'.cell? ⟨gb313, 4, none⟩ = some (.string a0_4) ∧ w'.cell? ⟨gb313, 5, none⟩ = some (.string a0_5) ∧ w'.cell? (ad315.add (x3_2).toNat) = some (.string (rdOf ByteArray.empty l0_2 x3_2))) (ds := []) (bz 26 0) (by kernel_rfl) rfl rfl (ba6 BK313.out ((cb HB.out hw315_0 :))) (fun hHeld => ?_); refine with_tabW r20_Check.tab6 r20_Check.bits6 (fun HT_ HW_ => ?_)
          generalize wr.drew = w34 at BK313 HB hx315_0 hHeld ⊢
          refine pu_ 0 38 (bz 26 1) (any_of HT_.out (by kernel_rfl)) ?_
          refine pu_ 2 40 (bz 26 5) (any_of HT_.out (by kernel_rfl)) ?_
          refine ta_ 1 39 (bz 26 7) (take_ofW HT_.out HW_.out (by kernel_rfl)) hHeld ?_
          refine pu_ 3 41 (bz 26 15) (any_of HT_.out (by kernel_rfl)) ?_
          refine ta_ 4 42 (bz 26 31) (take_ofW HT_.out HW_.out (by kernel_rfl)) hHeld ?_
          refine one_ (i := 5) (N := some 43) (bz 26 63) rfl rfl (one_of HT_.out (by kernel_rfl)) (by decide) (fun K hK => ?_)
          refine goes_ Tryz.func58 (by kernel_rfl) rfl #[.string (rdOf ByteArray.empty l0_2 x3_2)] (by rfl) rfl rfl (by (try simp only [List.map_toArray, List.map_cons, List.map_nil]); (rfl)) ?_
          with_reducible refine (r17_Is.calls k2 (rdOf ByteArray.empty l0_2 x3_2) true _ A17.out).mono ?_
          rintro e w35 ⟨rfl, hb⟩
          refine ⟨_, rfl, ?_⟩
          have n0_ := Sd.mk (blk_below (g := gb313) (o := .cells #[.int .i64 a0_0, .string a0_1, .slice (some ad315) l0_2.length c0_2, .slice A0_3 l0_3.length c0_3, .string a0_4, .string a0_5] 28 (0, 0)) (by (with_reducible repeat (fail)); exact BK313.out) hb)
          have n1_ := Sd.mk (below_step (by repeat ((with_reducible (exact HB.out)))) hb)
          clear BK313
          clear HB
          have BK313 := n0_
          have HB := n1_
          clear n0_ n1_
          (try clear hb)
          (try clear hb2)
          (try clear hk)
          (try clear hi)
          refine hK.out _ _ (ba6 BK313.out ((cb HB.out hw315_0 :))) (fun hHeld => ?_)
          clear hK K
          refine norm_ (a' := ?_) ?_ ?_
          rotate_left
          ·show Act.put _ (some 43) _ = _
           simp only [Act.put, List.setIfInBounds_toArray, List.set_cons_zero, List.set_cons_succ, i64_w, i32_w]
           rfl
          refine pu_ 6 44 (bz 26 127) (any_of HT_.out (by kernel_rfl)) ?_
          refine pu_ 7 45 (bz 26 255) (any_of HT_.out (by kernel_rfl)) ?_
          refine pu_ 8 46 (bz 26 511) (any_of HT_.out (by kernel_rfl)) ?_
          refine pu_ 9 47 (bz 26 1023) (any_of HT_.out (by kernel_rfl)) ?_
          refine pu_ 10 48 (bz 26 2047) (any_of HT_.out (by kernel_rfl)) ?_
          refine pure_ (i := 11) (N := some 49) (v := undef) (a' := ?_) (bz 26 4095) rfl rfl (any_of HT_.out (by kernel_rfl)) (fun _ _ _ h => h) (Or.inr ⟨by rfl, rfl⟩) ?_ ?_
          rotate_left
          ·simp only [Act.put, List.setIfInBounds_toArray, List.set_cons_zero, List.set_cons_succ, i64_w, i32_w]
           rfl
          refine pure_ (i := 12) (N := some 50) (v := undef) (a' := ?_) (bz 26 8191) rfl rfl (any_of HT_.out (by kernel_rfl)) (fun _ _ _ h => h) (Or.inr ⟨by rfl, rfl⟩) ?_ ?_
          rotate_left
          ·simp only [Act.put, List.setIfInBounds_toArray, List.set_cons_zero, List.set_cons_succ, i64_w, i32_w]
           rfl
          refine pure_ (i := 13) (N := some 51) (v := undef) (a' := ?_) (bz 26 16383) rfl rfl (any_of HT_.out (by kernel_rfl)) (fun _ _ _ h => h) (Or.inr ⟨by rfl, rfl⟩) ?_ ?_
          rotate_left
          ·simp only [Act.put, List.setIfInBounds_toArray, List.set_cons_zero, List.set_cons_succ, i64_w, i32_w]
           rfl
          refine pure_ (i := 14) (N := some 52) (v := undef) (a' := ?_) (bz 26 32767) rfl rfl (any_of HT_.out (by kernel_rfl)) (fun _ _ _ h => h) (Or.inr ⟨by rfl, rfl⟩) ?_ ?_
          rotate_left
          ·simp only [Act.put, List.setIfInBounds_toArray, List.set_cons_zero, List.set_cons_succ, i64_w, i32_w]
           rfl
          refine pure_ (i := 15) (N := some 53) (v := undef) (a' := ?_) (bz 26 65535) rfl rfl (any_of HT_.out (by kernel_rfl)) (fun _ _ _ h => h) (Or.inr ⟨by rfl, rfl⟩) ?_ ?_
          rotate_left
          ·simp only [Act.put, List.setIfInBounds_toArray, List.set_cons_zero, List.set_cons_succ, i64_w, i32_w]
           rfl
          refine pure_ (i := 16) (N := some 54) (v := undef) (a' := ?_) (bz 26 131071) rfl rfl (any_of HT_.out (by kernel_rfl)) (fun _ _ _ h => h) (Or.inr ⟨by rfl, rfl⟩) ?_ ?_
          rotate_left
          ·simp only [Act.put, List.setIfInBounds_toArray, List.set_cons_zero, List.set_cons_succ, i64_w, i32_w]
           rfl
          refine pure_ (i := 17) (N := some 55) (v := undef) (a' := ?_) (bz 26 262143) rfl rfl (any_of HT_.out (by kernel_rfl)) (fun _ _ _ h => h) (Or.inr ⟨by rfl, rfl⟩) ?_ ?_
          rotate_left
          ·simp only [Act.put, List.setIfInBounds_toArray, List.set_cons_zero, List.set_cons_succ, i64_w, i32_w]
           rfl
          refine pure_ (i := 18) (N := some 56) (v := undef) (a' := ?_) (bz 26 524287) rfl rfl (any_of HT_.out (by kernel_rfl)) (fun _ _ _ h => h) (Or.inr ⟨by rfl, rfl⟩) ?_ ?_
          rotate_left
          ·simp only [Act.put, List.setIfInBounds_toArray, List.set_cons_zero, List.set_cons_succ, i64_w, i32_w]
           rfl
          refine pure_ (i := 19) (N := some 57) (v := undef) (a' := ?_) (bz 26 1048575) rfl rfl (any_of HT_.out (by kernel_rfl)) (fun _ _ _ h => h) (Or.inr ⟨by rfl, rfl⟩) ?_ ?_
          rotate_left
          ·simp only [Act.put, List.setIfInBounds_toArray, List.set_cons_zero, List.set_cons_succ, i64_w, i32_w]
           rfl
          refine pure_ (i := 20) (N := some 58) (v := undef) (a' := ?_) (bz 26 2097151) rfl rfl (any_of HT_.out (by kernel_rfl)) (fun _ _ _ h => h) (Or.inr ⟨by rfl, rfl⟩) ?_ ?_
          rotate_left
          ·simp only [Act.put, List.setIfInBounds_toArray, List.set_cons_zero, List.set_cons_succ, i64_w, i32_w]
           rfl
          refine pure_ (i := 21) (N := some 59) (v := undef) (a' := ?_) (bz 26 4194303) rfl rfl (any_of HT_.out (by kernel_rfl)) (fun _ _ _ h => h) (Or.inr ⟨by rfl, rfl⟩) ?_ ?_
          rotate_left
          ·simp only [Act.put, List.setIfInBounds_toArray, List.set_cons_zero, List.set_cons_succ, i64_w, i32_w]
           rfl
          refine pure_ (i := 22) (N := some 60) (v := undef) (a' := ?_) (bz 26 8388607) rfl rfl (any_of HT_.out (by kernel_rfl)) (fun _ _ _ h => h) (Or.inr ⟨by rfl, rfl⟩) ?_ ?_
          rotate_left
          ·simp only [Act.put, List.setIfInBounds_toArray, List.set_cons_zero, List.set_cons_succ, i64_w, i32_w]
           rfl
          refine pure_ (i := 23) (N := some 61) (v := undef) (a' := ?_) (bz 26 16777215) rfl rfl (any_of HT_.out (by kernel_rfl)) (fun _ _ _ h => h) (Or.inr ⟨by rfl, rfl⟩) ?_ ?_
          rotate_left
          ·simp only [Act.put, List.setIfInBounds_toArray, List.set_cons_zero, List.set_cons_succ, i64_w, i32_w]
           rfl
          refine pu_ 24 62 (bz 26 33554431) (any_of HT_.out (by kernel_rfl)) ?_
          refine pu_ 25 63 (bz 26 67108863) (any_of HT_.out (by kernel_rfl)) ?_
          refine done_ (done_of HT_.out (by kernel_rfl)) ?_
          (try simp only [wrap64_u8w, wrap64_m256])
          try go_wp2
          go_roundg k2
          case measure => have := HJ1.out; have := HK2.out; omega
          case rel => exact ⟨(wrap64 (x3_2 + 1)), (by (rfl)), H', ⟨by have := HJ1.out; have := HK2.out; omega⟩, ⟨by (with_reducible repeat (fail)); exact BK313.out⟩, ⟨by repeat ((with_reducible (exact HB.out)))⟩⟩
        ·replace c18 := Bool.eq_false_iff.mpr c18
         subst c18
         have H1 : (some 200) = some r := by rw [if_neg (show ¬ (false = true) by decide)] at H; exact H
         clear H
         have H := H1
         clear H1
         obtain rfl := Option.some.inj H
         obtain ⟨hcz36_0, hcz36_1, hcz36_2, hcz36_3, hcz36_4, hcz36_5⟩ := bc6 BK313.out
         obtain ⟨hfz36_0, hfz36_1, hfz36_2, hfz36_3, hfz36_4, hfz36_5⟩ := bf6 BK313.out
         try go_wp2
         have n0_ := Sd.mk (blk_drew BK313.out)
         have n1_ := Sd.mk (below_drew1 HB.out)
         clear BK313
         clear HB
         have BK313 := n0_
         have HB := n1_
         clear n0_ n1_
         have p315 : 0 ≤ (x3_2 : Int) := odt (by (with_reducible assumption))
         have q315 : x3_2 < (l0_2.length : Int) := odt (by (with_reducible assumption))
         obtain ⟨ad315, e315, hx315_0⟩ := Kd.at_string HR0_2.out x3_2 p315 q315
         have hw315_0 := hx315_0
         cases e315
         replace hx315_0 := (cb HB.out hx315_0 :)
         replace p315 := eq_true p315
         replace q315 := eq_true q315
         refine start_ (n := 26) (S := fun w' => w'.cell? ⟨gb313, 0, none⟩ = some (.int .i64 a0_0) ∧ w'.cell? ⟨gb313, 1, none⟩ = some (.string a0_1) ∧ w'.cell? ⟨gb313, 2, none⟩ = some (.slice (some ad315) l0_2.length c0_2) ∧ w'.cell? ⟨gb313, 3, none⟩ = some (.slice A0_3 l0_3.length c0_3) ∧ w'.cell? ⟨gb313, 4, none⟩ = some (.string a0_4) ∧ w'.cell? ⟨gb313, 5, none⟩ = some (.string a0_5) ∧ w'.cell? (ad315.add (x3_2).toNat) = some (.string (rdOf ByteArray.empty l0_2 x3_2))) (ds := []) (bz 26 0) (by kernel_rfl) rfl rfl (ba6 BK313.out ((cb HB.out hw315_0 :))) (fun hHeld => ?_); refine with_tabW r20_Check.tab6 r20_Check.bits6 (fun HT_ HW_ => ?_)
         generalize wr.drew = w37 at BK313 HB hx315_0 hHeld ⊢
         refine pu_ 0 38 (bz 26 1) (any_of HT_.out (by kernel_rfl)) ?_
         refine pu_ 2 40 (bz 26 5) (any_of HT_.out (by kernel_rfl)) ?_
         refine ta_ 1 39 (bz 26 7) (take_ofW HT_.out HW_.out (by kernel_rfl)) hHeld ?_
         refine pu_ 3 41 (bz 26 15) (any_of HT_.out (by kernel_rfl)) ?_
         refine ta_ 4 42 (bz 26 31) (take_ofW HT_.out HW_.out (by kernel_rfl)) hHeld ?_
         refine one_ (i := 5) (N := some 43) (bz 26 63) rfl rfl (one_of HT_.out (by kernel_rfl)) (by decide) (fun K hK => ?_)
         refine goes_ Tryz.func58 (by kernel_rfl) rfl #[.string (rdOf ByteArray.empty l0_2 x3_2)] (by rfl) rfl rfl (by (try simp only [List.map_toArray, List.map_cons, List.map_nil]); (rfl)) ?_
         with_reducible refine (r17_Is.calls k2 (rdOf ByteArray.empty l0_2 x3_2) false _ A17.out).mono ?_
         rintro e w38 ⟨rfl, hb⟩
         refine ⟨_, rfl, ?_⟩
         have n0_ := Sd.mk (blk_below (g := gb313) (o := .cells #[.int .i64 a0_0, .string a0_1, .slice (some ad315) l0_2.length c0_2, .slice A0_3 l0_3.length c0_3, .string a0_4, .string a0_5] 28 (0, 0)) (by (with_reducible repeat (fail)); exact BK313.out) hb)
         have n1_ := Sd.mk (below_step (by repeat ((with_reducible (exact HB.out)))) hb)
         clear BK313
         clear HB
         have BK313 := n0_
         have HB := n1_
         clear n0_ n1_
         (try clear hb)
         (try clear hb2)
         (try clear hk)
         (try clear hi)
         refine hK.out _ _ (ba6 BK313.out ((cb HB.out hw315_0 :))) (fun hHeld => ?_)
         clear hK K
         refine norm_ (a' := ?_) ?_ ?_
         rotate_left
         ·show Act.put _ (some 43) _ = _
          simp only [Act.put, List.setIfInBounds_toArray, List.set_cons_zero, List.set_cons_succ, i64_w, i32_w]
          rfl
         refine pu_ 6 44 (bz 26 127) (any_of HT_.out (by kernel_rfl)) ?_
         refine pu_ 7 45 (bz 26 255) (any_of HT_.out (by kernel_rfl)) ?_
         refine pure_ (i := 8) (N := some 46) (v := undef) (a' := ?_) (bz 26 511) rfl rfl (any_of HT_.out (by kernel_rfl)) (fun _ _ _ h => h) (Or.inr ⟨by rfl, rfl⟩) ?_ ?_
         rotate_left
         ·simp only [Act.put, List.setIfInBounds_toArray, List.set_cons_zero, List.set_cons_succ, i64_w, i32_w]
          rfl
         refine pure_ (i := 9) (N := some 47) (v := undef) (a' := ?_) (bz 26 1023) rfl rfl (any_of HT_.out (by kernel_rfl)) (fun _ _ _ h => h) (Or.inr ⟨by rfl, rfl⟩) ?_ ?_
         rotate_left
         ·simp only [Act.put, List.setIfInBounds_toArray, List.set_cons_zero, List.set_cons_succ, i64_w, i32_w]
          rfl
         refine pure_ (i := 10) (N := some 48) (v := undef) (a' := ?_) (bz 26 2047) rfl rfl (any_of HT_.out (by kernel_rfl)) (fun _ _ _ h => h) (Or.inr ⟨by rfl, rfl⟩) ?_ ?_
         rotate_left
         ·simp only [Act.put, List.setIfInBounds_toArray, List.set_cons_zero, List.set_cons_succ, i64_w, i32_w]
          rfl
         refine pure_ (i := 11) (N := some 49) (v := undef) (a' := ?_) (bz 26 4095) rfl rfl (any_of HT_.out (by kernel_rfl)) (fun _ _ _ h => h) (Or.inr ⟨by rfl, rfl⟩) ?_ ?_
         rotate_left
         ·simp only [Act.put, List.setIfInBounds_toArray, List.set_cons_zero, List.set_cons_succ, i64_w, i32_w]
          rfl
         refine pure_ (i := 12) (N := some 50) (v := undef) (a' := ?_) (bz 26 8191) rfl rfl (any_of HT_.out (by kernel_rfl)) (fun _ _ _ h => h) (Or.inr ⟨by rfl, rfl⟩) ?_ ?_
         rotate_left
         ·simp only [Act.put, List.setIfInBounds_toArray, List.set_cons_zero, List.set_cons_succ, i64_w, i32_w]
          rfl
         refine pure_ (i := 13) (N := some 51) (v := undef) (a' := ?_) (bz 26 16383) rfl rfl (any_of HT_.out (by kernel_rfl)) (fun _ _ _ h => h) (Or.inr ⟨by rfl, rfl⟩) ?_ ?_
         rotate_left
         ·simp only [Act.put, List.setIfInBounds_toArray, List.set_cons_zero, List.set_cons_succ, i64_w, i32_w]
          rfl
         refine pure_ (i := 14) (N := some 52) (v := undef) (a' := ?_) (bz 26 32767) rfl rfl (any_of HT_.out (by kernel_rfl)) (fun _ _ _ h => h) (Or.inr ⟨by rfl, rfl⟩) ?_ ?_
         rotate_left
         ·simp only [Act.put, List.setIfInBounds_toArray, List.set_cons_zero, List.set_cons_succ, i64_w, i32_w]
          rfl
         refine pure_ (i := 15) (N := some 53) (v := undef) (a' := ?_) (bz 26 65535) rfl rfl (any_of HT_.out (by kernel_rfl)) (fun _ _ _ h => h) (Or.inr ⟨by rfl, rfl⟩) ?_ ?_
         rotate_left
         ·simp only [Act.put, List.setIfInBounds_toArray, List.set_cons_zero, List.set_cons_succ, i64_w, i32_w]
          rfl
         refine pure_ (i := 16) (N := some 54) (v := undef) (a' := ?_) (bz 26 131071) rfl rfl (any_of HT_.out (by kernel_rfl)) (fun _ _ _ h => h) (Or.inr ⟨by rfl, rfl⟩) ?_ ?_
         rotate_left
         ·simp only [Act.put, List.setIfInBounds_toArray, List.set_cons_zero, List.set_cons_succ, i64_w, i32_w]
          rfl
         refine pure_ (i := 17) (N := some 55) (v := undef) (a' := ?_) (bz 26 262143) rfl rfl (any_of HT_.out (by kernel_rfl)) (fun _ _ _ h => h) (Or.inr ⟨by rfl, rfl⟩) ?_ ?_
         rotate_left
         ·simp only [Act.put, List.setIfInBounds_toArray, List.set_cons_zero, List.set_cons_succ, i64_w, i32_w]
          rfl
         refine pure_ (i := 18) (N := some 56) (v := undef) (a' := ?_) (bz 26 524287) rfl rfl (any_of HT_.out (by kernel_rfl)) (fun _ _ _ h => h) (Or.inr ⟨by rfl, rfl⟩) ?_ ?_
         rotate_left
         ·simp only [Act.put, List.setIfInBounds_toArray, List.set_cons_zero, List.set_cons_succ, i64_w, i32_w]
          rfl
         refine pure_ (i := 19) (N := some 57) (v := undef) (a' := ?_) (bz 26 1048575) rfl rfl (any_of HT_.out (by kernel_rfl)) (fun _ _ _ h => h) (Or.inr ⟨by rfl, rfl⟩) ?_ ?_
         rotate_left
         ·simp only [Act.put, List.setIfInBounds_toArray, List.set_cons_zero, List.set_cons_succ, i64_w, i32_w]
          rfl
         refine pure_ (i := 20) (N := some 58) (v := undef) (a' := ?_) (bz 26 2097151) rfl rfl (any_of HT_.out (by kernel_rfl)) (fun _ _ _ h => h) (Or.inr ⟨by rfl, rfl⟩) ?_ ?_
         rotate_left
         ·simp only [Act.put, List.setIfInBounds_toArray, List.set_cons_zero, List.set_cons_succ, i64_w, i32_w]
          rfl
         refine pure_ (i := 21) (N := some 59) (v := undef) (a' := ?_) (bz 26 4194303) rfl rfl (any_of HT_.out (by kernel_rfl)) (fun _ _ _ h => h) (Or.inr ⟨by rfl, rfl⟩) ?_ ?_
         rotate_left
         ·simp only [Act.put, List.setIfInBounds_toArray, List.set_cons_zero, List.set_cons_succ, i64_w, i32_w]
          rfl
         refine pure_ (i := 22) (N := some 60) (v := undef) (a' := ?_) (bz 26 8388607) rfl rfl (any_of HT_.out (by kernel_rfl)) (fun _ _ _ h => h) (Or.inr ⟨by rfl, rfl⟩) ?_ ?_
         rotate_left
         ·simp only [Act.put, List.setIfInBounds_toArray, List.set_cons_zero, List.set_cons_succ, i64_w, i32_w]
          rfl
         refine pure_ (i := 23) (N := some 61) (v := undef) (a' := ?_) (bz 26 16777215) rfl rfl (any_of HT_.out (by kernel_rfl)) (fun _ _ _ h => h) (Or.inr ⟨by rfl, rfl⟩) ?_ ?_
         rotate_left
         ·simp only [Act.put, List.setIfInBounds_toArray, List.set_cons_zero, List.set_cons_succ, i64_w, i32_w]
          rfl
         refine pure_ (i := 24) (N := some 62) (v := undef) (a' := ?_) (bz 26 33554431) rfl rfl (any_of HT_.out (by kernel_rfl)) (fun _ _ _ h => h) (Or.inr ⟨by rfl, rfl⟩) ?_ ?_
         rotate_left
         ·simp only [Act.put, List.setIfInBounds_toArray, List.set_cons_zero, List.set_cons_succ, i64_w, i32_w]
          rfl
         refine pu_ 25 63 (bz 26 67108863) (any_of HT_.out (by kernel_rfl)) ?_
         refine done_ (done_of HT_.out (by kernel_rfl)) ?_
         (try simp only [wrap64_u8w, wrap64_m256])
         try go_wp2
         go_ret
         exact ⟨by (rfl), by repeat ((with_reducible (exact HB.out)))⟩
       ·rw [if_neg c16] at H
        exact absurd H (by simp)
      ·rw [if_neg c15] at H
       have c15b0 : decide (x3_2 < (l0_2.length : Int)) = false := decide_eq_false c15
       clear c15
       have H' := Sd.mk H
       clear H
       obtain ⟨hcz39_0, hcz39_1, hcz39_2, hcz39_3, hcz39_4, hcz39_5⟩ := bc6 BK313.out
       obtain ⟨hfz39_0, hfz39_1, hfz39_2, hfz39_3, hfz39_4, hfz39_5⟩ := bf6 BK313.out
       go_wp2
       go_loopg [4] k2 (fun kq v4 w' => ∃ (x4_3 : Int), v4 = .int .i64 x4_3 ∧ Sd (r20_Check.l1 kq x4_3 a0_0 a0_1 l0_2 l0_3 a0_4 a0_5 = some r) ∧ Sd (kq ≤ k2) ∧ Sd (w'.heap[gb313]? = some (.cells #[.int .i64 a0_0, .string a0_1, (.slice A0_2 l0_2.length c0_2), (.slice A0_3 l0_3.length c0_3), .string a0_4, .string a0_5] 28 (0, 0))) ∧ Sd (Below w.heap.size w w'))
       case atStart => exact ⟨(0), (by (rfl)), H', ⟨Nat.le_refl _⟩, ⟨by (with_reducible repeat (fail)); exact BK313.out⟩, ⟨by repeat ((with_reducible (exact HB.out)))⟩⟩
       case round =>
        clear H'
        try clear c1
        try clear c2
        try clear p2
        try clear p3
        try clear q3
        try clear hx3
        try clear c5
        try clear p6
        try clear c15
        try clear c15b0
        try clear c16
        try clear c18
        try clear c19
        try clear c19b0
        try clear c21
        try clear c22
        try clear p31
        try clear q31
        try clear hx31
        try clear hcz33_0
        try clear hcz33_1
        try clear hcz33_2
        try clear hcz33_3
        try clear hcz33_4
        try clear hcz33_5
        try clear hcz36_0
        try clear hcz36_1
        try clear hcz36_2
        try clear hcz36_3
        try clear hcz36_4
        try clear hcz36_5
        try clear hcz39_0
        try clear hcz39_1
        try clear hcz39_2
        try clear hcz39_3
        try clear hcz39_4
        try clear hcz39_5
        try clear hfz33_0
        try clear hfz33_1
        try clear hfz33_2
        try clear hfz33_3
        try clear hfz33_4
        try clear hfz33_5
        try clear hfz36_0
        try clear hfz36_1
        try clear hfz36_2
        try clear hfz36_3
        try clear hfz36_4
        try clear hfz36_5
        try clear hfz39_0
        try clear hfz39_1
        try clear hfz39_2
        try clear hfz39_3
        try clear hfz39_4
        try clear hfz39_5
        try clear hx315_0
        try clear p315
        try clear q315
        obtain ⟨x4_3, rfl, HA, HK3, BK313, HB⟩ := hrel
        cases gk with
        | zero => exact absurd HA.out (by simp [r20_Check.l1])
        | succ k3 =>
         have H := HA.out
         clear HA
         simp only [r20_Check.l1] at H
         by_cases c40 : x4_3 < (l0_3.length : Int)
         ·rw [if_pos c40] at H
          have c40b0 : decide (x4_3 < (l0_3.length : Int)) = true := decide_eq_true c40
          clear c40
          by_cases c41 : 0 ≤ x4_3
          ·rw [if_pos c41] at H
           have c41b0 : decide (0 ≤ x4_3) = true := decide_eq_true c41
           clear c41
           replace H := Option.bind_eq_some_iff.mp H
           obtain ⟨t321, A420, H⟩ := H
           replace H : (if t321 = true then (if x4_3 > 0 then (if 0 ≤ (wrap64 (x4_3 - 1)) then (if (wrap64 (x4_3 - 1)) < (l0_3.length : Int) then (if ((Op.bytesLess ((rdOf ByteArray.empty l0_3 (wrap64 (x4_3 - 1))).toList) ((rdOf ByteArray.empty l0_3 x4_3).toList)) = true) then (r20_Check.l1 k3 (wrap64 (x4_3 + 1)) a0_0 a0_1 l0_2 l0_3 a0_4 a0_5) else (some 200)) else (none)) else (none)) else (r20_Check.l1 k3 (wrap64 (x4_3 + 1)) a0_0 a0_1 l0_2 l0_3 a0_4 a0_5)) else (some 200)) = some r := H
           have A42 := Sd.mk A420
           clear A420
           by_cases c43 : t321 = true
           ·subst c43
            have H1 : (if x4_3 > 0 then (if 0 ≤ (wrap64 (x4_3 - 1)) then (if (wrap64 (x4_3 - 1)) < (l0_3.length : Int) then (if ((Op.bytesLess ((rdOf ByteArray.empty l0_3 (wrap64 (x4_3 - 1))).toList) ((rdOf ByteArray.empty l0_3 x4_3).toList)) = true) then (r20_Check.l1 k3 (wrap64 (x4_3 + 1)) a0_0 a0_1 l0_2 l0_3 a0_4 a0_5) else (some 200)) else (none)) else (none)) else (r20_Check.l1 k3 (wrap64 (x4_3 + 1)) a0_0 a0_1 l0_2 l0_3 a0_4 a0_5)) = some r := by rw [if_pos rfl] at H; exact H
            clear H
            have H := H1
            clear H1
            by_cases c44 : x4_3 > 0
            ·rw [if_pos c44] at H
             have c44b0 : decide (0 < x4_3) = true := decide_eq_true c44
             clear c44
             obtain ⟨ji45, hji45⟩ : ∃ j_ : Int, (wrap64 (x4_3 - 1)) = j_ := ⟨_, rfl⟩
             replace H : (if 0 ≤ (ji45) then (if (ji45) < (l0_3.length : Int) then (if ((Op.bytesLess ((rdOf ByteArray.empty l0_3 (ji45)).toList) ((rdOf ByteArray.empty l0_3 x4_3).toList)) = true) then (r20_Check.l1 k3 (wrap64 (x4_3 + 1)) a0_0 a0_1 l0_2 l0_3 a0_4 a0_5) else (some 200)) else (none)) else (none)) = some r := by (rw [hji45] at H; exact H)
             (try rw [hji45] at A42)
             have hji45w : (IntKind.i64.wrap (x4_3 - 1)) = ji45 := (i64_w _).trans hji45
             by_cases c46 : 0 ≤ (ji45)
             ·rw [if_pos c46] at H
              have c46b0 : decide (0 ≤ (ji45)) = true := decide_eq_true c46
              clear c46
              by_cases c47 : (ji45) < (l0_3.length : Int)
              ·rw [if_pos c47] at H
               have c47b0 : decide ((ji45) < (l0_3.length : Int)) = true := decide_eq_true c47
               clear c47
               by_cases c48 : ((Op.bytesLess ((rdOf ByteArray.empty l0_3 (ji45)).toList) ((rdOf ByteArray.empty l0_3 x4_3).toList)) = true)
               ·rw [if_pos c48] at H
                have c48b0 : (Op.bytesLess ((rdOf ByteArray.empty l0_3 (ji45)).toList) ((rdOf ByteArray.empty l0_3 x4_3).toList)) = true := c48
                clear c48
                have H' := Sd.mk H
                clear H
                obtain ⟨hcz49_0, hcz49_1, hcz49_2, hcz49_3, hcz49_4, hcz49_5⟩ := bc6 BK313.out
                obtain ⟨hfz49_0, hfz49_1, hfz49_2, hfz49_3, hfz49_4, hfz49_5⟩ := bf6 BK313.out
                try go_wp2
                have n0_ := Sd.mk (blk_drew BK313.out)
                have n1_ := Sd.mk (below_drew1 HB.out)
                clear BK313
                clear HB
                have BK313 := n0_
                have HB := n1_
                clear n0_ n1_
                have p320 : 0 ≤ (x4_3 : Int) := odt (by (with_reducible assumption))
                have q320 : x4_3 < (l0_3.length : Int) := odt (by (with_reducible assumption))
                obtain ⟨ad320, e320, hx320_0⟩ := Kd.at_string HR0_3.out x4_3 p320 q320
                have hw320_0 := hx320_0
                cases e320
                replace hx320_0 := (cb HB.out hx320_0 :)
                replace p320 := eq_true p320
                replace q320 := eq_true q320
                have p322 : 0 ≤ ((ji45) : Int) := odt (by (with_reducible assumption))
                have q322 : (ji45) < (l0_3.length : Int) := odt (by (with_reducible assumption))
                obtain ⟨ad322, e322, hx322_0⟩ := Kd.at_string HR0_3.out (ji45) p322 q322
                have hw322_0 := hx322_0
                obtain rfl : ad320 = ad322 := (by injection e322)
                replace hx322_0 := (cb HB.out hx322_0 :)
                replace p322 := eq_true p322
                replace q322 := eq_true q322
                have p323 : 0 ≤ (x4_3 : Int) := odt (by (with_reducible assumption))
                have q323 : x4_3 < (l0_3.length : Int) := odt (by (with_reducible assumption))
                obtain ⟨ad323, e323, hx323_0⟩ := Kd.at_string HR0_3.out x4_3 p323 q323
                have hw323_0 := hx323_0
                obtain rfl : ad320 = ad323 := (by injection e323)
                replace hx323_0 := (cb HB.out hx323_0 :)
                replace p323 := eq_true p323
                replace q323 := eq_true q323
                refine start_ (n := 25) (S := fun w' => w'.cell? ⟨gb313, 0, none⟩ = some (.int .i64 a0_0) ∧ w'.cell? ⟨gb313, 1, none⟩ = some (.string a0_1) ∧ w'.cell? ⟨gb313, 2, none⟩ = some (.slice A0_2 l0_2.length c0_2) ∧ w'.cell? ⟨gb313, 3, none⟩ = some (.slice (some ad320) l0_3.length c0_3) ∧ w'.cell? ⟨gb313, 4, none⟩ = some (.string a0_4) ∧ w'.cell? ⟨gb313, 5, none⟩ = some (.string a0_5) ∧ w'.cell? (ad320.add (x4_3).toNat) = some (.string (rdOf ByteArray.empty l0_3 x4_3)) ∧ w'.cell? (ad320.add ((ji45)).toNat) = some (.string (rdOf ByteArray.empty l0_3 (ji45))) ∧ w'.cell? (ad320.add (x4_3).toNat) = some (.string (rdOf ByteArray.empty l0_3 x4_3))) (ds := []) (bz 25 0) (by kernel_rfl) rfl rfl (ba6 BK313.out ⟨(cb HB.out hw320_0 :), (cb HB.out hw322_0 :), (cb HB.out hw323_0 :)⟩) (fun hHeld => ?_); refine with_tabW r20_Check.tab11 r20_Check.bits11 (fun HT_ HW_ => ?_)
                generalize wr.drew = w50 at BK313 HB hx320_0 hx322_0 hx323_0 hHeld ⊢
                refine pu_ 0 71 (bz 25 1) (any_of HT_.out (by kernel_rfl)) ?_
                refine pu_ 2 73 (bz 25 5) (any_of HT_.out (by kernel_rfl)) ?_
                refine ta_ 1 72 (bz 25 7) (take_ofW HT_.out HW_.out (by kernel_rfl)) hHeld ?_
                refine pu_ 3 74 (bz 25 15) (any_of HT_.out (by kernel_rfl)) ?_
                refine ta_ 4 75 (bz 25 31) (take_ofW HT_.out HW_.out (by kernel_rfl)) hHeld ?_
                refine one_ (i := 5) (N := some 76) (bz 25 63) rfl rfl (one_of HT_.out (by kernel_rfl)) (by decide) (fun K hK => ?_)
                refine goes_ Tryz.func57 (by kernel_rfl) rfl #[.string (rdOf ByteArray.empty l0_3 x4_3), .int .i64 32] (by rfl) rfl rfl (by (try simp only [List.map_toArray, List.map_cons, List.map_nil]); (rfl)) ?_
                with_reducible refine (r20_word.calls k3 (rdOf ByteArray.empty l0_3 x4_3) 32 true _ A42.out).mono ?_
                rintro e w' ⟨rfl, ⟨nd, rfl⟩⟩
                refine ⟨_, rfl, ?_⟩
                refine hK.out _ _ (ba6 BK313.out ⟨(cb HB.out hw320_0 :), (cb HB.out hw322_0 :), (cb HB.out hw323_0 :)⟩) (fun hHeld => ?_)
                clear hK K
                refine norm_ (a' := ?_) ?_ ?_
                rotate_left
                ·show Act.put _ (some 76) _ = _
                 simp only [Act.put, List.setIfInBounds_toArray, List.set_cons_zero, List.set_cons_succ, i64_w, i32_w]
                 rfl
                refine pu_ 6 77 (bz 25 127) (any_of HT_.out (by kernel_rfl)) ?_
                refine pu_ 7 78 (bz 25 255) (any_of HT_.out (by kernel_rfl)) ?_
                refine pu_ 8 79 (bz 25 511) (any_of HT_.out (by kernel_rfl)) ?_
                refine pu_ 9 80 (bz 25 1023) (any_of HT_.out (by kernel_rfl)) ?_
                refine pu_ 10 81 (bz 25 2047) (any_of HT_.out (by kernel_rfl)) ?_
                refine pu_ 11 82 (bz 25 4095) (any_of HT_.out (by kernel_rfl)) ?_
                refine pu_ 13 84 (bz 25 12287) (any_of HT_.out (by kernel_rfl)) ?_
                refine pu_ 14 85 (bz 25 28671) (any_of HT_.out (by kernel_rfl)) ?_
                refine pu_ 17 88 (bz 25 159743) (any_of HT_.out (by kernel_rfl)) ?_
                refine pu_ 19 90 (bz 25 684031) (any_of HT_.out (by kernel_rfl)) ?_
                refine ta_ 12 83 (bz 25 688127) (take_ofW HT_.out HW_.out (by kernel_rfl)) hHeld ?_
                refine pu_ 15 86 (bz 25 720895) (any_of HT_.out (by kernel_rfl)) ?_
                refine ta_ 16 87 (bz 25 786431) (take_ofW HT_.out HW_.out (by kernel_rfl)) hHeld ?_
                refine ta_ 18 89 (bz 25 1048575) (take_ofW HT_.out HW_.out (by kernel_rfl)) hHeld ?_
                refine pu_ 20 91 (bz 25 2097151) (any_of HT_.out (by kernel_rfl)) ?_
                refine ta_ 21 92 (bz 25 4194303) (take_ofW HT_.out HW_.out (by kernel_rfl)) hHeld ?_
                refine pu_ 22 93 (bz 25 8388607) (any_of HT_.out (by kernel_rfl)) ?_
                refine pu_ 23 94 (bz 25 16777215) (any_of HT_.out (by kernel_rfl)) ?_
                refine pu_ 24 95 (bz 25 33554431) (any_of HT_.out (by kernel_rfl)) ?_
                refine done_ (done_of HT_.out (by kernel_rfl)) ?_
                (try simp only [wrap64_u8w, wrap64_m256])
                try go_wp2
                go_roundg k3
                case measure => have := HJ1.out; have := HK2.out; have := HK3.out; omega
                case rel => exact ⟨(wrap64 (x4_3 + 1)), (by (rfl)), H', ⟨by have := HJ1.out; have := HK2.out; have := HK3.out; omega⟩, ⟨by (with_reducible repeat ((refine blk_drewN ?_ _))); exact BK313.out⟩, ⟨by repeat ((with_reducible first | exact HB.out | apply pw_below_drewN))⟩⟩
               ·rw [if_neg c48] at H
                have c48b0 : (Op.bytesLess ((rdOf ByteArray.empty l0_3 (ji45)).toList) ((rdOf ByteArray.empty l0_3 x4_3).toList)) = false := by simpa using c48
                clear c48
                obtain rfl := Option.some.inj H
                obtain ⟨hcz51_0, hcz51_1, hcz51_2, hcz51_3, hcz51_4, hcz51_5⟩ := bc6 BK313.out
                obtain ⟨hfz51_0, hfz51_1, hfz51_2, hfz51_3, hfz51_4, hfz51_5⟩ := bf6 BK313.out
                try go_wp2
                have n0_ := Sd.mk (blk_drew BK313.out)
                have n1_ := Sd.mk (below_drew1 HB.out)
                clear BK313
                clear HB
                have BK313 := n0_
                have HB := n1_
                clear n0_ n1_
                have p320 : 0 ≤ (x4_3 : Int) := odt (by (with_reducible assumption))
                have q320 : x4_3 < (l0_3.length : Int) := odt (by (with_reducible assumption))
                obtain ⟨ad320, e320, hx320_0⟩ := Kd.at_string HR0_3.out x4_3 p320 q320
                have hw320_0 := hx320_0
                cases e320
                replace hx320_0 := (cb HB.out hx320_0 :)
                replace p320 := eq_true p320
                replace q320 := eq_true q320
                have p322 : 0 ≤ ((ji45) : Int) := odt (by (with_reducible assumption))
                have q322 : (ji45) < (l0_3.length : Int) := odt (by (with_reducible assumption))
                obtain ⟨ad322, e322, hx322_0⟩ := Kd.at_string HR0_3.out (ji45) p322 q322
                have hw322_0 := hx322_0
                obtain rfl : ad320 = ad322 := (by injection e322)
                replace hx322_0 := (cb HB.out hx322_0 :)
                replace p322 := eq_true p322
                replace q322 := eq_true q322
                have p323 : 0 ≤ (x4_3 : Int) := odt (by (with_reducible assumption))
                have q323 : x4_3 < (l0_3.length : Int) := odt (by (with_reducible assumption))
                obtain ⟨ad323, e323, hx323_0⟩ := Kd.at_string HR0_3.out x4_3 p323 q323
                have hw323_0 := hx323_0
                obtain rfl : ad320 = ad323 := (by injection e323)
                replace hx323_0 := (cb HB.out hx323_0 :)
                replace p323 := eq_true p323
                replace q323 := eq_true q323
                refine start_ (n := 25) (S := fun w' => w'.cell? ⟨gb313, 0, none⟩ = some (.int .i64 a0_0) ∧ w'.cell? ⟨gb313, 1, none⟩ = some (.string a0_1) ∧ w'.cell? ⟨gb313, 2, none⟩ = some (.slice A0_2 l0_2.length c0_2) ∧ w'.cell? ⟨gb313, 3, none⟩ = some (.slice (some ad320) l0_3.length c0_3) ∧ w'.cell? ⟨gb313, 4, none⟩ = some (.string a0_4) ∧ w'.cell? ⟨gb313, 5, none⟩ = some (.string a0_5) ∧ w'.cell? (ad320.add (x4_3).toNat) = some (.string (rdOf ByteArray.empty l0_3 x4_3)) ∧ w'.cell? (ad320.add ((ji45)).toNat) = some (.string (rdOf ByteArray.empty l0_3 (ji45))) ∧ w'.cell? (ad320.add (x4_3).toNat) = some (.string (rdOf ByteArray.empty l0_3 x4_3))) (ds := []) (bz 25 0) (by kernel_rfl) rfl rfl (ba6 BK313.out ⟨(cb HB.out hw320_0 :), (cb HB.out hw322_0 :), (cb HB.out hw323_0 :)⟩) (fun hHeld => ?_); refine with_tabW r20_Check.tab11 r20_Check.bits11 (fun HT_ HW_ => ?_)
                generalize wr.drew = w52 at BK313 HB hx320_0 hx322_0 hx323_0 hHeld ⊢
                refine pu_ 0 71 (bz 25 1) (any_of HT_.out (by kernel_rfl)) ?_
                refine pu_ 2 73 (bz 25 5) (any_of HT_.out (by kernel_rfl)) ?_
                refine ta_ 1 72 (bz 25 7) (take_ofW HT_.out HW_.out (by kernel_rfl)) hHeld ?_
                refine pu_ 3 74 (bz 25 15) (any_of HT_.out (by kernel_rfl)) ?_
                refine ta_ 4 75 (bz 25 31) (take_ofW HT_.out HW_.out (by kernel_rfl)) hHeld ?_
                refine one_ (i := 5) (N := some 76) (bz 25 63) rfl rfl (one_of HT_.out (by kernel_rfl)) (by decide) (fun K hK => ?_)
                refine goes_ Tryz.func57 (by kernel_rfl) rfl #[.string (rdOf ByteArray.empty l0_3 x4_3), .int .i64 32] (by rfl) rfl rfl (by (try simp only [List.map_toArray, List.map_cons, List.map_nil]); (rfl)) ?_
                with_reducible refine (r20_word.calls k3 (rdOf ByteArray.empty l0_3 x4_3) 32 true _ A42.out).mono ?_
                rintro e w' ⟨rfl, ⟨nd, rfl⟩⟩
                refine ⟨_, rfl, ?_⟩
                refine hK.out _ _ (ba6 BK313.out ⟨(cb HB.out hw320_0 :), (cb HB.out hw322_0 :), (cb HB.out hw323_0 :)⟩) (fun hHeld => ?_)
                clear hK K
                refine norm_ (a' := ?_) ?_ ?_
                rotate_left
                ·show Act.put _ (some 76) _ = _
                 simp only [Act.put, List.setIfInBounds_toArray, List.set_cons_zero, List.set_cons_succ, i64_w, i32_w]
                 rfl
                refine pu_ 6 77 (bz 25 127) (any_of HT_.out (by kernel_rfl)) ?_
                refine pu_ 7 78 (bz 25 255) (any_of HT_.out (by kernel_rfl)) ?_
                refine pu_ 8 79 (bz 25 511) (any_of HT_.out (by kernel_rfl)) ?_
                refine pu_ 9 80 (bz 25 1023) (any_of HT_.out (by kernel_rfl)) ?_
                refine pu_ 10 81 (bz 25 2047) (any_of HT_.out (by kernel_rfl)) ?_
                refine pu_ 11 82 (bz 25 4095) (any_of HT_.out (by kernel_rfl)) ?_
                refine pu_ 13 84 (bz 25 12287) (any_of HT_.out (by kernel_rfl)) ?_
                refine pu_ 14 85 (bz 25 28671) (any_of HT_.out (by kernel_rfl)) ?_
                refine pu_ 17 88 (bz 25 159743) (any_of HT_.out (by kernel_rfl)) ?_
                refine pu_ 19 90 (bz 25 684031) (any_of HT_.out (by kernel_rfl)) ?_
                refine ta_ 12 83 (bz 25 688127) (take_ofW HT_.out HW_.out (by kernel_rfl)) hHeld ?_
                refine pu_ 15 86 (bz 25 720895) (any_of HT_.out (by kernel_rfl)) ?_
                refine ta_ 16 87 (bz 25 786431) (take_ofW HT_.out HW_.out (by kernel_rfl)) hHeld ?_
                refine ta_ 18 89 (bz 25 1048575) (take_ofW HT_.out HW_.out (by kernel_rfl)) hHeld ?_
                refine pu_ 20 91 (bz 25 2097151) (any_of HT_.out (by kernel_rfl)) ?_
                refine ta_ 21 92 (bz 25 4194303) (take_ofW HT_.out HW_.out (by kernel_rfl)) hHeld ?_
                refine pu_ 22 93 (bz 25 8388607) (any_of HT_.out (by kernel_rfl)) ?_
                refine pu_ 23 94 (bz 25 16777215) (any_of HT_.out (by kernel_rfl)) ?_
                refine pu_ 24 95 (bz 25 33554431) (any_of HT_.out (by kernel_rfl)) ?_
                refine done_ (done_of HT_.out (by kernel_rfl)) ?_
                (try simp only [wrap64_u8w, wrap64_m256])
                try go_wp2
                go_ret
                exact ⟨by (rfl), by repeat ((with_reducible first | exact HB.out | apply pw_below_drewN))⟩
              ·rw [if_neg c47] at H
               exact absurd H (by simp)
             ·rw [if_neg c46] at H
              exact absurd H (by simp)
            ·rw [if_neg c44] at H
             have c44b0 : decide (0 < x4_3) = false := decide_eq_false c44
             clear c44
             have H' := Sd.mk H
             clear H
             obtain ⟨hcz53_0, hcz53_1, hcz53_2, hcz53_3, hcz53_4, hcz53_5⟩ := bc6 BK313.out
             obtain ⟨hfz53_0, hfz53_1, hfz53_2, hfz53_3, hfz53_4, hfz53_5⟩ := bf6 BK313.out
             try go_wp2
             have n0_ := Sd.mk (blk_drew BK313.out)
             have n1_ := Sd.mk (below_drew1 HB.out)
             clear BK313
             clear HB
             have BK313 := n0_
             have HB := n1_
             clear n0_ n1_
             have p320 : 0 ≤ (x4_3 : Int) := odt (by (with_reducible assumption))
             have q320 : x4_3 < (l0_3.length : Int) := odt (by (with_reducible assumption))
             obtain ⟨ad320, e320, hx320_0⟩ := Kd.at_string HR0_3.out x4_3 p320 q320
             have hw320_0 := hx320_0
             cases e320
             replace hx320_0 := (cb HB.out hx320_0 :)
             replace p320 := eq_true p320
             replace q320 := eq_true q320
             refine start_ (n := 25) (S := fun w' => w'.cell? ⟨gb313, 0, none⟩ = some (.int .i64 a0_0) ∧ w'.cell? ⟨gb313, 1, none⟩ = some (.string a0_1) ∧ w'.cell? ⟨gb313, 2, none⟩ = some (.slice A0_2 l0_2.length c0_2) ∧ w'.cell? ⟨gb313, 3, none⟩ = some (.slice (some ad320) l0_3.length c0_3) ∧ w'.cell? ⟨gb313, 4, none⟩ = some (.string a0_4) ∧ w'.cell? ⟨gb313, 5, none⟩ = some (.string a0_5) ∧ w'.cell? (ad320.add (x4_3).toNat) = some (.string (rdOf ByteArray.empty l0_3 x4_3))) (ds := []) (bz 25 0) (by kernel_rfl) rfl rfl (ba6 BK313.out ((cb HB.out hw320_0 :))) (fun hHeld => ?_); refine with_tabW r20_Check.tab11 r20_Check.bits11 (fun HT_ HW_ => ?_)
             generalize wr.drew = w54 at BK313 HB hx320_0 hHeld ⊢
             refine pu_ 0 71 (bz 25 1) (any_of HT_.out (by kernel_rfl)) ?_
             refine pu_ 2 73 (bz 25 5) (any_of HT_.out (by kernel_rfl)) ?_
             refine ta_ 1 72 (bz 25 7) (take_ofW HT_.out HW_.out (by kernel_rfl)) hHeld ?_
             refine pu_ 3 74 (bz 25 15) (any_of HT_.out (by kernel_rfl)) ?_
             refine ta_ 4 75 (bz 25 31) (take_ofW HT_.out HW_.out (by kernel_rfl)) hHeld ?_
             refine one_ (i := 5) (N := some 76) (bz 25 63) rfl rfl (one_of HT_.out (by kernel_rfl)) (by decide) (fun K hK => ?_)
             refine goes_ Tryz.func57 (by kernel_rfl) rfl #[.string (rdOf ByteArray.empty l0_3 x4_3), .int .i64 32] (by rfl) rfl rfl (by (try simp only [List.map_toArray, List.map_cons, List.map_nil]); (rfl)) ?_
             with_reducible refine (r20_word.calls k3 (rdOf ByteArray.empty l0_3 x4_3) 32 true _ A42.out).mono ?_
             rintro e w' ⟨rfl, ⟨nd, rfl⟩⟩
             refine ⟨_, rfl, ?_⟩
             refine hK.out _ _ (ba6 BK313.out ((cb HB.out hw320_0 :))) (fun hHeld => ?_)
             clear hK K
             refine norm_ (a' := ?_) ?_ ?_
             rotate_left
             ·show Act.put _ (some 76) _ = _
              simp only [Act.put, List.setIfInBounds_toArray, List.set_cons_zero, List.set_cons_succ, i64_w, i32_w]
              rfl
             refine pu_ 6 77 (bz 25 127) (any_of HT_.out (by kernel_rfl)) ?_
             refine pu_ 7 78 (bz 25 255) (any_of HT_.out (by kernel_rfl)) ?_
             refine pu_ 8 79 (bz 25 511) (any_of HT_.out (by kernel_rfl)) ?_
             refine pu_ 9 80 (bz 25 1023) (any_of HT_.out (by kernel_rfl)) ?_
             refine pu_ 10 81 (bz 25 2047) (any_of HT_.out (by kernel_rfl)) ?_
             refine pure_ (i := 11) (N := some 82) (v := undef) (a' := ?_) (bz 25 4095) rfl rfl (any_of HT_.out (by kernel_rfl)) (fun _ _ _ h => h) (Or.inr ⟨by rfl, rfl⟩) ?_ ?_
             rotate_left
             ·simp only [Act.put, List.setIfInBounds_toArray, List.set_cons_zero, List.set_cons_succ, i64_w, i32_w]
              rfl
             refine pure_ (i := 12) (N := some 83) (v := undef) (a' := ?_) (bz 25 8191) rfl rfl (any_of HT_.out (by kernel_rfl)) (fun _ _ _ h => h) (Or.inr ⟨by rfl, rfl⟩) ?_ ?_
             rotate_left
             ·simp only [Act.put, List.setIfInBounds_toArray, List.set_cons_zero, List.set_cons_succ, i64_w, i32_w]
              rfl
             refine pure_ (i := 13) (N := some 84) (v := undef) (a' := ?_) (bz 25 16383) rfl rfl (any_of HT_.out (by kernel_rfl)) (fun _ _ _ h => h) (Or.inr ⟨by rfl, rfl⟩) ?_ ?_
             rotate_left
             ·simp only [Act.put, List.setIfInBounds_toArray, List.set_cons_zero, List.set_cons_succ, i64_w, i32_w]
              rfl
             refine pure_ (i := 14) (N := some 85) (v := undef) (a' := ?_) (bz 25 32767) rfl rfl (any_of HT_.out (by kernel_rfl)) (fun _ _ _ h => h) (Or.inr ⟨by rfl, rfl⟩) ?_ ?_
             rotate_left
             ·simp only [Act.put, List.setIfInBounds_toArray, List.set_cons_zero, List.set_cons_succ, i64_w, i32_w]
              rfl
             refine pure_ (i := 15) (N := some 86) (v := undef) (a' := ?_) (bz 25 65535) rfl rfl (any_of HT_.out (by kernel_rfl)) (fun _ _ _ h => h) (Or.inr ⟨by rfl, rfl⟩) ?_ ?_
             rotate_left
             ·simp only [Act.put, List.setIfInBounds_toArray, List.set_cons_zero, List.set_cons_succ, i64_w, i32_w]
              rfl
             refine pure_ (i := 16) (N := some 87) (v := undef) (a' := ?_) (bz 25 131071) rfl rfl (any_of HT_.out (by kernel_rfl)) (fun _ _ _ h => h) (Or.inr ⟨by rfl, rfl⟩) ?_ ?_
             rotate_left
             ·simp only [Act.put, List.setIfInBounds_toArray, List.set_cons_zero, List.set_cons_succ, i64_w, i32_w]
              rfl
             refine pure_ (i := 17) (N := some 88) (v := undef) (a' := ?_) (bz 25 262143) rfl rfl (any_of HT_.out (by kernel_rfl)) (fun _ _ _ h => h) (Or.inr ⟨by rfl, rfl⟩) ?_ ?_
             rotate_left
             ·simp only [Act.put, List.setIfInBounds_toArray, List.set_cons_zero, List.set_cons_succ, i64_w, i32_w]
              rfl
             refine pure_ (i := 18) (N := some 89) (v := undef) (a' := ?_) (bz 25 524287) rfl rfl (any_of HT_.out (by kernel_rfl)) (fun _ _ _ h => h) (Or.inr ⟨by rfl, rfl⟩) ?_ ?_
             rotate_left
             ·simp only [Act.put, List.setIfInBounds_toArray, List.set_cons_zero, List.set_cons_succ, i64_w, i32_w]
              rfl
             refine pure_ (i := 19) (N := some 90) (v := undef) (a' := ?_) (bz 25 1048575) rfl rfl (any_of HT_.out (by kernel_rfl)) (fun _ _ _ h => h) (Or.inr ⟨by rfl, rfl⟩) ?_ ?_
             rotate_left
             ·simp only [Act.put, List.setIfInBounds_toArray, List.set_cons_zero, List.set_cons_succ, i64_w, i32_w]
              rfl
             refine pure_ (i := 20) (N := some 91) (v := undef) (a' := ?_) (bz 25 2097151) rfl rfl (any_of HT_.out (by kernel_rfl)) (fun _ _ _ h => h) (Or.inr ⟨by rfl, rfl⟩) ?_ ?_
             rotate_left
             ·simp only [Act.put, List.setIfInBounds_toArray, List.set_cons_zero, List.set_cons_succ, i64_w, i32_w]
              rfl
             refine pure_ (i := 21) (N := some 92) (v := undef) (a' := ?_) (bz 25 4194303) rfl rfl (any_of HT_.out (by kernel_rfl)) (fun _ _ _ h => h) (Or.inr ⟨by rfl, rfl⟩) ?_ ?_
             rotate_left
             ·simp only [Act.put, List.setIfInBounds_toArray, List.set_cons_zero, List.set_cons_succ, i64_w, i32_w]
              rfl
             refine pure_ (i := 22) (N := some 93) (v := undef) (a' := ?_) (bz 25 8388607) rfl rfl (any_of HT_.out (by kernel_rfl)) (fun _ _ _ h => h) (Or.inr ⟨by rfl, rfl⟩) ?_ ?_
             rotate_left
             ·simp only [Act.put, List.setIfInBounds_toArray, List.set_cons_zero, List.set_cons_succ, i64_w, i32_w]
              rfl
             refine pu_ 23 94 (bz 25 16777215) (any_of HT_.out (by kernel_rfl)) ?_
             refine pu_ 24 95 (bz 25 33554431) (any_of HT_.out (by kernel_rfl)) ?_
             refine done_ (done_of HT_.out (by kernel_rfl)) ?_
             (try simp only [wrap64_u8w, wrap64_m256])
             try go_wp2
             go_roundg k3
             case measure => have := HJ1.out; have := HK2.out; have := HK3.out; omega
             case rel => exact ⟨(wrap64 (x4_3 + 1)), (by (rfl)), H', ⟨by have := HJ1.out; have := HK2.out; have := HK3.out; omega⟩, ⟨by (with_reducible repeat ((refine blk_drewN ?_ _))); exact BK313.out⟩, ⟨by repeat ((with_reducible first | exact HB.out | apply pw_below_drewN))⟩⟩
           ·replace c43 := Bool.eq_false_iff.mpr c43
            subst c43
            have H1 : (some 200) = some r := by rw [if_neg (show ¬ (false = true) by decide)] at H; exact H
            clear H
            have H := H1
            clear H1
            obtain rfl := Option.some.inj H
            obtain ⟨hcz55_0, hcz55_1, hcz55_2, hcz55_3, hcz55_4, hcz55_5⟩ := bc6 BK313.out
            obtain ⟨hfz55_0, hfz55_1, hfz55_2, hfz55_3, hfz55_4, hfz55_5⟩ := bf6 BK313.out
            try go_wp2
            have n0_ := Sd.mk (blk_drew BK313.out)
            have n1_ := Sd.mk (below_drew1 HB.out)
            clear BK313
            clear HB
            have BK313 := n0_
            have HB := n1_
            clear n0_ n1_
            have p320 : 0 ≤ (x4_3 : Int) := odt (by (with_reducible assumption))
            have q320 : x4_3 < (l0_3.length : Int) := odt (by (with_reducible assumption))
            obtain ⟨ad320, e320, hx320_0⟩ := Kd.at_string HR0_3.out x4_3 p320 q320
            have hw320_0 := hx320_0
            cases e320
            replace hx320_0 := (cb HB.out hx320_0 :)
            replace p320 := eq_true p320
            replace q320 := eq_true q320
            refine start_ (n := 25) (S := fun w' => w'.cell? ⟨gb313, 0, none⟩ = some (.int .i64 a0_0) ∧ w'.cell? ⟨gb313, 1, none⟩ = some (.string a0_1) ∧ w'.cell? ⟨gb313, 2, none⟩ = some (.slice A0_2 l0_2.length c0_2) ∧ w'.cell? ⟨gb313, 3, none⟩ = some (.slice (some ad320) l0_3.length c0_3) ∧ w'.cell? ⟨gb313, 4, none⟩ = some (.string a0_4) ∧ w'.cell? ⟨gb313, 5, none⟩ = some (.string a0_5) ∧ w'.cell? (ad320.add (x4_3).toNat) = some (.string (rdOf ByteArray.empty l0_3 x4_3))) (ds := []) (bz 25 0) (by kernel_rfl) rfl rfl (ba6 BK313.out ((cb HB.out hw320_0 :))) (fun hHeld => ?_); refine with_tabW r20_Check.tab11 r20_Check.bits11 (fun HT_ HW_ => ?_)
            generalize wr.drew = w56 at BK313 HB hx320_0 hHeld ⊢
            refine pu_ 0 71 (bz 25 1) (any_of HT_.out (by kernel_rfl)) ?_
            refine pu_ 2 73 (bz 25 5) (any_of HT_.out (by kernel_rfl)) ?_
            refine ta_ 1 72 (bz 25 7) (take_ofW HT_.out HW_.out (by kernel_rfl)) hHeld ?_
            refine pu_ 3 74 (bz 25 15) (any_of HT_.out (by kernel_rfl)) ?_
            refine ta_ 4 75 (bz 25 31) (take_ofW HT_.out HW_.out (by kernel_rfl)) hHeld ?_
            refine one_ (i := 5) (N := some 76) (bz 25 63) rfl rfl (one_of HT_.out (by kernel_rfl)) (by decide) (fun K hK => ?_)
            refine goes_ Tryz.func57 (by kernel_rfl) rfl #[.string (rdOf ByteArray.empty l0_3 x4_3), .int .i64 32] (by rfl) rfl rfl (by (try simp only [List.map_toArray, List.map_cons, List.map_nil]); (rfl)) ?_
            with_reducible refine (r20_word.calls k3 (rdOf ByteArray.empty l0_3 x4_3) 32 false _ A42.out).mono ?_
            rintro e w' ⟨rfl, ⟨nd, rfl⟩⟩
            refine ⟨_, rfl, ?_⟩
            refine hK.out _ _ (ba6 BK313.out ((cb HB.out hw320_0 :))) (fun hHeld => ?_)
            clear hK K
            refine norm_ (a' := ?_) ?_ ?_
            rotate_left
            ·show Act.put _ (some 76) _ = _
             simp only [Act.put, List.setIfInBounds_toArray, List.set_cons_zero, List.set_cons_succ, i64_w, i32_w]
             rfl
            refine pu_ 6 77 (bz 25 127) (any_of HT_.out (by kernel_rfl)) ?_
            refine pu_ 7 78 (bz 25 255) (any_of HT_.out (by kernel_rfl)) ?_
            refine pure_ (i := 8) (N := some 79) (v := undef) (a' := ?_) (bz 25 511) rfl rfl (any_of HT_.out (by kernel_rfl)) (fun _ _ _ h => h) (Or.inr ⟨by rfl, rfl⟩) ?_ ?_
            rotate_left
            ·simp only [Act.put, List.setIfInBounds_toArray, List.set_cons_zero, List.set_cons_succ, i64_w, i32_w]
             rfl
            refine pure_ (i := 9) (N := some 80) (v := undef) (a' := ?_) (bz 25 1023) rfl rfl (any_of HT_.out (by kernel_rfl)) (fun _ _ _ h => h) (Or.inr ⟨by rfl, rfl⟩) ?_ ?_
            rotate_left
            ·simp only [Act.put, List.setIfInBounds_toArray, List.set_cons_zero, List.set_cons_succ, i64_w, i32_w]
             rfl
            refine pure_ (i := 10) (N := some 81) (v := undef) (a' := ?_) (bz 25 2047) rfl rfl (any_of HT_.out (by kernel_rfl)) (fun _ _ _ h => h) (Or.inr ⟨by rfl, rfl⟩) ?_ ?_
            rotate_left
            ·simp only [Act.put, List.setIfInBounds_toArray, List.set_cons_zero, List.set_cons_succ, i64_w, i32_w]
             rfl
            refine pure_ (i := 11) (N := some 82) (v := undef) (a' := ?_) (bz 25 4095) rfl rfl (any_of HT_.out (by kernel_rfl)) (fun _ _ _ h => h) (Or.inr ⟨by rfl, rfl⟩) ?_ ?_
            rotate_left
            ·simp only [Act.put, List.setIfInBounds_toArray, List.set_cons_zero, List.set_cons_succ, i64_w, i32_w]
             rfl
            refine pure_ (i := 12) (N := some 83) (v := undef) (a' := ?_) (bz 25 8191) rfl rfl (any_of HT_.out (by kernel_rfl)) (fun _ _ _ h => h) (Or.inr ⟨by rfl, rfl⟩) ?_ ?_
            rotate_left
            ·simp only [Act.put, List.setIfInBounds_toArray, List.set_cons_zero, List.set_cons_succ, i64_w, i32_w]
             rfl
            refine pure_ (i := 13) (N := some 84) (v := undef) (a' := ?_) (bz 25 16383) rfl rfl (any_of HT_.out (by kernel_rfl)) (fun _ _ _ h => h) (Or.inr ⟨by rfl, rfl⟩) ?_ ?_
            rotate_left
            ·simp only [Act.put, List.setIfInBounds_toArray, List.set_cons_zero, List.set_cons_succ, i64_w, i32_w]
             rfl
            refine pure_ (i := 14) (N := some 85) (v := undef) (a' := ?_) (bz 25 32767) rfl rfl (any_of HT_.out (by kernel_rfl)) (fun _ _ _ h => h) (Or.inr ⟨by rfl, rfl⟩) ?_ ?_
            rotate_left
            ·simp only [Act.put, List.setIfInBounds_toArray, List.set_cons_zero, List.set_cons_succ, i64_w, i32_w]
             rfl
            refine pure_ (i := 15) (N := some 86) (v := undef) (a' := ?_) (bz 25 65535) rfl rfl (any_of HT_.out (by kernel_rfl)) (fun _ _ _ h => h) (Or.inr ⟨by rfl, rfl⟩) ?_ ?_
            rotate_left
            ·simp only [Act.put, List.setIfInBounds_toArray, List.set_cons_zero, List.set_cons_succ, i64_w, i32_w]
             rfl
            refine pure_ (i := 16) (N := some 87) (v := undef) (a' := ?_) (bz 25 131071) rfl rfl (any_of HT_.out (by kernel_rfl)) (fun _ _ _ h => h) (Or.inr ⟨by rfl, rfl⟩) ?_ ?_
            rotate_left
            ·simp only [Act.put, List.setIfInBounds_toArray, List.set_cons_zero, List.set_cons_succ, i64_w, i32_w]
             rfl
            refine pure_ (i := 17) (N := some 88) (v := undef) (a' := ?_) (bz 25 262143) rfl rfl (any_of HT_.out (by kernel_rfl)) (fun _ _ _ h => h) (Or.inr ⟨by rfl, rfl⟩) ?_ ?_
            rotate_left
            ·simp only [Act.put, List.setIfInBounds_toArray, List.set_cons_zero, List.set_cons_succ, i64_w, i32_w]
             rfl
            refine pure_ (i := 18) (N := some 89) (v := undef) (a' := ?_) (bz 25 524287) rfl rfl (any_of HT_.out (by kernel_rfl)) (fun _ _ _ h => h) (Or.inr ⟨by rfl, rfl⟩) ?_ ?_
            rotate_left
            ·simp only [Act.put, List.setIfInBounds_toArray, List.set_cons_zero, List.set_cons_succ, i64_w, i32_w]
             rfl
            refine pure_ (i := 19) (N := some 90) (v := undef) (a' := ?_) (bz 25 1048575) rfl rfl (any_of HT_.out (by kernel_rfl)) (fun _ _ _ h => h) (Or.inr ⟨by rfl, rfl⟩) ?_ ?_
            rotate_left
            ·simp only [Act.put, List.setIfInBounds_toArray, List.set_cons_zero, List.set_cons_succ, i64_w, i32_w]
             rfl
            refine pure_ (i := 20) (N := some 91) (v := undef) (a' := ?_) (bz 25 2097151) rfl rfl (any_of HT_.out (by kernel_rfl)) (fun _ _ _ h => h) (Or.inr ⟨by rfl, rfl⟩) ?_ ?_
            rotate_left
            ·simp only [Act.put, List.setIfInBounds_toArray, List.set_cons_zero, List.set_cons_succ, i64_w, i32_w]
             rfl
            refine pure_ (i := 21) (N := some 92) (v := undef) (a' := ?_) (bz 25 4194303) rfl rfl (any_of HT_.out (by kernel_rfl)) (fun _ _ _ h => h) (Or.inr ⟨by rfl, rfl⟩) ?_ ?_
            rotate_left
            ·simp only [Act.put, List.setIfInBounds_toArray, List.set_cons_zero, List.set_cons_succ, i64_w, i32_w]
             rfl
            refine pure_ (i := 22) (N := some 93) (v := undef) (a' := ?_) (bz 25 8388607) rfl rfl (any_of HT_.out (by kernel_rfl)) (fun _ _ _ h => h) (Or.inr ⟨by rfl, rfl⟩) ?_ ?_
            rotate_left
            ·simp only [Act.put, List.setIfInBounds_toArray, List.set_cons_zero, List.set_cons_succ, i64_w, i32_w]
             rfl
            refine pure_ (i := 23) (N := some 94) (v := undef) (a' := ?_) (bz 25 16777215) rfl rfl (any_of HT_.out (by kernel_rfl)) (fun _ _ _ h => h) (Or.inr ⟨by rfl, rfl⟩) ?_ ?_
            rotate_left
            ·simp only [Act.put, List.setIfInBounds_toArray, List.set_cons_zero, List.set_cons_succ, i64_w, i32_w]
             rfl
            refine pu_ 24 95 (bz 25 33554431) (any_of HT_.out (by kernel_rfl)) ?_
            refine done_ (done_of HT_.out (by kernel_rfl)) ?_
            (try simp only [wrap64_u8w, wrap64_m256])
            try go_wp2
            go_ret
            exact ⟨by (rfl), by repeat ((with_reducible first | exact HB.out | apply pw_below_drewN))⟩
          ·rw [if_neg c41] at H
           exact absurd H (by simp)
         ·rw [if_neg c40] at H
          have c40b0 : decide (x4_3 < (l0_3.length : Int)) = false := decide_eq_false c40
          clear c40
          by_cases c57 : (a0_4.size : Int) = 32
          ·rw [if_pos c57] at H
           have c57b0 : ((a0_4.size : Int) == 32) = true := beq_iff_eq.mpr c57
           have c57b1 : ((a0_4.size : Int) != 32) = false := bne_eq_false_iff_eq.mpr c57
           clear c57
           by_cases c58 : a0_5.toList = ([] : List UInt8)
           ·rw [if_pos c58] at H
            have c58b0 : (a0_5.toList == ([] : List UInt8)) = true := beq_iff_eq.mpr c58
            have c58b1 : (a0_5.toList != ([] : List UInt8)) = false := bne_eq_false_iff_eq.mpr c58
            clear c58
            obtain rfl := Option.some.inj H
            obtain ⟨hcz59_0, hcz59_1, hcz59_2, hcz59_3, hcz59_4, hcz59_5⟩ := bc6 BK313.out
            obtain ⟨hfz59_0, hfz59_1, hfz59_2, hfz59_3, hfz59_4, hfz59_5⟩ := bf6 BK313.out
            go_wp2
            go_ret
            exact ⟨by (rfl), by repeat ((with_reducible (exact HB.out)))⟩
           ·rw [if_neg c58] at H
            have c58b0 : (a0_5.toList == ([] : List UInt8)) = false := beq_eq_false_iff_ne.mpr c58
            have c58b1 : (a0_5.toList != ([] : List UInt8)) = true := bne_iff_ne.mpr c58
            by_cases c60 : (a0_5.size : Int) = 32
            ·rw [if_pos c60] at H
             have c60b0 : ((a0_5.size : Int) == 32) = true := beq_iff_eq.mpr c60
             have c60b1 : ((a0_5.size : Int) != 32) = false := bne_eq_false_iff_eq.mpr c60
             clear c60
             obtain rfl := Option.some.inj H
             obtain ⟨hcz61_0, hcz61_1, hcz61_2, hcz61_3, hcz61_4, hcz61_5⟩ := bc6 BK313.out
             obtain ⟨hfz61_0, hfz61_1, hfz61_2, hfz61_3, hfz61_4, hfz61_5⟩ := bf6 BK313.out
             go_wp2
             go_ret
             exact ⟨by (rfl), by repeat ((with_reducible (exact HB.out)))⟩
            ·rw [if_neg c60] at H
             have c60b0 : ((a0_5.size : Int) == 32) = false := beq_eq_false_iff_ne.mpr c60
             have c60b1 : ((a0_5.size : Int) != 32) = true := bne_iff_ne.mpr c60
             obtain rfl := Option.some.inj H
             obtain ⟨hcz62_0, hcz62_1, hcz62_2, hcz62_3, hcz62_4, hcz62_5⟩ := bc6 BK313.out
             obtain ⟨hfz62_0, hfz62_1, hfz62_2, hfz62_3, hfz62_4, hfz62_5⟩ := bf6 BK313.out
             go_wp2
             go_ret
             exact ⟨by (rfl), by repeat ((with_reducible (exact HB.out)))⟩
          ·rw [if_neg c57] at H
           have c57b0 : ((a0_4.size : Int) == 32) = false := beq_eq_false_iff_ne.mpr c57
           have c57b1 : ((a0_4.size : Int) != 32) = true := bne_iff_ne.mpr c57
           obtain rfl := Option.some.inj H
           obtain ⟨hcz63_0, hcz63_1, hcz63_2, hcz63_3, hcz63_4, hcz63_5⟩ := bc6 BK313.out
           obtain ⟨hfz63_0, hfz63_1, hfz63_2, hfz63_3, hfz63_4, hfz63_5⟩ := bf6 BK313.out
           go_wp2
           go_ret
           exact ⟨by (rfl), by repeat ((with_reducible (exact HB.out)))⟩
end Go.Proofs.YtpdkgpmcmebefaaGreatDoor.Q
