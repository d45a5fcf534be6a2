/- Of the proof about model: several texts, joined. -/
import Derived.Test.YtkicenkljjpcfaaGreatDoorMA
import Derived.Deep.MidRow
import Derived.Deep.Slices
import Derived.Deep.Quiet
import Derived.BigQuiet
set_option linter.unusedVariables false
set_option linter.unusedSimpArgs false
-- Made by wip/qprint.sh (a patched copy of the kit's print program) out of the translation. Lean checks it.
namespace Go.Proofs.YtkicenkljjpcfaaGreatDoor.Q
open Go.RowKit Go.Proofs.YtkicenkljjpcfaaGreatDoorW.PrintWords Go.Proofs.YtkicenkljjpcfaaGreatDoorW.PrintLast Go.Proofs.YtkicenkljjpcfaaGreatDoorW.PrintMore
attribute [local go_sem] max2_int min2_int max_two min_two max_three min_three max_four min_four   -- for this text's walks alone
set_option linter.unusedVariables false
set_option linter.unusedSimpArgs false

attribute [local go_sem high] eqA101
/-! ### garretref33_same: function 67 -/
def garretref33_same.l0 : Nat → List (S101) → List (S101) → Int → Option (Bool)
  | 0, _, _, _ => none
  | k + 1, x0, x1, x5 => if x5 < (x0.length : Int) then (if 0 ≤ x5 then (if x5 < (x1.length : Int) then (if (!((((rd_T101 x0 x5).f0).toList) == (((rd_T101 x1 x5).f0).toList)) || (!(((rd_T101 x0 x5).f1) == ((rd_T101 x1 x5).f1)) || (!(((rd_T101 x0 x5).f2) == ((rd_T101 x1 x5).f2)) || (!(((rd_T101 x0 x5).f3) == ((rd_T101 x1 x5).f3)) || (!(((rd_T101 x0 x5).f4) == ((rd_T101 x1 x5).f4)) || (!((((rd_T101 x0 x5).f5).toList) == (((rd_T101 x1 x5).f5).toList)))))))) = true then (some false) else (garretref33_same.l0 k x0 x1 (wrap64 (x5 + 1)))) else (none)) else (none)) else (some true)
def garretref33_same.f (k : Nat) (l0 : List (S101)) (l1 : List (S101)) : Option (Bool) := if (l0.length : Int) = (l1.length : Int) then (garretref33_same.l0 k l0 l1 0) else (some false)
theorem garretref33_same.mono_l : ∀ k, (∀ y0 y1 y2, LeO (garretref33_same.l0 k y0 y1 y2) (garretref33_same.l0 (k + 1) y0 y1 y2))
  | 0 => fun _ _ _ r h => by simp [garretref33_same.l0] at h
  | k + 1 => by
    have ih0 := garretref33_same.mono_l k
    · intro y0 y1 y2
      unfold garretref33_same.l0
      repeat' first
      | (with_reducible exact ih0 _ _ _)
      | (with_reducible exact LeO.refl _)
      | (with_reducible exact LeO.none _)
      | (with_reducible refine LeO.ite ?_ ?_)
      | (with_reducible refine LeO.bind ?_ (fun _ => ?_))
      | exact ih0 _ _ _
      | exact LeO.none _
      | refine LeO.ite ?_ ?_
      | refine LeO.bind ?_ (fun _ => ?_)
theorem garretref33_same.mono : ∀ a0 a1 k, LeO (garretref33_same.f k a0 a1) (garretref33_same.f (k + 1) a0 a1) := by
  intro a0 a1 k
  have ih0 := garretref33_same.mono_l k
  unfold garretref33_same.f
  repeat' first
      | (with_reducible exact ih0 _ _ _)
      | (with_reducible exact LeO.refl _)
      | (with_reducible exact LeO.none _)
      | (with_reducible refine LeO.ite ?_ ?_)
      | (with_reducible refine LeO.bind ?_ (fun _ => ?_))
      | exact ih0 _ _ _
      | exact LeO.none _
      | refine LeO.ite ?_ ?_
      | refine LeO.bind ?_ (fun _ => ?_)
set_option maxHeartbeats 8000000 in
set_option maxRecDepth 100000 in
theorem garretref33_same.calls (k : Nat) (A0 : Option Addr) (c0 : Nat) (l0 : List (S101)) (A1 : Option Addr) (c1 : Nat) (l1 : List (S101)) (r : Bool) (w : World) (hr0 : Kd.C k101 w A0 l0.length l0) (hc0 : l0.length ≤ c0) (hr1 : Kd.C k101 w A1 l1.length l1) (hc1 : l1.length ≤ c1) (h : garretref33_same.f k l0 l1 = some r) :
    Calls Tryz.prog 67 #[.slice A0 l0.length c0, .slice A1 l1.length c1] w fun e w' => e = .returned (.bool r) ∧ Drawn0 w w' := by
  have hu101 := Tryz.underlying101
  have HR0 := Aside0.mk hr0
  have HC0 := Aside0.mk hc0
  clear hr0 hc0
  have HR1 := Aside0.mk hr1
  have HC1 := Aside0.mk hc1
  clear hr1 hc1
  have H : (if (l0.length : Int) = (l1.length : Int) then (garretref33_same.l0 k l0 l1 0) else (some false)) = some r := h
  clear h
  by_cases c3 : (l0.length : Int) = (l1.length : Int)
  · rw [if_pos c3] at H
    have c3b0 : ((l0.length : Int) == (l1.length : Int)) = true := beq_iff_eq.mpr c3
    have c3b1 : ((l0.length : Int) != (l1.length : Int)) = false := bne_eq_false_iff_eq.mpr c3
    have c3b2 : (l0.length == l1.length) = true := by first | simpa using c3 | (simp at c3 ⊢; omega)
    clear c3
    have H' := Aside0.mk H
    clear H
    go_enter Tryz.func67, Tryz.ntmps67
    go_wp2
    repeat (go_quiet (fail); try go_wp2)
    go_loopg [5] k (fun kq v5 w' => ∃ (x5_1 : Int), v5 = .int .i64 x5_1 ∧ Aside0 (garretref33_same.l0 kq l0 l1 x5_1 = some r) ∧ Aside0 (kq ≤ k) ∧ Drawn0 w w')
    case atStart => exact ⟨(0), (by first | rfl | (simp; done) | (simp [*]; done)), H', ⟨Nat.le_refl _⟩, by repeat (first | exact Drawn0.refl _ | apply Drawn0.step)⟩
    case round =>
      clear H'
      try clear c1
      try clear p2
      try clear c3
      try clear c3b0
      try clear c3b1
      try clear c3b2
      obtain ⟨x5_1, rfl, HA, HK1, ⟨m1, rfl⟩⟩ := hrel
      cases gk with
      | zero => exact absurd HA.out (by simp [garretref33_same.l0])
      | succ k1 =>
        have H := HA.out
        clear HA
        simp only [garretref33_same.l0] at H
        by_cases c4 : x5_1 < (l0.length : Int)
        · rw [if_pos c4] at H
          have c4b0 : decide (x5_1 < (l0.length : Int)) = true := decide_eq_true c4
          clear c4
          by_cases c5 : 0 ≤ x5_1
          · rw [if_pos c5] at H
            have c5b0 : decide (0 ≤ x5_1) = true := decide_eq_true c5
            clear c5
            by_cases c6 : x5_1 < (l1.length : Int)
            · rw [if_pos c6] at H
              have c6b0 : decide (x5_1 < (l1.length : Int)) = true := decide_eq_true c6
              clear c6
              by_cases c7 : (!((((rd_T101 l0 x5_1).f0).toList) == (((rd_T101 l1 x5_1).f0).toList)) || (!(((rd_T101 l0 x5_1).f1) == ((rd_T101 l1 x5_1).f1)) || (!(((rd_T101 l0 x5_1).f2) == ((rd_T101 l1 x5_1).f2)) || (!(((rd_T101 l0 x5_1).f3) == ((rd_T101 l1 x5_1).f3)) || (!(((rd_T101 l0 x5_1).f4) == ((rd_T101 l1 x5_1).f4)) || (!((((rd_T101 l0 x5_1).f5).toList) == (((rd_T101 l1 x5_1).f5).toList)))))))) = true
              · rw [if_pos c7] at H
                have c7b0 : (!((((rd_T101 l0 x5_1).f0).toList) == (((rd_T101 l1 x5_1).f0).toList)) || (!(((rd_T101 l0 x5_1).f1) == ((rd_T101 l1 x5_1).f1)) || (!(((rd_T101 l0 x5_1).f2) == ((rd_T101 l1 x5_1).f2)) || (!(((rd_T101 l0 x5_1).f3) == ((rd_T101 l1 x5_1).f3)) || (!(((rd_T101 l0 x5_1).f4) == ((rd_T101 l1 x5_1).f4)) || (!((((rd_T101 l0 x5_1).f5).toList) == (((rd_T101 l1 x5_1).f5).toList)))))))) = true := c7
                clear c7
                obtain rfl := Option.some.inj H
                have p154 : 0 ≤ (x5_1 : Int) := of_decide_eq_true (by first | (with_reducible assumption) | assumption)
                have q154 : x5_1 < (l0.length : Int) := of_decide_eq_true (by first | (with_reducible assumption) | assumption)
                obtain ⟨ad154, e154, hx154_0, hx154_1, hx154_2, hx154_3, hx154_4, hx154_5⟩ := at_T101 HR0.out x5_1 p154 q154
                cases e154
                replace p154 := eq_true p154
                replace q154 := eq_true q154
                have p155 : 0 ≤ (x5_1 : Int) := of_decide_eq_true (by first | (with_reducible assumption) | assumption)
                have q155 : x5_1 < (l1.length : Int) := of_decide_eq_true (by first | (with_reducible assumption) | assumption)
                obtain ⟨ad155, e155, hx155_0, hx155_1, hx155_2, hx155_3, hx155_4, hx155_5⟩ := at_T101 HR1.out x5_1 p155 q155
                cases e155
                replace p155 := eq_true p155
                replace q155 := eq_true q155
                go_wp2
                repeat (go_quiet (fail); try go_wp2)
                go_ret
                exact ⟨by first | rfl | (simp; done) | (simp [*]; done), by repeat (first | exact Drawn0.refl _ | apply Drawn0.step)⟩
              · rw [if_neg c7] at H
                have c7b0 : (!((((rd_T101 l0 x5_1).f0).toList) == (((rd_T101 l1 x5_1).f0).toList)) || (!(((rd_T101 l0 x5_1).f1) == ((rd_T101 l1 x5_1).f1)) || (!(((rd_T101 l0 x5_1).f2) == ((rd_T101 l1 x5_1).f2)) || (!(((rd_T101 l0 x5_1).f3) == ((rd_T101 l1 x5_1).f3)) || (!(((rd_T101 l0 x5_1).f4) == ((rd_T101 l1 x5_1).f4)) || (!((((rd_T101 l0 x5_1).f5).toList) == (((rd_T101 l1 x5_1).f5).toList)))))))) = false := by simpa using c7
                clear c7
                have H' := Aside0.mk H
                clear H
                have p154 : 0 ≤ (x5_1 : Int) := of_decide_eq_true (by first | (with_reducible assumption) | assumption)
                have q154 : x5_1 < (l0.length : Int) := of_decide_eq_true (by first | (with_reducible assumption) | assumption)
                obtain ⟨ad154, e154, hx154_0, hx154_1, hx154_2, hx154_3, hx154_4, hx154_5⟩ := at_T101 HR0.out x5_1 p154 q154
                cases e154
                replace p154 := eq_true p154
                replace q154 := eq_true q154
                have p155 : 0 ≤ (x5_1 : Int) := of_decide_eq_true (by first | (with_reducible assumption) | assumption)
                have q155 : x5_1 < (l1.length : Int) := of_decide_eq_true (by first | (with_reducible assumption) | assumption)
                obtain ⟨ad155, e155, hx155_0, hx155_1, hx155_2, hx155_3, hx155_4, hx155_5⟩ := at_T101 HR1.out x5_1 p155 q155
                cases e155
                replace p155 := eq_true p155
                replace q155 := eq_true q155
                go_wp2
                repeat (go_quiet (fail); try go_wp2)
                go_roundg k1
                case measure => have := HK1.out; omega
                case rel => exact ⟨(wrap64 (x5_1 + 1)), (by first | rfl | (simp; done) | (simp [*]; done)), H', ⟨by have := HK1.out; omega⟩, by repeat (first | exact Drawn0.refl _ | apply Drawn0.step)⟩
            · rw [if_neg c6] at H
              exact absurd H (by simp)
          · rw [if_neg c5] at H
            exact absurd H (by simp)
        · rw [if_neg c4] at H
          have c4b0 : decide (x5_1 < (l0.length : Int)) = false := decide_eq_false c4
          clear c4
          obtain rfl := Option.some.inj H
          go_wp2
          repeat (go_quiet (fail); try go_wp2)
          go_ret
          exact ⟨by first | rfl | (simp; done) | (simp [*]; done), by repeat (first | exact Drawn0.refl _ | apply Drawn0.step)⟩
  · rw [if_neg c3] at H
    have c3b0 : ((l0.length : Int) == (l1.length : Int)) = false := beq_eq_false_iff_ne.mpr c3
    have c3b1 : ((l0.length : Int) != (l1.length : Int)) = true := bne_iff_ne.mpr c3
    have c3b2 : (l0.length == l1.length) = false := by first | simpa using c3 | (simp at c3 ⊢; omega)
    obtain rfl := Option.some.inj H
    go_enter Tryz.func67, Tryz.ntmps67
    go_wp2
    repeat (go_quiet (fail); try go_wp2)
    go_ret
    exact ⟨by first | rfl | (simp; done) | (simp [*]; done), by repeat (first | exact Drawn0.refl _ | apply Drawn0.step)⟩

end Go.Proofs.YtkicenkljjpcfaaGreatDoor.Q
-- Made by wip/qprint.sh (a patched copy of the kit's print program) out of the translation. Lean checks it.
namespace Go.Proofs.YtkicenkljjpcfaaGreatDoor.Q
open Go.RowKit Go.Proofs.YtkicenkljjpcfaaGreatDoorW.PrintWords Go.Proofs.YtkicenkljjpcfaaGreatDoorW.PrintLast Go.Proofs.YtkicenkljjpcfaaGreatDoorW.PrintMore
attribute [local go_sem] max2_int min2_int max_two min_two max_three min_three max_four min_four   -- for this text's walks alone
set_option linter.unusedVariables false
set_option linter.unusedSimpArgs false

/-! ### garretref17_Parts: function 101 -/
def garretref17_Parts.l0 : Nat → ByteArray → List ByteArray → Int → Int → Option (List ByteArray)
  | 0, _, _, _, _ => none
  | k + 1, x0, x3, x4, x5 => if x5 ≤ (x0.size : Int) then (if x5 = (x0.size : Int) then (if 0 ≤ x4 then (if x4 ≤ x5 then (if x3.length < 8796093022208 then (garretref17_Parts.l0 k x0 (x3 ++ [x0.extract (x4 : Int).toNat (x5 : Int).toNat]) (wrap64 (x5 + 1)) (wrap64 (x5 + 1))) else (none)) else (none)) else (none)) else (if 0 ≤ x5 then (if x5 < (x0.size : Int) then (if (bt x0 x5) = 47 then (if 0 ≤ x4 then (if x4 ≤ x5 then (if x3.length < 8796093022208 then (garretref17_Parts.l0 k x0 (x3 ++ [x0.extract (x4 : Int).toNat (x5 : Int).toNat]) (wrap64 (x5 + 1)) (wrap64 (x5 + 1))) else (none)) else (none)) else (none)) else (garretref17_Parts.l0 k x0 x3 x4 (wrap64 (x5 + 1)))) else (none)) else (none))) else (some x3)
def garretref17_Parts.f (k : Nat) (a0 : ByteArray) : Option (List ByteArray) := if a0.toList = ([] : List UInt8) then (some ([] : List ByteArray)) else (garretref17_Parts.l0 k a0 ([] : List ByteArray) 0 0)
theorem garretref17_Parts.mono_l : ∀ k, (∀ y0 y1 y2 y3, LeO (garretref17_Parts.l0 k y0 y1 y2 y3) (garretref17_Parts.l0 (k + 1) y0 y1 y2 y3))
  | 0 => fun _ _ _ _ r h => by simp [garretref17_Parts.l0] at h
  | k + 1 => by
    have ih0 := garretref17_Parts.mono_l k
    · intro y0 y1 y2 y3
      unfold garretref17_Parts.l0
      repeat' first
      | (with_reducible exact ih0 _ _ _ _)
      | (with_reducible exact LeO.refl _)
      | (with_reducible exact LeO.none _)
      | (with_reducible refine LeO.ite ?_ ?_)
      | (with_reducible refine LeO.bind ?_ (fun _ => ?_))
      | exact ih0 _ _ _ _
      | exact LeO.none _
      | refine LeO.ite ?_ ?_
      | refine LeO.bind ?_ (fun _ => ?_)
theorem garretref17_Parts.mono : ∀ a0 k, LeO (garretref17_Parts.f k a0) (garretref17_Parts.f (k + 1) a0) := by
  intro a0 k
  have ih0 := garretref17_Parts.mono_l k
  unfold garretref17_Parts.f
  repeat' first
      | (with_reducible exact ih0 _ _ _ _)
      | (with_reducible exact LeO.refl _)
      | (with_reducible exact LeO.none _)
      | (with_reducible refine LeO.ite ?_ ?_)
      | (with_reducible refine LeO.bind ?_ (fun _ => ?_))
      | exact ih0 _ _ _ _
      | exact LeO.none _
      | refine LeO.ite ?_ ?_
      | refine LeO.bind ?_ (fun _ => ?_)
set_option maxHeartbeats 8000000 in
set_option maxRecDepth 100000 in
theorem garretref17_Parts.calls (k : Nat) (a0 : ByteArray) (r : List ByteArray) (w : World) (h : garretref17_Parts.f k a0 = some r) :
    Calls Tryz.prog 101 #[.string a0] w fun e w' => ∃ v0_ : Value, e = .returned (v0_) ∧ Kd.R Kd.string 9 w' w.heap.size (fun _ => True) v0_ r ∧ Below w.heap.size w w' := by
  have HB := Aside0.mk (Below.refl w.heap.size w)
  have H : (if a0.toList = ([] : List UInt8) then (some ([] : List ByteArray)) else (garretref17_Parts.l0 k a0 ([] : List ByteArray) 0 0)) = some r := h
  clear h
  by_cases c2 : a0.toList = ([] : List UInt8)
  · rw [if_pos c2] at H
    have c2b0 : (a0.toList == ([] : List UInt8)) = true := beq_iff_eq.mpr c2
    have c2b1 : (a0.toList != ([] : List UInt8)) = false := bne_eq_false_iff_eq.mpr c2
    clear c2
    obtain rfl := Option.some.inj H
    go_enter Tryz.func101, Tryz.ntmps101
    go_wp2
    go_ret
    exact ⟨_, by first | rfl | (simp [errW_none, errW_some] <;> rfl) | (simp [*, errW_none, errW_some] <;> rfl), by first | exact Kd.R_nil _ _ _ _ _ | exact Kd.N_nil _ _ _ _ _ | exact Kd.V_nil _ _ _ _ _ | exact Kd.Q_nil _ _ _ _ _ | exact Kd.S_nil _ _ _ _ _, by repeat (first | (with_reducible first | exact HB.out | apply below_alloc | apply pw_below_drewN | apply below_drew1) | exact HB.out)⟩
  · rw [if_neg c2] at H
    have c2b0 : (a0.toList == ([] : List UInt8)) = false := beq_eq_false_iff_ne.mpr c2
    have c2b1 : (a0.toList != ([] : List UInt8)) = true := bne_iff_ne.mpr c2
    have H' := Aside0.mk H
    clear H
    go_enter Tryz.func101, Tryz.ntmps101
    go_wp2
    go_loopg [3, 4, 5] k (fun kq v3 v4 v5 w' => ∃ (x3_1 : List ByteArray) (x4_1 : Int) (x5_1 : Int), v4 = .int .i64 x4_1 ∧ v5 = .int .i64 x5_1 ∧ Aside0 (garretref17_Parts.l0 kq a0 x3_1 x4_1 x5_1 = some r) ∧ Aside0 (kq ≤ k) ∧ Aside0 (Kd.R Kd.string 9 w' w.heap.size (fun _ => True) v3 x3_1) ∧ Aside0 (Below w.heap.size w w'))
    case atStart => exact ⟨(([] : List ByteArray)), (0), (0), (by first | rfl | (simp; done) | (simp [*]; done)), (by first | rfl | (simp; done) | (simp [*]; done)), H', ⟨Nat.le_refl _⟩, ⟨by first | exact Kd.R_nil _ _ _ _ _ | exact Kd.N_nil _ _ _ _ _ | exact Kd.V_nil _ _ _ _ _ | exact Kd.Q_nil _ _ _ _ _ | exact Kd.S_nil _ _ _ _ _⟩, ⟨by repeat (first | (with_reducible first | exact HB.out | apply below_alloc | apply pw_below_drewN | apply below_drew1) | exact HB.out)⟩⟩
    case round =>
      clear H'
      try clear c1
      try clear c2
      try clear c2b0
      try clear c2b1
      try clear p2
      obtain ⟨x3_1, x4_1, x5_1, rfl, rfl, HA, HK1, HO_3, HB⟩ := hrel
      cases gk with
      | zero => exact absurd HA.out (by simp [garretref17_Parts.l0])
      | succ k1 =>
        have H := HA.out
        clear HA
        simp only [garretref17_Parts.l0] at H
        by_cases c3 : x5_1 ≤ (a0.size : Int)
        · rw [if_pos c3] at H
          have c3b0 : decide (x5_1 ≤ (a0.size : Int)) = true := decide_eq_true c3
          clear c3
          by_cases c4 : x5_1 = (a0.size : Int)
          · rw [if_pos c4] at H
            have c4b0 : (x5_1 == (a0.size : Int)) = true := beq_iff_eq.mpr c4
            have c4b1 : (x5_1 != (a0.size : Int)) = false := bne_eq_false_iff_eq.mpr c4
            clear c4
            by_cases c5 : 0 ≤ x4_1
            · rw [if_pos c5] at H
              have c5b0 := eq_true c5
              have c5b1 : decide (0 ≤ x4_1) = true := decide_eq_true c5
              clear c5
              by_cases c6 : x4_1 ≤ x5_1
              · rw [if_pos c6] at H
                have c6b0 := eq_true c6
                have c6b1 : decide (x4_1 ≤ x5_1) = true := decide_eq_true c6
                clear c6
                have c7b0 := eq_true (of_decide_eq_true (by first | (with_reducible assumption) | assumption) : x5_1 ≤ (a0.size : Int))
                by_cases c8 : x3_1.length < 8796093022208
                · rw [if_pos c8] at H
                  have LMc8 := Aside0.mk c8
                  clear c8
                  obtain ⟨y156, hy156⟩ : ∃ y_ : List ByteArray, y_ = (x3_1 ++ [a0.extract (x4_1 : Int).toNat (x5_1 : Int).toNat]) := ⟨_, rfl⟩
                  replace H : (garretref17_Parts.l0 k1 a0 y156 (wrap64 (x5_1 + 1)) (wrap64 (x5_1 + 1))) = some r := by first | (rw [hy156]; with_reducible exact H) | (have H2_ := (Option.bind_some _ _).symm.trans H; rw [hy156]; with_reducible exact H2_) | (have H2_ := (Option.bind_some _ _).symm.trans H; with_reducible exact H2_) | with_reducible exact H | (rw [hy156]; exact H) | exact H
                  have Ny156 := Aside0.mk hy156
                  clear hy156
                  have H' := Aside0.mk H
                  clear H
                  go_wp2_with (first | ((with_reducible refine gate_builtin (b := .append) (xs := #[.tmp 24, .tmp 29]) rfl ?_); at_builtin; refine Kd.R_append Kd.string (w0 := w) w.heap.size rfl (.tmp 24) (.tmp 29) 25 9 (.string ⟨#[]⟩) 16 rfl Tryz.underlying25 info9 rfl (by decide) (by omega) u3 x3_1 (a0.extract (x4_1 : Int).toNat (x5_1 : Int).toNat) [.string (a0.extract (x4_1 : Int).toNat (x5_1 : Int).toNat)] (fun _ => True) (fun _ => False) rfl rfl ?aP (fun _ hk => hk.elim) ?aF ?aO ?aB ?aS ?aL ?_; (case aP => exact rfl); (case aB => exact (by repeat (first | (with_reducible first | exact HB.out | apply below_alloc | apply pw_below_drewN | apply below_drew1) | exact HB.out))); (case aF => exact (fun _ _ => trivial)); (case aO => exact (by (with_reducible repeat (first | apply Kd.R_alloc | apply Kd.R_drewN | apply Kd.R_drew)); exact HO_3.out)); (case aS => exact (below_size (by repeat (first | (with_reducible first | exact HB.out | apply below_alloc | apply pw_below_drewN | apply below_drew1) | exact HB.out)))); (case aL => have := LMc8.out; omega); intro v157 w9 ho hb hg hat; rw [← Ny156.out] at ho; have n0_ := Aside0.mk (hb); have n1_ := Aside0.mk (ho); clear HB; clear HO_3; have HB := n0_; have HO158 := n1_; clear n0_ n1_; clear ho hb hg hat))
                  go_roundg k1
                  case measure => have := HK1.out; omega
                  case rel => exact ⟨(y156), (wrap64 (x5_1 + 1)), (wrap64 (x5_1 + 1)), (by first | rfl | (simp; done) | (simp [*]; done)), (by first | rfl | (simp; done) | (simp [*]; done)), H', ⟨by have := HK1.out; omega⟩, ⟨by (with_reducible repeat (first | apply Kd.R_alloc | apply Kd.R_drewN | apply Kd.R_drew)); exact HO158.out⟩, ⟨by repeat (first | (with_reducible first | exact HB.out | apply below_alloc | apply pw_below_drewN | apply below_drew1) | exact HB.out)⟩⟩
                · rw [if_neg c8] at H
                  exact absurd H (by simp)
              · rw [if_neg c6] at H
                exact absurd H (by simp)
            · rw [if_neg c5] at H
              exact absurd H (by simp)
          · rw [if_neg c4] at H
            have c4b0 : (x5_1 == (a0.size : Int)) = false := beq_eq_false_iff_ne.mpr c4
            have c4b1 : (x5_1 != (a0.size : Int)) = true := bne_iff_ne.mpr c4
            by_cases c10 : 0 ≤ x5_1
            · rw [if_pos c10] at H
              have c10b0 : decide (0 ≤ x5_1) = true := decide_eq_true c10
              clear c10
              by_cases c11 : x5_1 < (a0.size : Int)
              · rw [if_pos c11] at H
                have c11b0 : decide (x5_1 < (a0.size : Int)) = true := decide_eq_true c11
                clear c11
                by_cases c13 : (bt a0 x5_1) = 47
                · rw [if_pos c13] at H
                  have c13b0 : ((bt a0 x5_1) == 47) = true := beq_iff_eq.mpr c13
                  have c13b1 : ((bt a0 x5_1) != 47) = false := bne_eq_false_iff_eq.mpr c13
                  clear c13
                  by_cases c14 : 0 ≤ x4_1
                  · rw [if_pos c14] at H
                    have c14b0 := eq_true c14
                    have c14b1 : decide (0 ≤ x4_1) = true := decide_eq_true c14
                    clear c14
                    by_cases c15 : x4_1 ≤ x5_1
                    · rw [if_pos c15] at H
                      have c15b0 := eq_true c15
                      have c15b1 : decide (x4_1 ≤ x5_1) = true := decide_eq_true c15
                      clear c15
                      have c16b0 := eq_true (of_decide_eq_true (by first | (with_reducible assumption) | assumption) : x5_1 ≤ (a0.size : Int))
                      by_cases c17 : x3_1.length < 8796093022208
                      · rw [if_pos c17] at H
                        have LMc17 := Aside0.mk c17
                        clear c17
                        obtain ⟨y159, hy159⟩ : ∃ y_ : List ByteArray, y_ = (x3_1 ++ [a0.extract (x4_1 : Int).toNat (x5_1 : Int).toNat]) := ⟨_, rfl⟩
                        replace H : (garretref17_Parts.l0 k1 a0 y159 (wrap64 (x5_1 + 1)) (wrap64 (x5_1 + 1))) = some r := by first | (rw [hy159]; with_reducible exact H) | (have H2_ := (Option.bind_some _ _).symm.trans H; rw [hy159]; with_reducible exact H2_) | (have H2_ := (Option.bind_some _ _).symm.trans H; with_reducible exact H2_) | with_reducible exact H | (rw [hy159]; exact H) | exact H
                        have Ny159 := Aside0.mk hy159
                        clear hy159
                        have H' := Aside0.mk H
                        clear H
                        have p12 : 0 ≤ (x5_1 : Int) := of_decide_eq_true (by first | (with_reducible assumption) | assumption)
                        have q12 : x5_1 < (a0.size : Int) := of_decide_eq_true (by first | (with_reducible assumption) | assumption)
                        have hx12 := bt_at a0 x5_1
                        replace p12 := eq_true p12
                        replace q12 := eq_true q12
                        go_wp2_with (first | ((with_reducible refine gate_builtin (b := .append) (xs := #[.tmp 24, .tmp 29]) rfl ?_); at_builtin; refine Kd.R_append Kd.string (w0 := w) w.heap.size rfl (.tmp 24) (.tmp 29) 25 9 (.string ⟨#[]⟩) 16 rfl Tryz.underlying25 info9 rfl (by decide) (by omega) u3 x3_1 (a0.extract (x4_1 : Int).toNat (x5_1 : Int).toNat) [.string (a0.extract (x4_1 : Int).toNat (x5_1 : Int).toNat)] (fun _ => True) (fun _ => False) rfl rfl ?aP (fun _ hk => hk.elim) ?aF ?aO ?aB ?aS ?aL ?_; (case aP => exact rfl); (case aB => exact (by repeat (first | (with_reducible first | exact HB.out | apply below_alloc | apply pw_below_drewN | apply below_drew1) | exact HB.out))); (case aF => exact (fun _ _ => trivial)); (case aO => exact (by (with_reducible repeat (first | apply Kd.R_alloc | apply Kd.R_drewN | apply Kd.R_drew)); exact HO_3.out)); (case aS => exact (below_size (by repeat (first | (with_reducible first | exact HB.out | apply below_alloc | apply pw_below_drewN | apply below_drew1) | exact HB.out)))); (case aL => have := LMc17.out; omega); intro v160 w18 ho hb hg hat; rw [← Ny159.out] at ho; have n0_ := Aside0.mk (hb); have n1_ := Aside0.mk (ho); clear HB; clear HO_3; have HB := n0_; have HO161 := n1_; clear n0_ n1_; clear ho hb hg hat))
                        go_roundg k1
                        case measure => have := HK1.out; omega
                        case rel => exact ⟨(y159), (wrap64 (x5_1 + 1)), (wrap64 (x5_1 + 1)), (by first | rfl | (simp; done) | (simp [*]; done)), (by first | rfl | (simp; done) | (simp [*]; done)), H', ⟨by have := HK1.out; omega⟩, ⟨by (with_reducible repeat (first | apply Kd.R_alloc | apply Kd.R_drewN | apply Kd.R_drew)); exact HO161.out⟩, ⟨by repeat (first | (with_reducible first | exact HB.out | apply below_alloc | apply pw_below_drewN | apply below_drew1) | exact HB.out)⟩⟩
                      · rw [if_neg c17] at H
                        exact absurd H (by simp)
                    · rw [if_neg c15] at H
                      exact absurd H (by simp)
                  · rw [if_neg c14] at H
                    exact absurd H (by simp)
                · rw [if_neg c13] at H
                  have c13b0 : ((bt a0 x5_1) == 47) = false := beq_eq_false_iff_ne.mpr c13
                  have c13b1 : ((bt a0 x5_1) != 47) = true := bne_iff_ne.mpr c13
                  have H' := Aside0.mk H
                  clear H
                  have p12 : 0 ≤ (x5_1 : Int) := of_decide_eq_true (by first | (with_reducible assumption) | assumption)
                  have q12 : x5_1 < (a0.size : Int) := of_decide_eq_true (by first | (with_reducible assumption) | assumption)
                  have hx12 := bt_at a0 x5_1
                  replace p12 := eq_true p12
                  replace q12 := eq_true q12
                  go_wp2
                  go_roundg k1
                  case measure => have := HK1.out; omega
                  case rel => exact ⟨(x3_1), (x4_1), (wrap64 (x5_1 + 1)), (by first | rfl | (simp; done) | (simp [*]; done)), (by first | rfl | (simp; done) | (simp [*]; done)), H', ⟨by have := HK1.out; omega⟩, ⟨by (with_reducible repeat (first | apply Kd.R_alloc | apply Kd.R_drewN | apply Kd.R_drew)); exact HO_3.out⟩, ⟨by repeat (first | (with_reducible first | exact HB.out | apply below_alloc | apply pw_below_drewN | apply below_drew1) | exact HB.out)⟩⟩
              · rw [if_neg c11] at H
                exact absurd H (by simp)
            · rw [if_neg c10] at H
              exact absurd H (by simp)
        · rw [if_neg c3] at H
          have c3b0 : decide (x5_1 ≤ (a0.size : Int)) = false := decide_eq_false c3
          clear c3
          obtain rfl := Option.some.inj H
          go_wp2
          go_ret
          exact ⟨_, by first | rfl | (simp [errW_none, errW_some] <;> rfl) | (simp [*, errW_none, errW_some] <;> rfl), by (with_reducible repeat (first | apply Kd.R_alloc | apply Kd.R_drewN | apply Kd.R_drew)); exact HO_3.out, by repeat (first | (with_reducible first | exact HB.out | apply below_alloc | apply pw_below_drewN | apply below_drew1) | exact HB.out)⟩

end Go.Proofs.YtkicenkljjpcfaaGreatDoor.Q
-- Made by wip/qprint.sh (a patched copy of the kit's print program) out of the translation. Lean checks it.
namespace Go.Proofs.YtkicenkljjpcfaaGreatDoor.Q
open Go.RowKit Go.Proofs.YtkicenkljjpcfaaGreatDoorW.PrintWords Go.Proofs.YtkicenkljjpcfaaGreatDoorW.PrintLast Go.Proofs.YtkicenkljjpcfaaGreatDoorW.PrintMore
attribute [local go_sem] max2_int min2_int max_two min_two max_three min_three max_four min_four   -- for this text's walks alone
set_option linter.unusedVariables false
set_option linter.unusedSimpArgs false

/-! ### garretref17_Made: function 102 -/
def garretref17_Made.l0 : Nat → List ByteArray → ByteArray → Int → Option (ByteArray)
  | 0, _, _, _ => none
  | k + 1, x0, x3, x4 => if x4 < (x0.length : Int) then (if x4 > 0 then (if x3.size + 1 ≤ 9223372036854775807 then (if 0 ≤ x4 then (if (x3 ++ (⟨#[47]⟩ : ByteArray)).size + (rdOf ByteArray.empty x0 x4).size ≤ 9223372036854775807 then (garretref17_Made.l0 k x0 ((x3 ++ (⟨#[47]⟩ : ByteArray)) ++ (rdOf ByteArray.empty x0 x4)) (wrap64 (x4 + 1))) else (none)) else (none)) else (none)) else (if 0 ≤ x4 then (if x3.size + (rdOf ByteArray.empty x0 x4).size ≤ 9223372036854775807 then (garretref17_Made.l0 k x0 (x3 ++ (rdOf ByteArray.empty x0 x4)) (wrap64 (x4 + 1))) else (none)) else (none))) else (some x3)
def garretref17_Made.f (k : Nat) (l0 : List ByteArray) : Option (ByteArray) := garretref17_Made.l0 k l0 (⟨#[]⟩ : ByteArray) 0
theorem garretref17_Made.mono_l : ∀ k, (∀ y0 y1 y2, LeO (garretref17_Made.l0 k y0 y1 y2) (garretref17_Made.l0 (k + 1) y0 y1 y2))
  | 0 => fun _ _ _ r h => by simp [garretref17_Made.l0] at h
  | k + 1 => by
    have ih0 := garretref17_Made.mono_l k
    · intro y0 y1 y2
      unfold garretref17_Made.l0
      repeat' first
      | (with_reducible exact ih0 _ _ _)
      | (with_reducible exact LeO.refl _)
      | (with_reducible exact LeO.none _)
      | (with_reducible refine LeO.ite ?_ ?_)
      | (with_reducible refine LeO.bind ?_ (fun _ => ?_))
      | exact ih0 _ _ _
      | exact LeO.none _
      | refine LeO.ite ?_ ?_
      | refine LeO.bind ?_ (fun _ => ?_)
theorem garretref17_Made.mono : ∀ a0 k, LeO (garretref17_Made.f k a0) (garretref17_Made.f (k + 1) a0) := by
  intro a0 k
  have ih0 := garretref17_Made.mono_l k
  unfold garretref17_Made.f
  repeat' first
      | (with_reducible exact ih0 _ _ _)
      | (with_reducible exact LeO.refl _)
      | (with_reducible exact LeO.none _)
      | (with_reducible refine LeO.ite ?_ ?_)
      | (with_reducible refine LeO.bind ?_ (fun _ => ?_))
      | exact ih0 _ _ _
      | exact LeO.none _
      | refine LeO.ite ?_ ?_
      | refine LeO.bind ?_ (fun _ => ?_)
set_option maxHeartbeats 8000000 in
set_option maxRecDepth 100000 in
theorem garretref17_Made.calls (k : Nat) (A0 : Option Addr) (c0 : Nat) (l0 : List ByteArray) (r : ByteArray) (w : World) (hr0 : Kd.C Kd.string w A0 l0.length l0) (hc0 : l0.length ≤ c0) (h : garretref17_Made.f k l0 = some r) :
    Calls Tryz.prog 102 #[.slice A0 l0.length c0] w fun e w' => e = .returned (.string r) ∧ Drawn0 w w' := by
  have HR0 := Aside0.mk hr0
  have HC0 := Aside0.mk hc0
  clear hr0 hc0
  have H : (garretref17_Made.l0 k l0 (⟨#[]⟩ : ByteArray) 0) = some r := h
  clear h
  have H' := Aside0.mk H
  clear H
  go_enter Tryz.func102, Tryz.ntmps102
  go_wp2
  go_loopg [3, 4] k (fun kq v3 v4 w' => ∃ (x3_1 : ByteArray) (x4_1 : Int), v3 = .string x3_1 ∧ v4 = .int .i64 x4_1 ∧ Aside0 (garretref17_Made.l0 kq l0 x3_1 x4_1 = some r) ∧ Aside0 (kq ≤ k) ∧ Drawn0 w w')
  case atStart => exact ⟨((⟨#[]⟩ : ByteArray)), (0), (by first | rfl | (simp; done) | (simp [*]; done)), (by first | rfl | (simp; done) | (simp [*]; done)), H', ⟨Nat.le_refl _⟩, by repeat (first | exact Drawn0.refl _ | apply Drawn0.step)⟩
  case round =>
    clear H'
    try clear c1
    obtain ⟨x3_1, x4_1, rfl, rfl, HA, HK1, ⟨m1, rfl⟩⟩ := hrel
    cases gk with
    | zero => exact absurd HA.out (by simp [garretref17_Made.l0])
    | succ k1 =>
      have H := HA.out
      clear HA
      simp only [garretref17_Made.l0] at H
      by_cases c2 : x4_1 < (l0.length : Int)
      · rw [if_pos c2] at H
        have c2b0 : decide (x4_1 < (l0.length : Int)) = true := decide_eq_true c2
        clear c2
        by_cases c3 : x4_1 > 0
        · rw [if_pos c3] at H
          have c3b0 : decide (0 < x4_1) = true := decide_eq_true c3
          clear c3
          by_cases c4 : x3_1.size + 1 ≤ 9223372036854775807
          · rw [if_pos c4] at H
            have c4b0 := eq_true c4
            have c4b1 : decide (x3_1.size + 1 ≤ 9223372036854775807) = true := decide_eq_true c4
            try have c4b2 : (9223372036854775807 < x3_1.size + 1) = False := eq_false (Nat.not_lt.2 c4)
            by_cases c5 : 0 ≤ x4_1
            · rw [if_pos c5] at H
              have c5b0 : decide (0 ≤ x4_1) = true := decide_eq_true c5
              clear c5
              by_cases c6 : (x3_1 ++ (⟨#[47]⟩ : ByteArray)).size + (rdOf ByteArray.empty l0 x4_1).size ≤ 9223372036854775807
              · rw [if_pos c6] at H
                have c6b0 := eq_true c6
                have c6b1 : decide ((x3_1 ++ (⟨#[47]⟩ : ByteArray)).size + (rdOf ByteArray.empty l0 x4_1).size ≤ 9223372036854775807) = true := decide_eq_true c6
                try have c6b2 : (9223372036854775807 < (x3_1 ++ (⟨#[47]⟩ : ByteArray)).size + (rdOf ByteArray.empty l0 x4_1).size) = False := eq_false (Nat.not_lt.2 c6)
                have H' := Aside0.mk H
                clear H
                have p162 : 0 ≤ (x4_1 : Int) := of_decide_eq_true (by first | (with_reducible assumption) | assumption)
                have q162 : x4_1 < (l0.length : Int) := of_decide_eq_true (by first | (with_reducible assumption) | assumption)
                obtain ⟨ad162, e162, hx162_0⟩ := Kd.at_string HR0.out x4_1 p162 q162
                cases e162
                replace p162 := eq_true p162
                replace q162 := eq_true q162
                go_wp2
                go_roundg k1
                case measure => have := HK1.out; omega
                case rel => exact ⟨((x3_1 ++ (⟨#[47]⟩ : ByteArray)) ++ (rdOf ByteArray.empty l0 x4_1)), (wrap64 (x4_1 + 1)), (by first | rfl | (simp; done) | (simp [*]; done)), (by first | rfl | (simp; done) | (simp [*]; done)), H', ⟨by have := HK1.out; omega⟩, by repeat (first | exact Drawn0.refl _ | apply Drawn0.step)⟩
              · rw [if_neg c6] at H
                exact absurd H (by simp)
            · rw [if_neg c5] at H
              exact absurd H (by simp)
          · rw [if_neg c4] at H
            exact absurd H (by simp)
        · rw [if_neg c3] at H
          have c3b0 : decide (0 < x4_1) = false := decide_eq_false c3
          clear c3
          by_cases c7 : 0 ≤ x4_1
          · rw [if_pos c7] at H
            have c7b0 : decide (0 ≤ x4_1) = true := decide_eq_true c7
            clear c7
            by_cases c8 : x3_1.size + (rdOf ByteArray.empty l0 x4_1).size ≤ 9223372036854775807
            · rw [if_pos c8] at H
              have c8b0 := eq_true c8
              have c8b1 : decide (x3_1.size + (rdOf ByteArray.empty l0 x4_1).size ≤ 9223372036854775807) = true := decide_eq_true c8
              try have c8b2 : (9223372036854775807 < x3_1.size + (rdOf ByteArray.empty l0 x4_1).size) = False := eq_false (Nat.not_lt.2 c8)
              have H' := Aside0.mk H
              clear H
              have p163 : 0 ≤ (x4_1 : Int) := of_decide_eq_true (by first | (with_reducible assumption) | assumption)
              have q163 : x4_1 < (l0.length : Int) := of_decide_eq_true (by first | (with_reducible assumption) | assumption)
              obtain ⟨ad163, e163, hx163_0⟩ := Kd.at_string HR0.out x4_1 p163 q163
              cases e163
              replace p163 := eq_true p163
              replace q163 := eq_true q163
              go_wp2
              go_roundg k1
              case measure => have := HK1.out; omega
              case rel => exact ⟨(x3_1 ++ (rdOf ByteArray.empty l0 x4_1)), (wrap64 (x4_1 + 1)), (by first | rfl | (simp; done) | (simp [*]; done)), (by first | rfl | (simp; done) | (simp [*]; done)), H', ⟨by have := HK1.out; omega⟩, by repeat (first | exact Drawn0.refl _ | apply Drawn0.step)⟩
            · rw [if_neg c8] at H
              exact absurd H (by simp)
          · rw [if_neg c7] at H
            exact absurd H (by simp)
      · rw [if_neg c2] at H
        have c2b0 : decide (x4_1 < (l0.length : Int)) = false := decide_eq_false c2
        clear c2
        obtain rfl := Option.some.inj H
        go_wp2
        go_ret
        exact ⟨by first | rfl | (simp; done) | (simp [*]; done), by repeat (first | exact Drawn0.refl _ | apply Drawn0.step)⟩

end Go.Proofs.YtkicenkljjpcfaaGreatDoor.Q
-- Made by wip/qprint.sh (a patched copy of the kit's print program) out of the translation. Lean checks it.
namespace Go.Proofs.YtkicenkljjpcfaaGreatDoor.Q
open Go.RowKit Go.Proofs.YtkicenkljjpcfaaGreatDoorW.PrintWords Go.Proofs.YtkicenkljjpcfaaGreatDoorW.PrintLast Go.Proofs.YtkicenkljjpcfaaGreatDoorW.PrintMore
attribute [local go_sem] max2_int min2_int max_two min_two max_three min_three max_four min_four   -- for this text's walks alone
set_option linter.unusedVariables false
set_option linter.unusedSimpArgs false

/-! ### garretref17_Within: function 84 -/
def garretref17_Within.l0 : Nat → List ByteArray → List ByteArray → Int → Option (ByteArray × Bool)
  | 0, _, _, _ => none
  | k + 1, x6, x7, x8 => if x8 < (x6.length : Int) then (if 0 ≤ x8 then (if x8 < (x7.length : Int) then (if (rdOf ByteArray.empty x6 x8).toList = (rdOf ByteArray.empty x7 x8).toList then (garretref17_Within.l0 k x6 x7 (wrap64 (x8 + 1))) else (some ((⟨#[]⟩ : ByteArray), false))) else (none)) else (none)) else (if 0 ≤ (x6.length : Int) then (if (x6.length : Int) ≤ (x7.length : Int) then ((garretref17_Made.f k (x7.drop ((x6.length : Int) : Int).toNat)).bind fun t176 => (some (t176, true))) else (none)) else (none))
def garretref17_Within.f (k : Nat) (a0 : ByteArray) (a1 : ByteArray) : Option (ByteArray × Bool) := (garretref17_Parts.f k a0).bind fun t164 => ((garretref17_Parts.f k a1).bind fun t167 => (if (t164.length : Int) > (t167.length : Int) then (some ((⟨#[]⟩ : ByteArray), false)) else (garretref17_Within.l0 k t164 t167 0)))
theorem garretref17_Within.mono_l : ∀ k, (∀ y0 y1 y2, LeO (garretref17_Within.l0 k y0 y1 y2) (garretref17_Within.l0 (k + 1) y0 y1 y2))
  | 0 => fun _ _ _ r h => by simp [garretref17_Within.l0] at h
  | k + 1 => by
    have ih0 := garretref17_Within.mono_l k
    · intro y0 y1 y2
      unfold garretref17_Within.l0
      repeat' first
      | (with_reducible exact ih0 _ _ _)
      | (with_reducible exact garretref17_Made.mono _ _)
      | (with_reducible exact garretref17_Parts.mono _ _)
      | (with_reducible exact LeO.refl _)
      | (with_reducible exact LeO.none _)
      | (with_reducible refine LeO.ite ?_ ?_)
      | (with_reducible refine LeO.bind ?_ (fun _ => ?_))
      | exact ih0 _ _ _
      | exact garretref17_Made.mono _ _
      | exact garretref17_Parts.mono _ _
      | exact LeO.none _
      | refine LeO.ite ?_ ?_
      | refine LeO.bind ?_ (fun _ => ?_)
theorem garretref17_Within.mono : ∀ a0 a1 k, LeO (garretref17_Within.f k a0 a1) (garretref17_Within.f (k + 1) a0 a1) := by
  intro a0 a1 k
  have ih0 := garretref17_Within.mono_l k
  unfold garretref17_Within.f
  repeat' first
      | (with_reducible exact ih0 _ _ _)
      | (with_reducible exact garretref17_Made.mono _ _)
      | (with_reducible exact garretref17_Parts.mono _ _)
      | (with_reducible exact LeO.refl _)
      | (with_reducible exact LeO.none _)
      | (with_reducible refine LeO.ite ?_ ?_)
      | (with_reducible refine LeO.bind ?_ (fun _ => ?_))
      | exact ih0 _ _ _
      | exact garretref17_Made.mono _ _
      | exact garretref17_Parts.mono _ _
      | exact LeO.none _
      | refine LeO.ite ?_ ?_
      | refine LeO.bind ?_ (fun _ => ?_)
set_option maxHeartbeats 8000000 in
set_option maxRecDepth 100000 in
theorem garretref17_Within.calls (k : Nat) (a0 : ByteArray) (a1 : ByteArray) (r1 : ByteArray) (r2 : Bool) (w : World) (h : garretref17_Within.f k a0 a1 = some (r1, r2)) :
    Calls Tryz.prog 84 #[.string a0, .string a1] w fun e w' => e = .returned (.tuple #[.string r1, .bool r2]) ∧ Below w.heap.size w w' := by
  have HB := Aside0.mk (Below.refl w.heap.size w)
  have H : ((garretref17_Parts.f k a0).bind fun t164 => ((garretref17_Parts.f k a1).bind fun t167 => (if (t164.length : Int) > (t167.length : Int) then (some ((⟨#[]⟩ : ByteArray), false)) else (garretref17_Within.l0 k t164 t167 0)))) = some (r1, r2) := h
  clear h
  replace H := Option.bind_eq_some_iff.mp H
  obtain ⟨t164, A30, H⟩ := H
  replace H : ((garretref17_Parts.f k a1).bind fun t167 => (if (t164.length : Int) > (t167.length : Int) then (some ((⟨#[]⟩ : ByteArray), false)) else (garretref17_Within.l0 k t164 t167 0))) = some (r1, r2) := H
  have A3 := Aside0.mk A30
  clear A30
  replace H := Option.bind_eq_some_iff.mp H
  obtain ⟨t167, A40, H⟩ := H
  replace H : (if (t164.length : Int) > (t167.length : Int) then (some ((⟨#[]⟩ : ByteArray), false)) else (garretref17_Within.l0 k t164 t167 0)) = some (r1, r2) := H
  have A4 := Aside0.mk A40
  clear A40
  by_cases c5 : (t164.length : Int) > (t167.length : Int)
  · rw [if_pos c5] at H
    have c5b0 : decide ((t167.length : Int) < (t164.length : Int)) = true := decide_eq_true c5
    have c5b1 : decide (t167.length < t164.length) = true := decide_eq_true (Int.ofNat_lt.mp c5)
    clear c5
    simp only [Option.some.injEq, Prod.mk.injEq] at H
    obtain ⟨rfl, rfl⟩ := H
    go_enter Tryz.func84, Tryz.ntmps84
    go_wp2_with (first | (go_at_call 101; (with_reducible refine (garretref17_Parts.calls k a0 t164 _ A3.out).mono ?_); rintro e w6 ⟨v165, rfl, ho0, hb⟩; have n0_ := Aside0.mk (Kd.R_lower ho0 (below_size (by repeat (first | (with_reducible first | exact HB.out | apply below_alloc | apply pw_below_drewN | apply below_drew1) | exact HB.out)))); have n1_ := Aside0.mk (below_step (by repeat (first | (with_reducible first | exact HB.out | apply below_alloc | apply pw_below_drewN | apply below_drew1) | exact HB.out)) hb); clear HB; have HO166 := n0_; have HB := n1_; clear n0_ n1_; (try clear hb); (try clear hb2); (try clear hk); (try clear hi); (try clear ho0)) | (go_at_call 101; (with_reducible refine (garretref17_Parts.calls k a1 t167 _ A4.out).mono ?_); rintro e w7 ⟨v168, rfl, ho0, hb⟩; have n0_ := Aside0.mk (Kd.R_elder' (by (with_reducible repeat (first | apply Kd.R_alloc | apply Kd.R_drewN | apply Kd.R_drew)); exact HO166.out) (Kd.R_base ho0) hb); have n1_ := Aside0.mk (Kd.R_lower (Kd.R_new' ho0 (Kd.R_lt (by (with_reducible repeat (first | apply Kd.R_alloc | apply Kd.R_drewN | apply Kd.R_drew)); exact HO166.out))) (below_size (by repeat (first | (with_reducible first | exact HB.out | apply below_alloc | apply pw_below_drewN | apply below_drew1) | exact HB.out)))); have n2_ := Aside0.mk (below_step (by repeat (first | (with_reducible first | exact HB.out | apply below_alloc | apply pw_below_drewN | apply below_drew1) | exact HB.out)) hb); clear HO166; clear HB; have HO166 := n0_; have HO169 := n1_; have HB := n2_; clear n0_ n1_ n2_; (try clear hb); (try clear hb2); (try clear hk); (try clear hi); (try clear ho0); obtain ⟨Ao8, co8, eo8⟩ := Kd.R_slice HO166.out; subst eo8; obtain ⟨Ao9, co9, eo9⟩ := Kd.R_slice HO169.out; subst eo9))
    repeat (go_quiet (first | (go_at_call 101; (with_reducible refine (garretref17_Parts.calls k a0 t164 _ A3.out).mono ?_); rintro e w6 ⟨v165, rfl, ho0, hb⟩; have n0_ := Aside0.mk (Kd.R_lower ho0 (below_size (by repeat (first | (with_reducible first | exact HB.out | apply below_alloc | apply pw_below_drewN | apply below_drew1) | exact HB.out)))); have n1_ := Aside0.mk (below_step (by repeat (first | (with_reducible first | exact HB.out | apply below_alloc | apply pw_below_drewN | apply below_drew1) | exact HB.out)) hb); clear HB; have HO166 := n0_; have HB := n1_; clear n0_ n1_; (try clear hb); (try clear hb2); (try clear hk); (try clear hi); (try clear ho0)) | (go_at_call 101; (with_reducible refine (garretref17_Parts.calls k a1 t167 _ A4.out).mono ?_); rintro e w7 ⟨v168, rfl, ho0, hb⟩; have n0_ := Aside0.mk (Kd.R_elder' (by (with_reducible repeat (first | apply Kd.R_alloc | apply Kd.R_drewN | apply Kd.R_drew)); exact HO166.out) (Kd.R_base ho0) hb); have n1_ := Aside0.mk (Kd.R_lower (Kd.R_new' ho0 (Kd.R_lt (by (with_reducible repeat (first | apply Kd.R_alloc | apply Kd.R_drewN | apply Kd.R_drew)); exact HO166.out))) (below_size (by repeat (first | (with_reducible first | exact HB.out | apply below_alloc | apply pw_below_drewN | apply below_drew1) | exact HB.out)))); have n2_ := Aside0.mk (below_step (by repeat (first | (with_reducible first | exact HB.out | apply below_alloc | apply pw_below_drewN | apply below_drew1) | exact HB.out)) hb); clear HO166; clear HB; have HO166 := n0_; have HO169 := n1_; have HB := n2_; clear n0_ n1_ n2_; (try clear hb); (try clear hb2); (try clear hk); (try clear hi); (try clear ho0); obtain ⟨Ao8, co8, eo8⟩ := Kd.R_slice HO166.out; subst eo8; obtain ⟨Ao9, co9, eo9⟩ := Kd.R_slice HO169.out; subst eo9)); try go_wp2_with (first | (go_at_call 101; (with_reducible refine (garretref17_Parts.calls k a0 t164 _ A3.out).mono ?_); rintro e w6 ⟨v165, rfl, ho0, hb⟩; have n0_ := Aside0.mk (Kd.R_lower ho0 (below_size (by repeat (first | (with_reducible first | exact HB.out | apply below_alloc | apply pw_below_drewN | apply below_drew1) | exact HB.out)))); have n1_ := Aside0.mk (below_step (by repeat (first | (with_reducible first | exact HB.out | apply below_alloc | apply pw_below_drewN | apply below_drew1) | exact HB.out)) hb); clear HB; have HO166 := n0_; have HB := n1_; clear n0_ n1_; (try clear hb); (try clear hb2); (try clear hk); (try clear hi); (try clear ho0)) | (go_at_call 101; (with_reducible refine (garretref17_Parts.calls k a1 t167 _ A4.out).mono ?_); rintro e w7 ⟨v168, rfl, ho0, hb⟩; have n0_ := Aside0.mk (Kd.R_elder' (by (with_reducible repeat (first | apply Kd.R_alloc | apply Kd.R_drewN | apply Kd.R_drew)); exact HO166.out) (Kd.R_base ho0) hb); have n1_ := Aside0.mk (Kd.R_lower (Kd.R_new' ho0 (Kd.R_lt (by (with_reducible repeat (first | apply Kd.R_alloc | apply Kd.R_drewN | apply Kd.R_drew)); exact HO166.out))) (below_size (by repeat (first | (with_reducible first | exact HB.out | apply below_alloc | apply pw_below_drewN | apply below_drew1) | exact HB.out)))); have n2_ := Aside0.mk (below_step (by repeat (first | (with_reducible first | exact HB.out | apply below_alloc | apply pw_below_drewN | apply below_drew1) | exact HB.out)) hb); clear HO166; clear HB; have HO166 := n0_; have HO169 := n1_; have HB := n2_; clear n0_ n1_ n2_; (try clear hb); (try clear hb2); (try clear hk); (try clear hi); (try clear ho0); obtain ⟨Ao8, co8, eo8⟩ := Kd.R_slice HO166.out; subst eo8; obtain ⟨Ao9, co9, eo9⟩ := Kd.R_slice HO169.out; subst eo9)))
    go_ret2
    exact ⟨by first | rfl | (simp [errW_none, errW_some] <;> rfl) | (simp [*, errW_none, errW_some] <;> rfl), by repeat (first | (with_reducible first | exact HB.out | apply below_alloc | apply pw_below_drewN | apply below_drew1) | exact HB.out)⟩
  · rw [if_neg c5] at H
    have c5b0 : decide ((t167.length : Int) < (t164.length : Int)) = false := decide_eq_false c5
    have c5b1 : decide (t167.length < t164.length) = false := decide_eq_false (fun h => c5 (Int.ofNat_lt.mpr h))
    clear c5
    have H' := Aside0.mk H
    clear H
    go_enter Tryz.func84, Tryz.ntmps84
    go_wp2_with (first | (go_at_call 101; (with_reducible refine (garretref17_Parts.calls k a0 t164 _ A3.out).mono ?_); rintro e w10 ⟨v165, rfl, ho0, hb⟩; have n0_ := Aside0.mk (Kd.R_lower ho0 (below_size (by repeat (first | (with_reducible first | exact HB.out | apply below_alloc | apply pw_below_drewN | apply below_drew1) | exact HB.out)))); have n1_ := Aside0.mk (below_step (by repeat (first | (with_reducible first | exact HB.out | apply below_alloc | apply pw_below_drewN | apply below_drew1) | exact HB.out)) hb); clear HB; have HO166 := n0_; have HB := n1_; clear n0_ n1_; (try clear hb); (try clear hb2); (try clear hk); (try clear hi); (try clear ho0)) | (go_at_call 101; (with_reducible refine (garretref17_Parts.calls k a1 t167 _ A4.out).mono ?_); rintro e w11 ⟨v168, rfl, ho0, hb⟩; have n0_ := Aside0.mk (Kd.R_elder' (by (with_reducible repeat (first | apply Kd.R_alloc | apply Kd.R_drewN | apply Kd.R_drew)); exact HO166.out) (Kd.R_base ho0) hb); have n1_ := Aside0.mk (Kd.R_lower (Kd.R_new' ho0 (Kd.R_lt (by (with_reducible repeat (first | apply Kd.R_alloc | apply Kd.R_drewN | apply Kd.R_drew)); exact HO166.out))) (below_size (by repeat (first | (with_reducible first | exact HB.out | apply below_alloc | apply pw_below_drewN | apply below_drew1) | exact HB.out)))); have n2_ := Aside0.mk (below_step (by repeat (first | (with_reducible first | exact HB.out | apply below_alloc | apply pw_below_drewN | apply below_drew1) | exact HB.out)) hb); clear HO166; clear HB; have HO166 := n0_; have HO169 := n1_; have HB := n2_; clear n0_ n1_ n2_; (try clear hb); (try clear hb2); (try clear hk); (try clear hi); (try clear ho0); obtain ⟨Ao12, co12, eo12⟩ := Kd.R_slice HO166.out; subst eo12; obtain ⟨Ao13, co13, eo13⟩ := Kd.R_slice HO169.out; subst eo13))
    repeat (go_quiet (first | (go_at_call 101; (with_reducible refine (garretref17_Parts.calls k a0 t164 _ A3.out).mono ?_); rintro e w10 ⟨v165, rfl, ho0, hb⟩; have n0_ := Aside0.mk (Kd.R_lower ho0 (below_size (by repeat (first | (with_reducible first | exact HB.out | apply below_alloc | apply pw_below_drewN | apply below_drew1) | exact HB.out)))); have n1_ := Aside0.mk (below_step (by repeat (first | (with_reducible first | exact HB.out | apply below_alloc | apply pw_below_drewN | apply below_drew1) | exact HB.out)) hb); clear HB; have HO166 := n0_; have HB := n1_; clear n0_ n1_; (try clear hb); (try clear hb2); (try clear hk); (try clear hi); (try clear ho0)) | (go_at_call 101; (with_reducible refine (garretref17_Parts.calls k a1 t167 _ A4.out).mono ?_); rintro e w11 ⟨v168, rfl, ho0, hb⟩; have n0_ := Aside0.mk (Kd.R_elder' (by (with_reducible repeat (first | apply Kd.R_alloc | apply Kd.R_drewN | apply Kd.R_drew)); exact HO166.out) (Kd.R_base ho0) hb); have n1_ := Aside0.mk (Kd.R_lower (Kd.R_new' ho0 (Kd.R_lt (by (with_reducible repeat (first | apply Kd.R_alloc | apply Kd.R_drewN | apply Kd.R_drew)); exact HO166.out))) (below_size (by repeat (first | (with_reducible first | exact HB.out | apply below_alloc | apply pw_below_drewN | apply below_drew1) | exact HB.out)))); have n2_ := Aside0.mk (below_step (by repeat (first | (with_reducible first | exact HB.out | apply below_alloc | apply pw_below_drewN | apply below_drew1) | exact HB.out)) hb); clear HO166; clear HB; have HO166 := n0_; have HO169 := n1_; have HB := n2_; clear n0_ n1_ n2_; (try clear hb); (try clear hb2); (try clear hk); (try clear hi); (try clear ho0); obtain ⟨Ao12, co12, eo12⟩ := Kd.R_slice HO166.out; subst eo12; obtain ⟨Ao13, co13, eo13⟩ := Kd.R_slice HO169.out; subst eo13)); try go_wp2_with (first | (go_at_call 101; (with_reducible refine (garretref17_Parts.calls k a0 t164 _ A3.out).mono ?_); rintro e w10 ⟨v165, rfl, ho0, hb⟩; have n0_ := Aside0.mk (Kd.R_lower ho0 (below_size (by repeat (first | (with_reducible first | exact HB.out | apply below_alloc | apply pw_below_drewN | apply below_drew1) | exact HB.out)))); have n1_ := Aside0.mk (below_step (by repeat (first | (with_reducible first | exact HB.out | apply below_alloc | apply pw_below_drewN | apply below_drew1) | exact HB.out)) hb); clear HB; have HO166 := n0_; have HB := n1_; clear n0_ n1_; (try clear hb); (try clear hb2); (try clear hk); (try clear hi); (try clear ho0)) | (go_at_call 101; (with_reducible refine (garretref17_Parts.calls k a1 t167 _ A4.out).mono ?_); rintro e w11 ⟨v168, rfl, ho0, hb⟩; have n0_ := Aside0.mk (Kd.R_elder' (by (with_reducible repeat (first | apply Kd.R_alloc | apply Kd.R_drewN | apply Kd.R_drew)); exact HO166.out) (Kd.R_base ho0) hb); have n1_ := Aside0.mk (Kd.R_lower (Kd.R_new' ho0 (Kd.R_lt (by (with_reducible repeat (first | apply Kd.R_alloc | apply Kd.R_drewN | apply Kd.R_drew)); exact HO166.out))) (below_size (by repeat (first | (with_reducible first | exact HB.out | apply below_alloc | apply pw_below_drewN | apply below_drew1) | exact HB.out)))); have n2_ := Aside0.mk (below_step (by repeat (first | (with_reducible first | exact HB.out | apply below_alloc | apply pw_below_drewN | apply below_drew1) | exact HB.out)) hb); clear HO166; clear HB; have HO166 := n0_; have HO169 := n1_; have HB := n2_; clear n0_ n1_ n2_; (try clear hb); (try clear hb2); (try clear hk); (try clear hi); (try clear ho0); obtain ⟨Ao12, co12, eo12⟩ := Kd.R_slice HO166.out; subst eo12; obtain ⟨Ao13, co13, eo13⟩ := Kd.R_slice HO169.out; subst eo13)))
    go_loopg [8] k (fun kq v8 w' => ∃ (x8_1 : Int), v8 = .int .i64 x8_1 ∧ Aside0 (garretref17_Within.l0 kq t164 t167 x8_1 = some (r1, r2)) ∧ Aside0 (kq ≤ k) ∧ Aside0 (Kd.R Kd.string 9 w' w.heap.size (fun k_ => some k_ ≠ ((.slice Ao13 t167.length co13) : Value).ownBlock) (.slice Ao12 t164.length co12) t164) ∧ Aside0 (Kd.R Kd.string 9 w' w.heap.size (fun k_ => some k_ ≠ ((.slice Ao12 t164.length co12) : Value).ownBlock) (.slice Ao13 t167.length co13) t167) ∧ Aside0 (Below w.heap.size w w'))
    case atStart => exact ⟨(0), (by first | rfl | (simp; done) | (simp [*]; done)), H', ⟨Nat.le_refl _⟩, ⟨by (with_reducible repeat (first | apply Kd.R_alloc | apply Kd.R_drewN | apply Kd.R_drew)); exact Kd.R_mono HO166.out (fun _ hk => hk.2)⟩, ⟨by (with_reducible repeat (first | apply Kd.R_alloc | apply Kd.R_drewN | apply Kd.R_drew)); exact Kd.R_mono HO169.out (fun _ hk => hk.2)⟩, ⟨by repeat (first | (with_reducible first | exact HB.out | apply below_alloc | apply pw_below_drewN | apply below_drew1) | exact HB.out)⟩⟩
    case round =>
      clear H'
      try clear p2
      try clear c5
      try clear c5b0
      try clear c5b1
      try clear c8
      obtain ⟨x8_1, rfl, HA, HK1, HO_6, HO_7, HB⟩ := hrel
      cases gk with
      | zero => exact absurd HA.out (by simp [garretref17_Within.l0])
      | succ k1 =>
        have H := HA.out
        clear HA
        simp only [garretref17_Within.l0] at H
        by_cases c14 : x8_1 < (t164.length : Int)
        · rw [if_pos c14] at H
          have c14b0 : decide (x8_1 < (t164.length : Int)) = true := decide_eq_true c14
          clear c14
          by_cases c15 : 0 ≤ x8_1
          · rw [if_pos c15] at H
            have c15b0 : decide (0 ≤ x8_1) = true := decide_eq_true c15
            clear c15
            by_cases c16 : x8_1 < (t167.length : Int)
            · rw [if_pos c16] at H
              have c16b0 : decide (x8_1 < (t167.length : Int)) = true := decide_eq_true c16
              clear c16
              by_cases c17 : (rdOf ByteArray.empty t164 x8_1).toList = (rdOf ByteArray.empty t167 x8_1).toList
              · rw [if_pos c17] at H
                have c17b0 : ((rdOf ByteArray.empty t164 x8_1).toList == (rdOf ByteArray.empty t167 x8_1).toList) = true := beq_iff_eq.mpr c17
                have c17b1 : ((rdOf ByteArray.empty t164 x8_1).toList != (rdOf ByteArray.empty t167 x8_1).toList) = false := bne_eq_false_iff_eq.mpr c17
                clear c17
                have H' := Aside0.mk H
                clear H
                have p170 : 0 ≤ (x8_1 : Int) := of_decide_eq_true (by first | (with_reducible assumption) | assumption)
                have q170 : x8_1 < (t164.length : Int) := of_decide_eq_true (by first | (with_reducible assumption) | assumption)
                obtain ⟨ad170, e170, hx170_0⟩ := Kd.at_string (Kd.R_reads' HO_6.out).2.2 x8_1 p170 q170
                cases e170
                replace p170 := eq_true p170
                replace q170 := eq_true q170
                have p171 : 0 ≤ (x8_1 : Int) := of_decide_eq_true (by first | (with_reducible assumption) | assumption)
                have q171 : x8_1 < (t167.length : Int) := of_decide_eq_true (by first | (with_reducible assumption) | assumption)
                obtain ⟨ad171, e171, hx171_0⟩ := Kd.at_string (Kd.R_reads' HO_7.out).2.2 x8_1 p171 q171
                cases e171
                replace p171 := eq_true p171
                replace q171 := eq_true q171
                go_wp2
                repeat (go_quiet (fail); try go_wp2)
                go_roundg k1
                case measure => have := HK1.out; omega
                case rel => exact ⟨(wrap64 (x8_1 + 1)), (by first | rfl | (simp; done) | (simp [*]; done)), H', ⟨by have := HK1.out; omega⟩, ⟨by (with_reducible repeat (first | apply Kd.R_alloc | apply Kd.R_drewN | apply Kd.R_drew)); exact HO_6.out⟩, ⟨by (with_reducible repeat (first | apply Kd.R_alloc | apply Kd.R_drewN | apply Kd.R_drew)); exact HO_7.out⟩, ⟨by repeat (first | (with_reducible first | exact HB.out | apply below_alloc | apply pw_below_drewN | apply below_drew1) | exact HB.out)⟩⟩
              · rw [if_neg c17] at H
                have c17b0 : ((rdOf ByteArray.empty t164 x8_1).toList == (rdOf ByteArray.empty t167 x8_1).toList) = false := beq_eq_false_iff_ne.mpr c17
                have c17b1 : ((rdOf ByteArray.empty t164 x8_1).toList != (rdOf ByteArray.empty t167 x8_1).toList) = true := bne_iff_ne.mpr c17
                simp only [Option.some.injEq, Prod.mk.injEq] at H
                obtain ⟨rfl, rfl⟩ := H
                have p170 : 0 ≤ (x8_1 : Int) := of_decide_eq_true (by first | (with_reducible assumption) | assumption)
                have q170 : x8_1 < (t164.length : Int) := of_decide_eq_true (by first | (with_reducible assumption) | assumption)
                obtain ⟨ad170, e170, hx170_0⟩ := Kd.at_string (Kd.R_reads' HO_6.out).2.2 x8_1 p170 q170
                cases e170
                replace p170 := eq_true p170
                replace q170 := eq_true q170
                have p171 : 0 ≤ (x8_1 : Int) := of_decide_eq_true (by first | (with_reducible assumption) | assumption)
                have q171 : x8_1 < (t167.length : Int) := of_decide_eq_true (by first | (with_reducible assumption) | assumption)
                obtain ⟨ad171, e171, hx171_0⟩ := Kd.at_string (Kd.R_reads' HO_7.out).2.2 x8_1 p171 q171
                cases e171
                replace p171 := eq_true p171
                replace q171 := eq_true q171
                go_wp2
                repeat (go_quiet (fail); try go_wp2)
                go_ret2
                exact ⟨by first | rfl | (simp [errW_none, errW_some] <;> rfl) | (simp [*, errW_none, errW_some] <;> rfl), by repeat (first | (with_reducible first | exact HB.out | apply below_alloc | apply pw_below_drewN | apply below_drew1) | exact HB.out)⟩
            · rw [if_neg c16] at H
              exact absurd H (by simp)
          · rw [if_neg c15] at H
            exact absurd H (by simp)
        · rw [if_neg c14] at H
          have c14b0 : decide (x8_1 < (t164.length : Int)) = false := decide_eq_false c14
          clear c14
          by_cases c18 : 0 ≤ (t164.length : Int)
          · rw [if_pos c18] at H
            have c18b0 := eq_true c18
            have c18b1 : decide (0 ≤ (t164.length : Int)) = true := decide_eq_true c18
            clear c18
            by_cases c19 : (t164.length : Int) ≤ (t167.length : Int)
            · rw [if_pos c19] at H
              have c19b0 := eq_true c19
              have c19b1 : decide ((t164.length : Int) ≤ (t167.length : Int)) = true := decide_eq_true c19
              clear c19
              obtain ⟨y172, hy172⟩ : ∃ y_ : List ByteArray, y_ = (t167.drop ((t164.length : Int) : Int).toNat) := ⟨_, rfl⟩
              replace H : ((garretref17_Made.f k1 y172).bind fun t176 => (some (t176, true))) = some (r1, r2) := by first | (rw [hy172]; with_reducible exact H) | (have H2_ := (Option.bind_some _ _).symm.trans H; rw [hy172]; with_reducible exact H2_) | (have H2_ := (Option.bind_some _ _).symm.trans H; with_reducible exact H2_) | with_reducible exact H | (rw [hy172]; exact H) | exact H
              have Ny172 := Aside0.mk hy172
              clear hy172
              replace H := Option.bind_eq_some_iff.mp H
              obtain ⟨t176, A200, H⟩ := H
              replace H : (some (t176, true)) = some (r1, r2) := H
              have A20 := Aside0.mk A200
              clear A200
              simp only [Option.some.injEq, Prod.mk.injEq] at H
              obtain ⟨rfl, rfl⟩ := H
              have q21 : ((t164.length : Int) : Int) ≤ ((t167.length : Int) : Int) := of_decide_eq_true (by first | (with_reducible assumption) | assumption)
              obtain ⟨i021, hi021, _, hsz21, _⟩ := info_parts info9
              have hroom21 : t167.length ≤ co13 := (Kd.R_reads' HO_7.out).2.1
              have hC21 : Kd.C Kd.string _ Ao13 t167.length t167 := (Kd.R_reads' HO_7.out).2.2
              have q021 : (0 : Int) ≤ ((t164.length : Int) : Int) := of_decide_eq_true (by first | (with_reducible assumption) | assumption)
              have hcut21 := cut_from (P := Tryz.prog) 25 9 .i64 Tryz.underlying25 hi021 1 hsz21 Ao13 t167.length co13 (t164.length : Int) q021 q21
              have hr21 := Kd.C_drop (m := ((t164.length : Int) : Int).toNat) (c := co13) hC21 (by omega) hroom21
              obtain ⟨A21, hA21⟩ : ∃ A1, A1 = (if co13 = ((t164.length : Int) : Int).toNat then Ao13 else (Ao13 : Option Addr).map (·.add (((t164.length : Int) : Int).toNat * 1))) := ⟨_, rfl⟩
              obtain ⟨c21, hc21⟩ : ∃ c1, c1 = co13 - ((t164.length : Int) : Int).toNat := ⟨_, rfl⟩
              have hy21 : y172.length = t167.length - ((t164.length : Int) : Int).toNat := (by rw [Ny172.out, List.length_drop] <;> omega)
              rw [show (t167).drop ((t164.length : Int) : Int).toNat = y172 from Ny172.out.symm] at hr21
              replace hr21 : Kd.C Kd.string _ A21 y172.length y172 := (by rw [hA21]; exact hr21)
              rw [← hy21, ← hA21, ← hc21] at hcut21
              have HR175 := Aside0.mk hr21
              have HC175 := Aside0.mk (show y172.length ≤ c21 from by rw [hy21, hc21]; exact Nat.sub_le_sub_right hroom21 _)
              clear hr21 hC21 hroom21 hi021 hsz21 hc21
              have KY21 := Aside0.mk hy21
              have KA21 := Aside0.mk hA21
              clear hy21 hA21
              have KL21 := Aside0.mk (show ((t164.length : Int) : Int).toNat ≤ t167.length from by omega)
              replace q21 := eq_true q21
              go_wp2_with (first | (go_at_call 102; (with_reducible refine (garretref17_Made.calls k1 _ _ y172 t176 _ ?side1 ?side2 A20.out).mono ?_); (case side1 => repeat (first | exact (by repeat (first | (with_reducible exact HR175.out) | (with_reducible refine Kd.C_alloc ?_ _) | (with_reducible refine Kd.C_drewN ?_ _) | (with_reducible refine Kd.C_drew ?_) | exact HR175.out)) | (with_reducible refine Kd.C_alloc ?_ _) | (with_reducible refine Kd.C_drewN ?_ _) | (with_reducible refine Kd.C_drew ?_))); (case side2 => exact HC175.out); rintro e w' ⟨rfl, ⟨nd, rfl⟩⟩; (try first | exact ⟨rfl, _, World.drewN_drewN _ _ _⟩ | exact ⟨rfl, _, Eq.trans (World.drewN_drewN _ _ _) (congrArg (World.drewN _) (Nat.add_assoc _ _ _))⟩)))
              repeat (go_quiet (first | (go_at_call 102; (with_reducible refine (garretref17_Made.calls k1 _ _ y172 t176 _ ?side1 ?side2 A20.out).mono ?_); (case side1 => repeat (first | exact (by repeat (first | (with_reducible exact HR175.out) | (with_reducible refine Kd.C_alloc ?_ _) | (with_reducible refine Kd.C_drewN ?_ _) | (with_reducible refine Kd.C_drew ?_) | exact HR175.out)) | (with_reducible refine Kd.C_alloc ?_ _) | (with_reducible refine Kd.C_drewN ?_ _) | (with_reducible refine Kd.C_drew ?_))); (case side2 => exact HC175.out); rintro e w' ⟨rfl, ⟨nd, rfl⟩⟩; (try first | exact ⟨rfl, _, World.drewN_drewN _ _ _⟩ | exact ⟨rfl, _, Eq.trans (World.drewN_drewN _ _ _) (congrArg (World.drewN _) (Nat.add_assoc _ _ _))⟩))); try go_wp2_with (first | (go_at_call 102; (with_reducible refine (garretref17_Made.calls k1 _ _ y172 t176 _ ?side1 ?side2 A20.out).mono ?_); (case side1 => repeat (first | exact (by repeat (first | (with_reducible exact HR175.out) | (with_reducible refine Kd.C_alloc ?_ _) | (with_reducible refine Kd.C_drewN ?_ _) | (with_reducible refine Kd.C_drew ?_) | exact HR175.out)) | (with_reducible refine Kd.C_alloc ?_ _) | (with_reducible refine Kd.C_drewN ?_ _) | (with_reducible refine Kd.C_drew ?_))); (case side2 => exact HC175.out); rintro e w' ⟨rfl, ⟨nd, rfl⟩⟩; (try first | exact ⟨rfl, _, World.drewN_drewN _ _ _⟩ | exact ⟨rfl, _, Eq.trans (World.drewN_drewN _ _ _) (congrArg (World.drewN _) (Nat.add_assoc _ _ _))⟩))))
              go_ret2
              exact ⟨by first | rfl | (simp [errW_none, errW_some] <;> rfl) | (simp [*, errW_none, errW_some] <;> rfl), by repeat (first | (with_reducible first | exact HB.out | apply below_alloc | apply pw_below_drewN | apply below_drew1) | exact HB.out)⟩
            · rw [if_neg c19] at H
              exact absurd H (by simp)
          · rw [if_neg c18] at H
            exact absurd H (by simp)

end Go.Proofs.YtkicenkljjpcfaaGreatDoor.Q
-- Made by wip/qprint.sh (a patched copy of the kit's print program) out of the translation. Lean checks it.
namespace Go.Proofs.YtkicenkljjpcfaaGreatDoor.Q
open Go.RowKit Go.Proofs.YtkicenkljjpcfaaGreatDoorW.PrintWords Go.Proofs.YtkicenkljjpcfaaGreatDoorW.PrintLast Go.Proofs.YtkicenkljjpcfaaGreatDoorW.PrintMore
attribute [local go_sem] max2_int min2_int max_two min_two max_three min_three max_four min_four   -- for this text's walks alone
set_option linter.unusedVariables false
set_option linter.unusedSimpArgs false

/-! ### garretref33_part: function 68 -/
def garretref33_part.l0 : Nat → List (S101) → ByteArray → List (S101) → Int → Option ((List (S101)))
  | 0, _, _, _, _ => none
  | k + 1, x0, x1, x5, x6 => if x6 < (x0.length : Int) then (if 0 ≤ x6 then ((garretref17_Within.f k x1 ((rd_T101 x0 x6).f0)).bind fun bt178 => (if bt178.2 = true then (if x5.length < 2199023255552 then (garretref33_part.l0 k x0 x1 (x5 ++ [(⟨(rd_T101 x0 x6).f0, (rd_T101 x0 x6).f1, (rd_T101 x0 x6).f2, (rd_T101 x0 x6).f3, (rd_T101 x0 x6).f4, (rd_T101 x0 x6).f5⟩ : S101)]) (wrap64 (x6 + 1))) else (none)) else (garretref33_part.l0 k x0 x1 x5 (wrap64 (x6 + 1))))) else (none)) else (some x5)
def garretref33_part.f (k : Nat) (l0 : List (S101)) (a1 : ByteArray) : Option ((List (S101))) := garretref33_part.l0 k l0 a1 ([] : List (S101)) 0
theorem garretref33_part.mono_l : ∀ k, (∀ y0 y1 y2 y3, LeO (garretref33_part.l0 k y0 y1 y2 y3) (garretref33_part.l0 (k + 1) y0 y1 y2 y3))
  | 0 => fun _ _ _ _ r h => by simp [garretref33_part.l0] at h
  | k + 1 => by
    have ih0 := garretref33_part.mono_l k
    · intro y0 y1 y2 y3
      unfold garretref33_part.l0
      repeat' first
      | (with_reducible exact ih0 _ _ _ _)
      | (with_reducible exact garretref17_Within.mono _ _ _)
      | (with_reducible exact LeO.refl _)
      | (with_reducible exact LeO.none _)
      | (with_reducible refine LeO.ite ?_ ?_)
      | (with_reducible refine LeO.bind ?_ (fun _ => ?_))
      | exact ih0 _ _ _ _
      | exact garretref17_Within.mono _ _ _
      | exact LeO.none _
      | refine LeO.ite ?_ ?_
      | refine LeO.bind ?_ (fun _ => ?_)
theorem garretref33_part.mono : ∀ a0 a1 k, LeO (garretref33_part.f k a0 a1) (garretref33_part.f (k + 1) a0 a1) := by
  intro a0 a1 k
  have ih0 := garretref33_part.mono_l k
  unfold garretref33_part.f
  repeat' first
      | (with_reducible exact ih0 _ _ _ _)
      | (with_reducible exact garretref17_Within.mono _ _ _)
      | (with_reducible exact LeO.refl _)
      | (with_reducible exact LeO.none _)
      | (with_reducible refine LeO.ite ?_ ?_)
      | (with_reducible refine LeO.bind ?_ (fun _ => ?_))
      | exact ih0 _ _ _ _
      | exact garretref17_Within.mono _ _ _
      | exact LeO.none _
      | refine LeO.ite ?_ ?_
      | refine LeO.bind ?_ (fun _ => ?_)
set_option maxHeartbeats 8000000 in
set_option maxRecDepth 100000 in
theorem garretref33_part.calls (k : Nat) (A0 : Option Addr) (c0 : Nat) (l0 : List (S101)) (a1 : ByteArray) (r : List (S101)) (w : World) (hr0 : Kd.C k101 w A0 l0.length l0) (hc0 : l0.length ≤ c0) (h : garretref33_part.f k l0 a1 = some r) :
    Calls Tryz.prog 68 #[.slice A0 l0.length c0, .string a1] w fun e w' => ∃ v0_ : Value, e = .returned (v0_) ∧ Kd.R k101 101 w' w.heap.size (fun _ => True) v0_ r ∧ Below w.heap.size w w' := by
  have hu101 := Tryz.underlying101
  have HR0 := Aside0.mk hr0
  have HC0 := Aside0.mk hc0
  clear hr0 hc0
  have HB := Aside0.mk (Below.refl w.heap.size w)
  have H : (garretref33_part.l0 k l0 a1 ([] : List (S101)) 0) = some r := h
  clear h
  have H' := Aside0.mk H
  clear H
  go_enter Tryz.func68, Tryz.ntmps68
  go_wp2
  go_loopg [5, 6] k (fun kq v5 v6 w' => ∃ (x5_1 : List (S101)) (x6_1 : Int), v6 = .int .i64 x6_1 ∧ Aside0 (garretref33_part.l0 kq l0 a1 x5_1 x6_1 = some r) ∧ Aside0 (kq ≤ k) ∧ Aside0 (Kd.R k101 101 w' w.heap.size (fun _ => True) v5 x5_1) ∧ Aside0 (Below w.heap.size w w'))
  case atStart => exact ⟨(([] : List (S101))), (0), (by first | rfl | (simp; done) | (simp [*]; done)), H', ⟨Nat.le_refl _⟩, ⟨by first | exact Kd.R_nil _ _ _ _ _ | exact Kd.N_nil _ _ _ _ _ | exact Kd.V_nil _ _ _ _ _ | exact Kd.Q_nil _ _ _ _ _ | exact Kd.S_nil _ _ _ _ _⟩, ⟨by repeat (first | (with_reducible first | exact HB.out | apply below_alloc | apply pw_below_drewN | apply below_drew1) | exact HB.out)⟩⟩
  case round =>
    clear H'
    try clear p2
    obtain ⟨x5_1, x6_1, rfl, HA, HK1, HO_5, HB⟩ := hrel
    cases gk with
    | zero => exact absurd HA.out (by simp [garretref33_part.l0])
    | succ k1 =>
      have H := HA.out
      clear HA
      simp only [garretref33_part.l0] at H
      by_cases c3 : x6_1 < (l0.length : Int)
      · rw [if_pos c3] at H
        have c3b0 : decide (x6_1 < (l0.length : Int)) = true := decide_eq_true c3
        clear c3
        by_cases c4 : 0 ≤ x6_1
        · rw [if_pos c4] at H
          have c4b0 : decide (0 ≤ x6_1) = true := decide_eq_true c4
          clear c4
          replace H := Option.bind_eq_some_iff.mp H
          obtain ⟨⟨t178, t179⟩, A50, H⟩ := H
          replace H : (if t179 = true then (if x5_1.length < 2199023255552 then (garretref33_part.l0 k1 l0 a1 (x5_1 ++ [(⟨(rd_T101 l0 x6_1).f0, (rd_T101 l0 x6_1).f1, (rd_T101 l0 x6_1).f2, (rd_T101 l0 x6_1).f3, (rd_T101 l0 x6_1).f4, (rd_T101 l0 x6_1).f5⟩ : S101)]) (wrap64 (x6_1 + 1))) else (none)) else (garretref33_part.l0 k1 l0 a1 x5_1 (wrap64 (x6_1 + 1)))) = some r := H
          have A5 := Aside0.mk A50
          clear A50
          by_cases c6 : t179 = true
          · subst c6
            have H1 : (if x5_1.length < 2199023255552 then (garretref33_part.l0 k1 l0 a1 (x5_1 ++ [(⟨(rd_T101 l0 x6_1).f0, (rd_T101 l0 x6_1).f1, (rd_T101 l0 x6_1).f2, (rd_T101 l0 x6_1).f3, (rd_T101 l0 x6_1).f4, (rd_T101 l0 x6_1).f5⟩ : S101)]) (wrap64 (x6_1 + 1))) else (none)) = some r := by rw [if_pos rfl] at H; exact H
            clear H
            have H := H1
            clear H1
            by_cases c7 : x5_1.length < 2199023255552
            · rw [if_pos c7] at H
              have LMc7 := Aside0.mk c7
              clear c7
              obtain ⟨y181, hy181⟩ : ∃ y_ : List (S101), y_ = (x5_1 ++ [(⟨(rd_T101 l0 x6_1).f0, (rd_T101 l0 x6_1).f1, (rd_T101 l0 x6_1).f2, (rd_T101 l0 x6_1).f3, (rd_T101 l0 x6_1).f4, (rd_T101 l0 x6_1).f5⟩ : S101)]) := ⟨_, rfl⟩
              replace H : (garretref33_part.l0 k1 l0 a1 y181 (wrap64 (x6_1 + 1))) = some r := by first | (rw [hy181]; with_reducible exact H) | (have H2_ := (Option.bind_some _ _).symm.trans H; rw [hy181]; with_reducible exact H2_) | (have H2_ := (Option.bind_some _ _).symm.trans H; with_reducible exact H2_) | with_reducible exact H | (rw [hy181]; exact H) | exact H
              have Ny181 := Aside0.mk hy181
              clear hy181
              have H' := Aside0.mk H
              clear H
              have p177 : 0 ≤ (x6_1 : Int) := of_decide_eq_true (by first | (with_reducible assumption) | assumption)
              have q177 : x6_1 < (l0.length : Int) := of_decide_eq_true (by first | (with_reducible assumption) | assumption)
              obtain ⟨ad177, e177, hx177_0, hx177_1, hx177_2, hx177_3, hx177_4, hx177_5⟩ := at_T101 HR0.out x6_1 p177 q177
              cases e177
              replace hx177_0 := (HB.out.cell (World.block_lt_of_cell? w _ hx177_0)).trans hx177_0
              replace hx177_1 := (HB.out.cell (World.block_lt_of_cell? w _ hx177_1)).trans hx177_1
              replace hx177_2 := (HB.out.cell (World.block_lt_of_cell? w _ hx177_2)).trans hx177_2
              replace hx177_3 := (HB.out.cell (World.block_lt_of_cell? w _ hx177_3)).trans hx177_3
              replace hx177_4 := (HB.out.cell (World.block_lt_of_cell? w _ hx177_4)).trans hx177_4
              replace hx177_5 := (HB.out.cell (World.block_lt_of_cell? w _ hx177_5)).trans hx177_5
              replace p177 := eq_true p177
              replace q177 := eq_true q177
              go_wp2_with (first | ((with_reducible refine gate_callee (f := 84) rfl ?_); refine goesL_ (some 22) rfl rfl Tryz.func84 (by kernel_rfl) rfl #[.string a1, .string ((rd_T101 l0 x6_1).f0)] rfl (by (try simp only [List.map_toArray, List.map_cons, List.map_nil]); first | done | rfl | (simp only [List.length_drop, List.length_take]; rfl)) ?_; (with_reducible refine (garretref17_Within.calls k1 a1 ((rd_T101 l0 x6_1).f0) t178 true _ A5.out).mono ?_); rintro e w8 ⟨rfl, hb⟩; refine ⟨_, rfl, ?_⟩; have n0_ := Aside0.mk (Kd.R_below (by (with_reducible repeat (first | apply Kd.R_alloc | apply Kd.R_drewN | apply Kd.R_drew)); exact HO_5.out) hb); have n1_ := Aside0.mk (below_step (by repeat (first | (with_reducible first | exact HB.out | apply below_alloc | apply pw_below_drewN | apply below_drew1) | exact HB.out)) hb); clear HO_5; clear HB; have HO_5 := n0_; have HB := n1_; clear n0_ n1_; (try clear hb); (try clear hb2); (try clear hk); (try clear hi); have p180 : 0 ≤ (x6_1 : Int) := of_decide_eq_true (by first | (with_reducible assumption) | assumption); have q180 : x6_1 < (l0.length : Int) := of_decide_eq_true (by first | (with_reducible assumption) | assumption); obtain ⟨ad180, e180, hx180_0, hx180_1, hx180_2, hx180_3, hx180_4, hx180_5⟩ := at_T101 HR0.out x6_1 p180 q180; obtain rfl : ad177 = ad180 := (by injection e180); replace hx180_0 := (HB.out.cell (World.block_lt_of_cell? w _ hx180_0)).trans hx180_0; replace hx180_1 := (HB.out.cell (World.block_lt_of_cell? w _ hx180_1)).trans hx180_1; replace hx180_2 := (HB.out.cell (World.block_lt_of_cell? w _ hx180_2)).trans hx180_2; replace hx180_3 := (HB.out.cell (World.block_lt_of_cell? w _ hx180_3)).trans hx180_3; replace hx180_4 := (HB.out.cell (World.block_lt_of_cell? w _ hx180_4)).trans hx180_4; replace hx180_5 := (HB.out.cell (World.block_lt_of_cell? w _ hx180_5)).trans hx180_5; replace p180 := eq_true p180; replace q180 := eq_true q180) | ((with_reducible refine gate_builtin (b := .append) (xs := #[.tmp 26, .tmp 31]) rfl ?_); at_builtin; refine Kd.R_append k101 (w0 := w) w.heap.size rfl (.tmp 26) (.tmp 31) 24 101 (.agg #[(.string ⟨#[]⟩), (.int .i64 0), (.int .i64 0), (.int .i64 0), (.int .i64 0), (.string ⟨#[]⟩)]) 64 rfl Tryz.underlying24 info101 rfl (by decide) (by omega) u5 x5_1 (⟨(rd_T101 l0 x6_1).f0, (rd_T101 l0 x6_1).f1, (rd_T101 l0 x6_1).f2, (rd_T101 l0 x6_1).f3, (rd_T101 l0 x6_1).f4, (rd_T101 l0 x6_1).f5⟩ : S101) [.string ((rd_T101 l0 x6_1).f0), .int .i64 ((rd_T101 l0 x6_1).f1), .int .i64 ((rd_T101 l0 x6_1).f2), .int .i64 ((rd_T101 l0 x6_1).f3), .int .i64 ((rd_T101 l0 x6_1).f4), .string ((rd_T101 l0 x6_1).f5)] (fun _ => True) (fun _ => False) rfl rfl ?aP (fun _ hk => hk.elim) ?aF ?aO ?aB ?aS ?aL ?_; (case aP => exact k101_mkM _ _ _ (⟨(rd_T101 l0 x6_1).f0, (rd_T101 l0 x6_1).f1, (rd_T101 l0 x6_1).f2, (rd_T101 l0 x6_1).f3, (rd_T101 l0 x6_1).f4, (rd_T101 l0 x6_1).f5⟩ : S101)); (case aB => exact (by repeat (first | (with_reducible first | exact HB.out | apply below_alloc | apply pw_below_drewN | apply below_drew1) | exact HB.out))); (case aF => exact (fun _ _ => trivial)); (case aO => exact (by (with_reducible repeat (first | apply Kd.R_alloc | apply Kd.R_drewN | apply Kd.R_drew)); exact HO_5.out)); (case aS => exact (below_size (by repeat (first | (with_reducible first | exact HB.out | apply below_alloc | apply pw_below_drewN | apply below_drew1) | exact HB.out)))); (case aL => have := LMc7.out; omega); intro v182 w9 ho hb hg hat; rw [← Ny181.out] at ho; have n0_ := Aside0.mk (hb); have n1_ := Aside0.mk (ho); clear HB; clear HO_5; have HB := n0_; have HO183 := n1_; clear n0_ n1_; clear ho hb hg hat))
              go_roundg k1
              case measure => have := HK1.out; omega
              case rel => exact ⟨(y181), (wrap64 (x6_1 + 1)), (by first | rfl | (simp; done) | (simp [*]; done)), H', ⟨by have := HK1.out; omega⟩, ⟨by (with_reducible repeat (first | apply Kd.R_alloc | apply Kd.R_drewN | apply Kd.R_drew)); exact HO183.out⟩, ⟨by repeat (first | (with_reducible first | exact HB.out | apply below_alloc | apply pw_below_drewN | apply below_drew1) | exact HB.out)⟩⟩
            · rw [if_neg c7] at H
              exact absurd H (by simp)
          · replace c6 := Bool.eq_false_iff.mpr c6
            subst c6
            have H1 : (garretref33_part.l0 k1 l0 a1 x5_1 (wrap64 (x6_1 + 1))) = some r := by rw [if_neg (show ¬ (false = true) by decide)] at H; exact H
            clear H
            have H := H1
            clear H1
            have H' := Aside0.mk H
            clear H
            have p177 : 0 ≤ (x6_1 : Int) := of_decide_eq_true (by first | (with_reducible assumption) | assumption)
            have q177 : x6_1 < (l0.length : Int) := of_decide_eq_true (by first | (with_reducible assumption) | assumption)
            obtain ⟨ad177, e177, hx177_0, hx177_1, hx177_2, hx177_3, hx177_4, hx177_5⟩ := at_T101 HR0.out x6_1 p177 q177
            cases e177
            replace hx177_0 := (HB.out.cell (World.block_lt_of_cell? w _ hx177_0)).trans hx177_0
            replace hx177_1 := (HB.out.cell (World.block_lt_of_cell? w _ hx177_1)).trans hx177_1
            replace hx177_2 := (HB.out.cell (World.block_lt_of_cell? w _ hx177_2)).trans hx177_2
            replace hx177_3 := (HB.out.cell (World.block_lt_of_cell? w _ hx177_3)).trans hx177_3
            replace hx177_4 := (HB.out.cell (World.block_lt_of_cell? w _ hx177_4)).trans hx177_4
            replace hx177_5 := (HB.out.cell (World.block_lt_of_cell? w _ hx177_5)).trans hx177_5
            replace p177 := eq_true p177
            replace q177 := eq_true q177
            go_wp2_with (first | ((with_reducible refine gate_callee (f := 84) rfl ?_); refine goesL_ (some 22) rfl rfl Tryz.func84 (by kernel_rfl) rfl #[.string a1, .string ((rd_T101 l0 x6_1).f0)] rfl (by (try simp only [List.map_toArray, List.map_cons, List.map_nil]); first | done | rfl | (simp only [List.length_drop, List.length_take]; rfl)) ?_; (with_reducible refine (garretref17_Within.calls k1 a1 ((rd_T101 l0 x6_1).f0) t178 false _ A5.out).mono ?_); rintro e w10 ⟨rfl, hb⟩; refine ⟨_, rfl, ?_⟩; have n0_ := Aside0.mk (Kd.R_below (by (with_reducible repeat (first | apply Kd.R_alloc | apply Kd.R_drewN | apply Kd.R_drew)); exact HO_5.out) hb); have n1_ := Aside0.mk (below_step (by repeat (first | (with_reducible first | exact HB.out | apply below_alloc | apply pw_below_drewN | apply below_drew1) | exact HB.out)) hb); clear HO_5; clear HB; have HO_5 := n0_; have HB := n1_; clear n0_ n1_; (try clear hb); (try clear hb2); (try clear hk); (try clear hi)))
            go_roundg k1
            case measure => have := HK1.out; omega
            case rel => exact ⟨(x5_1), (wrap64 (x6_1 + 1)), (by first | rfl | (simp; done) | (simp [*]; done)), H', ⟨by have := HK1.out; omega⟩, ⟨by (with_reducible repeat (first | apply Kd.R_alloc | apply Kd.R_drewN | apply Kd.R_drew)); exact HO_5.out⟩, ⟨by repeat (first | (with_reducible first | exact HB.out | apply below_alloc | apply pw_below_drewN | apply below_drew1) | exact HB.out)⟩⟩
        · rw [if_neg c4] at H
          exact absurd H (by simp)
      · rw [if_neg c3] at H
        have c3b0 : decide (x6_1 < (l0.length : Int)) = false := decide_eq_false c3
        clear c3
        obtain rfl := Option.some.inj H
        go_wp2
        go_ret
        exact ⟨_, by first | rfl | (simp [errW_none, errW_some] <;> rfl) | (simp [*, errW_none, errW_some] <;> rfl), by (with_reducible repeat (first | apply Kd.R_alloc | apply Kd.R_drewN | apply Kd.R_drew)); exact HO_5.out, by repeat (first | (with_reducible first | exact HB.out | apply below_alloc | apply pw_below_drewN | apply below_drew1) | exact HB.out)⟩

end Go.Proofs.YtkicenkljjpcfaaGreatDoor.Q
/- Spans and events as raw cells: what is read behind their slices stands beside. -/
namespace Go.Proofs.YtkicenkljjpcfaaGreatDoor.Q
open Go.RowKit Go.Proofs.YtkicenkljjpcfaaGreatDoorW.PrintWords Go.Proofs.YtkicenkljjpcfaaGreatDoorW.PrintLast Go.Proofs.YtkicenkljjpcfaaGreatDoorW.PrintMore
/-- A command: its ten cells; what its entries and ids read as. -/
structure Cm where
  kind : Int
  eA : Option Addr
  eN : Nat
  eC : Nat
  time : Int
  host : ByteArray
  parent : ByteArray
  iA : Option Addr
  iN : Nat
  iC : Nat
  path : ByteArray
  uA : Option Addr
  uN : Nat
  uC : Nat
  percent : Int
  rd : Bool
  ents : List S101
  ids : List ByteArray
/-- A result: its seven cells; what its ids and entries read as. -/
structure Re where
  code : Int
  id : ByteArray
  n : Int
  jA : Option Addr
  jN : Nat
  jC : Nat
  tA : Option Addr
  tN : Nat
  tC : Nat
  fA : Option Addr
  fN : Nat
  fC : Nat
  sA : Option Addr
  sN : Nat
  sC : Nat
  rids : List ByteArray
  rents : List S101
structure Sp where
  c : Cm
  r : Re
  b : Int
  e : Int
  op : Bool
structure Ev where
  job : Int
  beg : Bool
  c : Cm
  r : Re
abbrev encS (s : Sp) : List Value := [.int .i64 s.c.kind, .slice s.c.eA s.c.eN s.c.eC, .int .i64 s.c.time, .string s.c.host, .string s.c.parent, .slice s.c.iA s.c.iN s.c.iC, .string s.c.path, .slice s.c.uA s.c.uN s.c.uC, .int .i64 s.c.percent, .bool s.c.rd, .int .i64 s.r.code, .string s.r.id, .int .i64 s.r.n, .slice s.r.jA s.r.jN s.r.jC, .slice s.r.tA s.r.tN s.r.tC, .slice s.r.fA s.r.fN s.r.fC, .slice s.r.sA s.r.sN s.r.sC, .int .i64 s.b, .int .i64 s.e, .bool s.op]
abbrev encE (s : Ev) : List Value := [.int .i64 s.job, .bool s.beg, .int .i64 s.c.kind, .slice s.c.eA s.c.eN s.c.eC, .int .i64 s.c.time, .string s.c.host, .string s.c.parent, .slice s.c.iA s.c.iN s.c.iC, .string s.c.path, .slice s.c.uA s.c.uN s.c.uC, .int .i64 s.c.percent, .bool s.c.rd, .int .i64 s.r.code, .string s.r.id, .int .i64 s.r.n, .slice s.r.jA s.r.jN s.r.jC, .slice s.r.tA s.r.tN s.r.tC, .slice s.r.fA s.r.fN s.r.fC, .slice s.r.sA s.r.sN s.r.sC]
abbrev aggS (s : Sp) : Value := .agg #[.int .i64 s.c.kind, .slice s.c.eA s.c.eN s.c.eC, .int .i64 s.c.time, .string s.c.host, .string s.c.parent, .slice s.c.iA s.c.iN s.c.iC, .string s.c.path, .slice s.c.uA s.c.uN s.c.uC, .int .i64 s.c.percent, .bool s.c.rd, .int .i64 s.r.code, .string s.r.id, .int .i64 s.r.n, .slice s.r.jA s.r.jN s.r.jC, .slice s.r.tA s.r.tN s.r.tC, .slice s.r.fA s.r.fN s.r.fC, .slice s.r.sA s.r.sN s.r.sC, .int .i64 s.b, .int .i64 s.e, .bool s.op]
theorem encS_one (x : Sp) : ∀ u ∈ encS x, u.oneCell' = true := by
  intro u hu
  simp only [encS, List.mem_cons, List.not_mem_nil, or_false] at hu
  rcases hu with rfl | rfl | rfl | rfl | rfl | rfl | rfl | rfl | rfl | rfl | rfl | rfl | rfl | rfl | rfl | rfl | rfl | rfl | rfl | rfl <;> rfl
def kS : Kd Sp where
  sz := 20
  E := []
  K := fun _ x cs => cs = encS x
  M := fun _ _ _ x cs => cs = encS x
  K_len := by rintro w x cs rfl; rfl
  K_one := by rintro w x cs rfl; exact encS_one x
  K_below := by rintro w w1 x cs _ rfl; rfl
  K_of_M := by rintro w base ok x cs rfl; rfl
  M_mono := by rintro w base ok ok' x cs _ rfl; rfl
  M_bound := by rintro w base ok x cs rfl; rfl
  M_move := by rintro w w1 base ok x cs _ rfl; rfl
  M_lower := by rintro w base base' ok x cs _ rfl; rfl
theorem encE_one (x : Ev) : ∀ u ∈ encE x, u.oneCell' = true := by
  intro u hu
  simp only [encE, List.mem_cons, List.not_mem_nil, or_false] at hu
  rcases hu with rfl | rfl | rfl | rfl | rfl | rfl | rfl | rfl | rfl | rfl | rfl | rfl | rfl | rfl | rfl | rfl | rfl | rfl | rfl <;> rfl
def kE : Kd Ev where
  sz := 19
  E := []
  K := fun _ x cs => cs = encE x
  M := fun _ _ _ x cs => cs = encE x
  K_len := by rintro w x cs rfl; rfl
  K_one := by rintro w x cs rfl; exact encE_one x
  K_below := by rintro w w1 x cs _ rfl; rfl
  K_of_M := by rintro w base ok x cs rfl; rfl
  M_mono := by rintro w base ok ok' x cs _ rfl; rfl
  M_bound := by rintro w base ok x cs rfl; rfl
  M_move := by rintro w w1 base ok x cs _ rfl; rfl
  M_lower := by rintro w base base' ok x cs _ rfl; rfl
theorem at_S {w : World} {A : Option Addr} {n : Nat} {xs : List Sp} (h : Kd.C kS w A n xs) (i : Nat) (h1 : i < n) (x : Sp) (hx : xs[i]? = some x) : ∃ ad, A = some ad ∧ w.cell? (ad.add (i * 20)) = some (.int .i64 x.c.kind) ∧ w.cell? ⟨(ad.add (i * 20)).block, (ad.add (i * 20)).off + 1, none⟩ = some (.slice x.c.eA x.c.eN x.c.eC) ∧ w.cell? ⟨(ad.add (i * 20)).block, (ad.add (i * 20)).off + 2, none⟩ = some (.int .i64 x.c.time) ∧ w.cell? ⟨(ad.add (i * 20)).block, (ad.add (i * 20)).off + 3, none⟩ = some (.string x.c.host) ∧ w.cell? ⟨(ad.add (i * 20)).block, (ad.add (i * 20)).off + 4, none⟩ = some (.string x.c.parent) ∧ w.cell? ⟨(ad.add (i * 20)).block, (ad.add (i * 20)).off + 5, none⟩ = some (.slice x.c.iA x.c.iN x.c.iC) ∧ w.cell? ⟨(ad.add (i * 20)).block, (ad.add (i * 20)).off + 6, none⟩ = some (.string x.c.path) ∧ w.cell? ⟨(ad.add (i * 20)).block, (ad.add (i * 20)).off + 7, none⟩ = some (.slice x.c.uA x.c.uN x.c.uC) ∧ w.cell? ⟨(ad.add (i * 20)).block, (ad.add (i * 20)).off + 8, none⟩ = some (.int .i64 x.c.percent) ∧ w.cell? ⟨(ad.add (i * 20)).block, (ad.add (i * 20)).off + 9, none⟩ = some (.bool x.c.rd) ∧ w.cell? ⟨(ad.add (i * 20)).block, (ad.add (i * 20)).off + 10, none⟩ = some (.int .i64 x.r.code) ∧ w.cell? ⟨(ad.add (i * 20)).block, (ad.add (i * 20)).off + 11, none⟩ = some (.string x.r.id) ∧ w.cell? ⟨(ad.add (i * 20)).block, (ad.add (i * 20)).off + 12, none⟩ = some (.int .i64 x.r.n) ∧ w.cell? ⟨(ad.add (i * 20)).block, (ad.add (i * 20)).off + 13, none⟩ = some (.slice x.r.jA x.r.jN x.r.jC) ∧ w.cell? ⟨(ad.add (i * 20)).block, (ad.add (i * 20)).off + 14, none⟩ = some (.slice x.r.tA x.r.tN x.r.tC) ∧ w.cell? ⟨(ad.add (i * 20)).block, (ad.add (i * 20)).off + 15, none⟩ = some (.slice x.r.fA x.r.fN x.r.fC) ∧ w.cell? ⟨(ad.add (i * 20)).block, (ad.add (i * 20)).off + 16, none⟩ = some (.slice x.r.sA x.r.sN x.r.sC) ∧ w.cell? ⟨(ad.add (i * 20)).block, (ad.add (i * 20)).off + 17, none⟩ = some (.int .i64 x.b) ∧ w.cell? ⟨(ad.add (i * 20)).block, (ad.add (i * 20)).off + 18, none⟩ = some (.int .i64 x.e) ∧ w.cell? ⟨(ad.add (i * 20)).block, (ad.add (i * 20)).off + 19, none⟩ = some (.bool x.op) := by
  obtain ⟨ad, c, e, _, hK, hc0⟩ := Kd.C_get h x (i : Int) (by omega) (by omega)
  have hg : xs.getD (i : Int).toNat x = x := by rw [Int.toNat_natCast, List.getD_eq_getElem?_getD, hx]; rfl
  rw [hg] at hK
  rw [Int.toNat_natCast] at hc0
  have hc : ∀ j u, c[j]? = some u → w.cell? (ad.add (i * 20 + j)) = some u := hc0
  have hK' : c = encS x := hK
  subst hK'
  exact ⟨ad, e, hc 0 _ rfl, by rw [← add_field _ _ 1 (by omega)]; exact hc 1 _ rfl, by rw [← add_field _ _ 2 (by omega)]; exact hc 2 _ rfl, by rw [← add_field _ _ 3 (by omega)]; exact hc 3 _ rfl, by rw [← add_field _ _ 4 (by omega)]; exact hc 4 _ rfl, by rw [← add_field _ _ 5 (by omega)]; exact hc 5 _ rfl, by rw [← add_field _ _ 6 (by omega)]; exact hc 6 _ rfl, by rw [← add_field _ _ 7 (by omega)]; exact hc 7 _ rfl, by rw [← add_field _ _ 8 (by omega)]; exact hc 8 _ rfl, by rw [← add_field _ _ 9 (by omega)]; exact hc 9 _ rfl, by rw [← add_field _ _ 10 (by omega)]; exact hc 10 _ rfl, by rw [← add_field _ _ 11 (by omega)]; exact hc 11 _ rfl, by rw [← add_field _ _ 12 (by omega)]; exact hc 12 _ rfl, by rw [← add_field _ _ 13 (by omega)]; exact hc 13 _ rfl, by rw [← add_field _ _ 14 (by omega)]; exact hc 14 _ rfl, by rw [← add_field _ _ 15 (by omega)]; exact hc 15 _ rfl, by rw [← add_field _ _ 16 (by omega)]; exact hc 16 _ rfl, by rw [← add_field _ _ 17 (by omega)]; exact hc 17 _ rfl, by rw [← add_field _ _ 18 (by omega)]; exact hc 18 _ rfl, by rw [← add_field _ _ 19 (by omega)]; exact hc 19 _ rfl⟩
theorem at_E {w : World} {A : Option Addr} {n : Nat} {xs : List Ev} (h : Kd.C kE w A n xs) (i : Nat) (h1 : i < n) (x : Ev) (hx : xs[i]? = some x) : ∃ ad, A = some ad ∧ w.cell? (ad.add (i * 19)) = some (.int .i64 x.job) ∧ w.cell? ⟨(ad.add (i * 19)).block, (ad.add (i * 19)).off + 1, none⟩ = some (.bool x.beg) ∧ w.cell? ⟨(ad.add (i * 19)).block, (ad.add (i * 19)).off + 2, none⟩ = some (.int .i64 x.c.kind) ∧ w.cell? ⟨(ad.add (i * 19)).block, (ad.add (i * 19)).off + 3, none⟩ = some (.slice x.c.eA x.c.eN x.c.eC) ∧ w.cell? ⟨(ad.add (i * 19)).block, (ad.add (i * 19)).off + 4, none⟩ = some (.int .i64 x.c.time) ∧ w.cell? ⟨(ad.add (i * 19)).block, (ad.add (i * 19)).off + 5, none⟩ = some (.string x.c.host) ∧ w.cell? ⟨(ad.add (i * 19)).block, (ad.add (i * 19)).off + 6, none⟩ = some (.string x.c.parent) ∧ w.cell? ⟨(ad.add (i * 19)).block, (ad.add (i * 19)).off + 7, none⟩ = some (.slice x.c.iA x.c.iN x.c.iC) ∧ w.cell? ⟨(ad.add (i * 19)).block, (ad.add (i * 19)).off + 8, none⟩ = some (.string x.c.path) ∧ w.cell? ⟨(ad.add (i * 19)).block, (ad.add (i * 19)).off + 9, none⟩ = some (.slice x.c.uA x.c.uN x.c.uC) ∧ w.cell? ⟨(ad.add (i * 19)).block, (ad.add (i * 19)).off + 10, none⟩ = some (.int .i64 x.c.percent) ∧ w.cell? ⟨(ad.add (i * 19)).block, (ad.add (i * 19)).off + 11, none⟩ = some (.bool x.c.rd) ∧ w.cell? ⟨(ad.add (i * 19)).block, (ad.add (i * 19)).off + 12, none⟩ = some (.int .i64 x.r.code) ∧ w.cell? ⟨(ad.add (i * 19)).block, (ad.add (i * 19)).off + 13, none⟩ = some (.string x.r.id) ∧ w.cell? ⟨(ad.add (i * 19)).block, (ad.add (i * 19)).off + 14, none⟩ = some (.int .i64 x.r.n) ∧ w.cell? ⟨(ad.add (i * 19)).block, (ad.add (i * 19)).off + 15, none⟩ = some (.slice x.r.jA x.r.jN x.r.jC) ∧ w.cell? ⟨(ad.add (i * 19)).block, (ad.add (i * 19)).off + 16, none⟩ = some (.slice x.r.tA x.r.tN x.r.tC) ∧ w.cell? ⟨(ad.add (i * 19)).block, (ad.add (i * 19)).off + 17, none⟩ = some (.slice x.r.fA x.r.fN x.r.fC) ∧ w.cell? ⟨(ad.add (i * 19)).block, (ad.add (i * 19)).off + 18, none⟩ = some (.slice x.r.sA x.r.sN x.r.sC) := by
  obtain ⟨ad, c, e, _, hK, hc0⟩ := Kd.C_get h x (i : Int) (by omega) (by omega)
  have hg : xs.getD (i : Int).toNat x = x := by rw [Int.toNat_natCast, List.getD_eq_getElem?_getD, hx]; rfl
  rw [hg] at hK
  rw [Int.toNat_natCast] at hc0
  have hc : ∀ j u, c[j]? = some u → w.cell? (ad.add (i * 19 + j)) = some u := hc0
  have hK' : c = encE x := hK
  subst hK'
  exact ⟨ad, e, hc 0 _ rfl, by rw [← add_field _ _ 1 (by omega)]; exact hc 1 _ rfl, by rw [← add_field _ _ 2 (by omega)]; exact hc 2 _ rfl, by rw [← add_field _ _ 3 (by omega)]; exact hc 3 _ rfl, by rw [← add_field _ _ 4 (by omega)]; exact hc 4 _ rfl, by rw [← add_field _ _ 5 (by omega)]; exact hc 5 _ rfl, by rw [← add_field _ _ 6 (by omega)]; exact hc 6 _ rfl, by rw [← add_field _ _ 7 (by omega)]; exact hc 7 _ rfl, by rw [← add_field _ _ 8 (by omega)]; exact hc 8 _ rfl, by rw [← add_field _ _ 9 (by omega)]; exact hc 9 _ rfl, by rw [← add_field _ _ 10 (by omega)]; exact hc 10 _ rfl, by rw [← add_field _ _ 11 (by omega)]; exact hc 11 _ rfl, by rw [← add_field _ _ 12 (by omega)]; exact hc 12 _ rfl, by rw [← add_field _ _ 13 (by omega)]; exact hc 13 _ rfl, by rw [← add_field _ _ 14 (by omega)]; exact hc 14 _ rfl, by rw [← add_field _ _ 15 (by omega)]; exact hc 15 _ rfl, by rw [← add_field _ _ 16 (by omega)]; exact hc 16 _ rfl, by rw [← add_field _ _ 17 (by omega)]; exact hc 17 _ rfl, by rw [← add_field _ _ 18 (by omega)]; exact hc 18 _ rfl⟩
/-- What stands behind a command's and a result's slices is read there. -/
structure RdC (w : World) (c : Cm) : Prop where
  ids : c.iN ≤ c.iC ∧ c.ids.length = c.iN ∧ Kd.C Kd.string w c.iA c.iN c.ids
  ents : c.eN ≤ c.eC ∧ c.ents.length = c.eN ∧ Kd.C k101 w c.eA c.eN c.ents
structure RdR (w : World) (r : Re) : Prop where
  ids : r.jN ≤ r.jC ∧ r.rids.length = r.jN ∧ Kd.C Kd.string w r.jA r.jN r.rids
  ents : r.fN ≤ r.fC ∧ r.rents.length = r.fN ∧ Kd.C k101 w r.fA r.fN r.rents
theorem RdC.below {w w1 : World} {c : Cm} (h : RdC w c) (hb : Below w.heap.size w w1) : RdC w1 c := ⟨⟨h.ids.1, h.ids.2.1, Kd.C_below h.ids.2.2 hb⟩, ⟨h.ents.1, h.ents.2.1, Kd.C_below h.ents.2.2 hb⟩⟩
theorem RdR.below {w w1 : World} {r : Re} (h : RdR w r) (hb : Below w.heap.size w w1) : RdR w1 r := ⟨⟨h.ids.1, h.ids.2.1, Kd.C_below h.ids.2.2 hb⟩, ⟨h.ents.1, h.ents.2.1, Kd.C_below h.ents.2.2 hb⟩⟩
def RdS (w : World) (s : Sp) : Prop := RdC w s.c ∧ RdR w s.r
theorem RdS.below {w w1 : World} {s : Sp} (h : RdS w s) (hb : Below w.heap.size w w1) : RdS w1 s := ⟨h.1.below hb, h.2.below hb⟩
/-- A row of spans that is read, and what stands behind them. -/
def CS (w : World) (A : Option Addr) (l : List Sp) : Prop := Kd.C kS w A l.length l ∧ ∀ s ∈ l, RdS w s
theorem CS.below {w w1 : World} {A : Option Addr} {l : List Sp} (h : CS w A l) (hb : Below w.heap.size w w1) : CS w1 A l := ⟨Kd.C_below h.1 hb, fun s hs => (h.2 s hs).below hb⟩
/-! ### What the reference says, without memory -/
def eqT (a b : ByteArray) : Bool := a.toList == b.toList
def memT (x : ByteArray) (l : List ByteArray) : Bool := l.any fun y => eqT y x
def madeP (s : Sp) (x : ByteArray) : Bool := s.c.kind == 2 && (!s.op && (s.r.code == 0 && eqT s.r.id x))
def mayP (s : Sp) : Bool := s.c.kind == 2 && (s.op || s.r.code != 0)
def remP (s : Sp) : Bool := s.c.kind == 6 || s.c.kind == 7
def tookP (s : Sp) (x : ByteArray) : Bool := remP s && (!s.op && memT x s.r.rids)
def mayTakeP (s : Sp) (x : ByteArray) : Bool := remP s && (!tookP s x && ((s.op || s.r.code != 0) && (s.c.kind == 6 || memT x s.c.ids)))
def keepsP (l : List Sp) (m : Sp) (x : ByteArray) (b e : Int) : Bool := madeP m x && (decide (m.e < b) && l.all fun r => !(tookP r x || mayTakeP r x) || (!r.op && decide (r.e < m.b)) || decide (e < r.b))
def sureP (l : List Sp) (x : ByteArray) (b e : Int) : Bool := l.any fun m => keepsP l m x b e
def seenP (l : List Sp) (m : Sp) (x : ByteArray) (b e : Int) : Bool := (madeP m x || mayP m) && (decide (m.b < e) && l.all fun r => !(!m.op && (tookP r x && (decide (m.e < r.b) && decide (r.e < b)))))
end Go.Proofs.YtkicenkljjpcfaaGreatDoor.Q
/- Loads and stores of long structs, by their blocks. -/
namespace Go.Proofs.YtkicenkljjpcfaaGreatDoor.Q
open Go.RowKit Go.Proofs.YtkicenkljjpcfaaGreatDoorW.PrintWords Go.Proofs.YtkicenkljjpcfaaGreatDoorW.PrintLast Go.Proofs.YtkicenkljjpcfaaGreatDoorW.PrintMore
def setL (cur : Array Value) : Nat → List Value → Array Value
  | _, [] => cur
  | o, v :: r => setL (cur.setIfInBounds o v) (o + 1) r
theorem setL_size : ∀ (vs : List Value) (cur : Array Value) (o : Nat), (setL cur o vs).size = cur.size
  | [], _, _ => rfl
  | v :: r, cur, o => by rw [setL, setL_size r]; simp
theorem setL_list : ∀ (vs : List Value) (cur : Array Value) (o : Nat), o + vs.length ≤ cur.size → (setL cur o vs).toList = cur.toList.take o ++ vs ++ cur.toList.drop (o + vs.length)
  | [], cur, o, _ => by simp [setL]
  | v :: r, cur, o, h => by
    simp only [List.length_cons] at h
    rw [setL, setL_list r _ _ (by simp; omega), Array.toList_setIfInBounds]
    have h1 : o < cur.toList.length := by simp; omega
    rw [List.take_succ_eq_append_getElem (by simpa using h1), List.take_set_of_le (Nat.le_refl _)]
    simp only [List.getElem_set_self, List.length_cons]
    rw [List.drop_set_of_lt (by omega), show o + 1 + r.length = o + (r.length + 1) by omega]
    simp
theorem setCells_blk (g t : Nat) : ∀ (vs : List Value) (o : Nat) (w : World) (cur : Array Value), w.heap[g]? = some (.cells cur t (0, 0)) → (w.setCells g o vs).heap[g]? = some (.cells (setL cur o vs) t (0, 0))
  | [], _, _, _, h => h
  | v :: r, o, _, _, h => setCells_blk g t r (o + 1) _ _ (blk_set h o v)
theorem setCells_other (g : Nat) : ∀ (vs : List Value) (o : Nat) (w : World) (i : Nat), i ≠ g → (w.setCells g o vs).heap[i]? = w.heap[i]?
  | [], _, _, _, _ => rfl
  | v :: r, o, w, i, h => by
    show ((w.setCell ⟨g, o, none⟩ v).setCells g (o + 1) r).heap[i]? = w.heap[i]?
    rw [setCells_other g r (o + 1) _ i h]
    exact Below.heap_setCell w ⟨g, o, none⟩ v i h
theorem setCells_grown (g : Nat) : ∀ (vs : List Value) (o : Nat) (w : World), w.grownBy (w.setCells g o vs) (some g)
  | [], _, w => grown_of_below (Below.refl _ _) _
  | v :: r, o, w => by
    have h1 : w.grownBy (w.setCell ⟨g, o, none⟩ v) (some g) := ⟨rfl, rfl, rfl, by simp, fun k _ hk => Below.heap_setCell w ⟨g, o, none⟩ v k (fun e => hk (by rw [e]))⟩
    exact h1.trans (setCells_grown g r (o + 1) _)
theorem run_load_any {P : Program} (w : World) (ad : Addr) (ty : TypeId) (cs : List Value) (d : TypeDesc) (hc : ∀ j v, cs[j]? = some v → w.cell? (ad.add j) = some v)
    (hu : P.underlying ty = some d) (hd : (match d with | .struct _ | .array _ _ => true | _ => false) = true) (hi : (P.info? ty).map (·.size) = some cs.length) :
    (loadVar ty ad).run P w = .ok (.agg cs.toArray) w := by
  have hl : (loadCells ad cs.length).run P w = .ok cs.toArray w := run_loadCells_list (P := P) w ad cs hc
  cases hq : P.info? ty with
  | none => simp [hq] at hi
  | some i =>
    have hs : i.size = cs.length := by simpa [hq] using hi
    have hagg : (isAgg ty).run P w = .ok true w := by
      unfold isAgg
      rw [Sem.run_bind, run_underlying hu w]
      cases d <;> simp_all
    simp [loadVar, Sem.run_bind, hagg, sizeOf, typeInfo, hq, hs, hl]
theorem wp_load_any {P : Program} {o : Oper} {a : Act} {w : World} {K : Act → World → Prop} {Q : Exit → Act → World → Prop} (ty : TypeId) (x : Operand) (ho : o.op = .load ty x) (ad : Addr) (hx : a.eval x = .pointer (some ad)) (cs : List Value) (d : TypeDesc) (hc : ∀ j v, cs[j]? = some v → w.cell? (ad.add j) = some v)
    (hu : P.underlying ty = some d) (hd : (match d with | .struct _ | .array _ _ => true | _ => false) = true) (hi : (P.info? ty).map (·.size) = some cs.length)
    (h : K (a.put o.dst (.agg cs.toArray)) w) : o.wp P a w K Q := by
  unfold Oper.wp execOp
  simp only [ho, hx, Instr.loadAt, Instr.sureAddr, Sem.run_bind, Sem.run_pure, Result.andThen_ok, run_load_any w ad ty cs d hc hu hd hi]
  exact h
theorem wpList_load_any {P : Program} {ops : Array Oper} {rest : List Oper} {o : Oper} {a : Act} {w : World} {Q : Exit → Act → World → Prop} (hw : Region.wanted o (yielded ops a.tmps) = true) (ty : TypeId) (x : Operand) (ho : o.op = .load ty x) (ad : Addr) (hx : a.eval x = .pointer (some ad)) (cs : List Value) (d : TypeDesc) (hc : ∀ j v, cs[j]? = some v → w.cell? (ad.add j) = some v)
    (hu : P.underlying ty = some d) (hd : (match d with | .struct _ | .array _ _ => true | _ => false) = true) (hi : (P.info? ty).map (·.size) = some cs.length)
    (h : wpList P ops Q rest (a.put o.dst (.agg cs.toArray)) w) : wpList P ops Q (o :: rest) a w := by
  refine wpList_step fun K hK => ?_
  rw [if_pos hw]
  exact wp_load_any ty x ho ad hx cs d hc hu hd hi (hK _ _ h)
theorem wanted_none {o : Oper} {ys : Nat → Option Bool} (h : o.guard = none) : Region.wanted o ys = true := by unfold Region.wanted; rw [h]
theorem cells_blk {w : World} {g : Nat} {t : TypeId} {cs : List Value} (h : w.heap[g]? = some (.cells cs.toArray t (0, 0))) : ∀ j v, cs[j]? = some v → w.cell? ((⟨g, 0, none⟩ : Addr).add j) = some v := fun j v hv => by
  rw [add_plain, blk_cell h]
  simpa using hv
theorem wpList_store_new {P : Program} {ops : Array Oper} {rest : List Oper} {o : Oper} {a : Act} {w : World} {Q : Exit → Act → World → Prop} (hgd : o.guard = none) (ty : TypeId) (x y : Operand) (ho : o.op = .store ty x y) (g : Nat) (old : Array Value) (cs : List Value) (t : TypeId) (hx : a.eval x = .pointer (some ⟨g, 0, none⟩)) (hy : a.eval y = .agg cs.toArray)
    (hb : w.heap[g]? = some (.cells old t (0, 0))) (hs : old.size = cs.length) (hi : (P.info? ty).map (·.size) = some cs.length) (h1 : ∀ v ∈ cs, v.oneCell' = true)
    (h : ∀ w1, w1.heap[g]? = some (.cells cs.toArray t (0, 0)) → w.grownBy w1 (some g) → wpList P ops Q rest (a.put o.dst undef) w1) : wpList P ops Q (o :: rest) a w := by
  refine wpList_store_mid hgd ty x y ho g 0 cs.toArray hx hy (fun j hj => ?_) (by simpa using hi) (all_oneCell_toArray h1) (h _ ?_ (setCells_grown g _ 0 w))
  · rw [Nat.zero_add, blk_cell hb, blk_frozen hb]
    exact ⟨by rw [Array.getElem?_eq_getElem (by rw [hs]; simpa using hj)]; rfl, rfl⟩
  · have h2 := setCells_blk g t cs.toArray.toList 0 w old hb
    rw [h2]
    congr 2
    apply Array.toList_inj.1
    rw [setL_list _ _ _ (by simp; omega)]
    simp
    omega
end Go.Proofs.YtkicenkljjpcfaaGreatDoor.Q
/- The reference's part and same, said over lists: which paths stand within a directory. -/
namespace Go.Proofs.YtkicenkljjpcfaaGreatDoor.Q
open Go.RowKit Go.Proofs.YtkicenkljjpcfaaGreatDoorW.PrintWords Go.Proofs.YtkicenkljjpcfaaGreatDoorW.PrintLast Go.Proofs.YtkicenkljjpcfaaGreatDoorW.PrintMore
theorem toList_loop (s : ByteArray) : ∀ (n i : Nat) (r : List UInt8), s.size - i = n → ByteArray.toList.loop s i r = r.reverse ++ s.data.toList.drop i
  | 0, i, r, h => by
    have hl : s.data.toList.length = s.size := by rw [Array.length_toList]; rfl
    rw [ByteArray.toList.loop, if_neg (by omega), List.drop_eq_nil_of_le (by omega), List.append_nil]
  | n + 1, i, r, h => by
    have hl : s.data.toList.length = s.size := by rw [Array.length_toList]; rfl
    have hi : i < s.data.toList.length := by omega
    have hi2 : i < s.data.size := by rw [← Array.length_toList]; exact hi
    rw [ByteArray.toList.loop, if_pos (by omega), toList_loop s n (i + 1) _ (by omega), List.reverse_cons, List.append_assoc, List.drop_eq_getElem_cons hi]
    have e : s.get! i = s.data.toList[i] := by
      show s.data[i]! = _
      rw [getElem!_pos s.data i hi2]
      simp
    rw [e]
    rfl
theorem toList_data (s : ByteArray) : s.toList = s.data.toList := by
  unfold ByteArray.toList
  rw [toList_loop s s.size 0 [] (by omega)]
  simp
theorem toList_len (s : ByteArray) : s.toList.length = s.size := by rw [toList_data, Array.length_toList]; rfl
theorem eq_of_toList {a b : ByteArray} (h : a.toList = b.toList) : a = b := by
  rw [toList_data, toList_data] at h
  cases a; cases b
  simp only [ByteArray.mk.injEq]
  exact Array.toList_inj.1 h
theorem toList_extract (a : ByteArray) (f i : Nat) : (a.extract f i).toList = (a.toList.drop f).take (i - f) := by
  rw [toList_data, toList_data, ByteArray.data_extract, Array.toList_extract, List.extract_eq_take_drop]
theorem bt_get (a : ByteArray) (i : Nat) (h : i < a.size) : bt a (i : Int) = ((a.toList[i]'(by rw [toList_len]; exact h)).toNat : Int) := by
  unfold bt
  rw [dif_pos (by simpa using h)]
  congr 2
  simp only [Int.toNat_natCast, toList_data]
  simp [ByteArray.getElem_eq_getElem_data]
/-- A text's pieces between slashes. -/
def sp : List UInt8 → List (List UInt8)
  | [] => [[]]
  | c :: r => if c = 47 then [] :: sp r else match sp r with | [] => [[c]] | h :: t => (c :: h) :: t
def spw (p s : List UInt8) : List (List UInt8) := match sp s with | [] => [p] | h :: t => (p ++ h) :: t
theorem sp_ne (s : List UInt8) : sp s ≠ [] := by
  cases s with
  | nil => simp [sp]
  | cons c r => unfold sp; split; simp; split <;> simp
theorem spw_nil (s : List UInt8) : spw [] s = sp s := by
  unfold spw; split
  · rename_i h; exact absurd h (sp_ne s)
  · rename_i h; rw [h]; rfl
theorem spw_slash (p s : List UInt8) : spw p (47 :: s) = p :: sp s := by
  unfold spw; rw [sp]; simp
theorem spw_other (p s : List UInt8) (c : UInt8) (h : c ≠ 47) : spw p (c :: s) = spw (p ++ [c]) s := by
  unfold spw; rw [sp, if_neg h]
  cases hs : sp s with
  | nil => exact absurd hs (sp_ne s)
  | cons a t => simp
theorem spw_end (p : List UInt8) : spw p [] = [p] := by unfold spw; simp [sp]
def names (s : List UInt8) : List (List UInt8) := if s = [] then [] else sp s
/-- Is a path one within a directory's? -/
def inP (u x : ByteArray) : Bool := (names u.toList).isPrefixOf (names x.toList)
theorem sp_len (s : List UInt8) : (sp s).length ≤ s.length + 1 := by
  induction s with
  | nil => simp [sp]
  | cons c r ih =>
    rw [sp]; split
    · simp; exact ih
    · split
      · simp
      · rename_i h; rw [h] at ih; simp at ih ⊢; omega
theorem names_len (s : List UInt8) : (names s).length ≤ s.length + 1 := by
  unfold names; split
  · simp
  · exact sp_len s
/-- All pieces, and a slash each. -/
theorem sp_sum (s : List UInt8) : ((sp s).map (fun p => p.length + 1)).sum = s.length + 1 := by
  induction s with
  | nil => simp [sp]
  | cons c r ih =>
    rw [sp]; split
    · simp [ih]; omega
    · split
      · rename_i h; exact absurd h (sp_ne r)
      · rename_i h; rw [h] at ih; simp at ih ⊢; omega
theorem wrapN {i : Nat} (h : i < 100000000) : wrap64 ((i : Int) + 1) = ((i + 1 : Nat) : Int) := by unfold wrap64; omega
theorem LeO.upto {α : Type} {f : Nat → Option α} (h : ∀ k, LeO (f k) (f (k + 1))) (k : Nat) : ∀ d, LeO (f k) (f (k + d))
  | 0 => LeO.refl _
  | d + 1 => LeO.trans (LeO.upto h k d) (h (k + d))
theorem LeO.le {α : Type} {f : Nat → Option α} (h : ∀ k, LeO (f k) (f (k + 1))) {k m : Nat} (hk : k ≤ m) : LeO (f k) (f m) := by
  obtain ⟨d, rfl⟩ := Nat.exists_eq_add_of_le hk
  exact LeO.upto h k d
theorem ext_all (a : ByteArray) (f i : Nat) (hf : f ≤ i) (h : i < a.size) : (a.extract f (i + 1)).toList = (a.extract f i).toList ++ [a.toList[i]'(by rw [toList_len]; exact h)] := by
  rw [toList_extract, toList_extract, show i + 1 - f = (i - f) + 1 from by omega, List.take_add_one, List.getElem?_drop]
  rw [show f + (i - f) = i from by omega, List.getElem?_eq_getElem (by rw [toList_len]; exact h)]
  rfl
theorem ext_nil (a : ByteArray) (i : Nat) : (a.extract i i).toList = [] := by
  rw [toList_extract]; simp
set_option maxRecDepth 4000 in
theorem parts_l (a : ByteArray) (hs : a.size ≤ 1048576) : ∀ d i f (out : List ByteArray), i + d = a.size → f ≤ i → out.length ≤ i →
    ∃ ps, garretref17_Parts.l0 (d + 2) a out (f : Int) (i : Int) = some (out ++ ps) ∧ ps.map ByteArray.toList = spw (a.extract f i).toList (a.toList.drop i)
  | 0, i, f, out, h, hf, ho => by
    refine ⟨[a.extract f i], ?_, ?_⟩
    · rw [garretref17_Parts.l0, if_pos (by omega), if_pos (by omega), if_pos (by omega), if_pos (by omega), if_pos (by omega), wrapN (by omega), garretref17_Parts.l0, if_neg (by omega)]
      simp
    · rw [List.drop_eq_nil_of_le (by rw [toList_len]; omega), spw_end]; rfl
  | d + 1, i, f, out, h, hf, ho => by
    have hi : i < a.size := by omega
    have hd : a.toList.drop i = a.toList[i]'(by rw [toList_len]; exact hi) :: a.toList.drop (i + 1) := List.drop_eq_getElem_cons _
    by_cases hc : a.toList[i]'(by rw [toList_len]; exact hi) = 47
    · obtain ⟨ps, h1, h2⟩ := parts_l a hs d (i + 1) (i + 1) (out ++ [a.extract f i]) (by omega) (Nat.le_refl _) (by simp; omega)
      refine ⟨a.extract f i :: ps, ?_, ?_⟩
      · rw [garretref17_Parts.l0, if_pos (by omega), if_neg (by omega), if_pos (by omega), if_pos (by omega), bt_get a i hi, if_pos (by rw [hc]; rfl), if_pos (by omega), if_pos (by omega), if_pos (by omega), wrapN (by omega)]
        simpa using h1
      · rw [hd, hc, spw_slash, List.map_cons, h2, ext_nil, spw_nil]
    · obtain ⟨ps, h1, h2⟩ := parts_l a hs d (i + 1) f out (by omega) (by omega) (by omega)
      refine ⟨ps, ?_, ?_⟩
      · rw [garretref17_Parts.l0, if_pos (by omega), if_neg (by omega), if_pos (by omega), if_pos (by omega), bt_get a i hi, if_neg, wrapN (by omega)]
        · exact h1
        · intro hh; apply hc
          have : (a.toList[i]'(by rw [toList_len]; exact hi)).toNat = 47 := by omega
          exact UInt8.toNat_inj.1 this
      · rw [hd, spw_other _ _ _ hc, h2, ext_all a f i hf hi]
theorem parts_f (a : ByteArray) (hs : a.size ≤ 1048576) (k : Nat) (hk : 1048578 ≤ k) : ∃ ps, garretref17_Parts.f k a = some ps ∧ ps.map ByteArray.toList = names a.toList := by
  by_cases h : a.toList = []
  · exact ⟨[], by unfold garretref17_Parts.f; rw [if_pos h], by unfold names; rw [if_pos h]; rfl⟩
  · obtain ⟨ps, h1, h2⟩ := parts_l a hs a.size 0 0 [] (by omega) (Nat.le_refl _) (Nat.zero_le _)
    refine ⟨ps, ?_, ?_⟩
    · refine LeO.le (garretref17_Parts.mono a) (show a.size + 2 ≤ k by omega) _ ?_
      unfold garretref17_Parts.f; rw [if_neg h]; simpa using h1
    · unfold names; rw [if_neg h, h2, ext_nil, List.drop_zero, spw_nil]
theorem rd9_at {l : List ByteArray} {i : Nat} {x : ByteArray} (h : l[i]? = some x) : rdOf ByteArray.empty l (i : Int) = x := by
  unfold rdOf; rw [Int.toNat_natCast, List.getD_eq_getElem?_getD, h]; rfl
theorem made_l (l : List ByteArray) (hl : l.length ≤ 2000000) : ∀ d i (s : ByteArray), i + d = l.length → s.size + ((l.drop i).map (fun p => p.size + 1)).sum ≤ 9223372036854775807 → ∃ r, garretref17_Made.l0 (d + 1) l s (i : Int) = some r
  | 0, i, s, h, hz => ⟨s, by rw [garretref17_Made.l0, if_neg (by omega)]⟩
  | d + 1, i, s, h, hz => by
    have hi : i < l.length := by omega
    have hg : l[i]? = some l[i] := List.getElem?_eq_getElem hi
    have hd : l.drop i = l[i] :: l.drop (i + 1) := List.drop_eq_getElem_cons _
    rw [hd, List.map_cons, List.sum_cons] at hz
    have z1 : (s ++ (⟨#[47]⟩ : ByteArray)).size = s.size + 1 := by rw [ByteArray.size_append]; rfl
    by_cases h0 : 0 < i
    · obtain ⟨r, hr⟩ := made_l l hl d (i + 1) ((s ++ (⟨#[47]⟩ : ByteArray)) ++ l[i]) (by omega) (by rw [ByteArray.size_append, z1]; omega)
      refine ⟨r, ?_⟩
      rw [garretref17_Made.l0, if_pos (by omega), if_pos (by omega), if_pos (by omega), if_pos (by omega), rd9_at hg, z1, if_pos (by omega), wrapN (by omega)]
      exact hr
    · obtain ⟨r, hr⟩ := made_l l hl d (i + 1) (s ++ l[i]) (by omega) (by rw [ByteArray.size_append]; omega)
      refine ⟨r, ?_⟩
      rw [garretref17_Made.l0, if_pos (by omega), if_neg (by omega), if_pos (by omega), rd9_at hg, if_pos (by omega), wrapN (by omega)]
      exact hr
theorem made_f (l : List ByteArray) (hl : l.length ≤ 2000000) (hz : (l.map (fun p => p.size + 1)).sum ≤ 9223372036854775807) (k : Nat) (hk : 2000001 ≤ k) : ∃ r, garretref17_Made.f k l = some r := by
  obtain ⟨r, h1⟩ := made_l l hl l.length 0 (⟨#[]⟩ : ByteArray) (by omega) (by rw [List.drop_zero]; show 0 + _ ≤ _; omega)
  refine ⟨r, LeO.le (garretref17_Made.mono l) (show l.length + 1 ≤ k by omega) _ ?_⟩
  unfold garretref17_Made.f; exact h1
theorem drop_sum {l : List ByteArray} : ∀ n : Nat, ((l.drop n).map (fun p => p.size + 1)).sum ≤ (l.map (fun p => p.size + 1)).sum := by
  induction l with
  | nil => intro n; simp
  | cons a l ih =>
    intro n
    cases n with
    | zero => simp
    | succ n => simp only [List.drop_succ_cons, List.map_cons, List.sum_cons]; have := ih n; omega
theorem within_l2 (ps qs : List ByteArray) (hp : ps.length ≤ qs.length) (hq : qs.length ≤ 2000000) (hz : (qs.map (fun p => p.size + 1)).sum ≤ 9223372036854775807) : ∀ d i, i + d = ps.length →
    ∃ r, garretref17_Within.l0 (2000002 + d) ps qs (i : Int) = some (r, ((ps.drop i).map ByteArray.toList).isPrefixOf ((qs.drop i).map ByteArray.toList))
  | 0, i, h => by
    obtain ⟨r, hr⟩ := made_f (qs.drop ps.length) (by simp; omega) (Nat.le_trans (drop_sum _) hz) 2000001 (Nat.le_refl _)
    refine ⟨r, ?_⟩
    rw [garretref17_Within.l0, if_neg (by omega), if_pos (by omega), if_pos (by omega), Int.toNat_natCast, hr, List.drop_eq_nil_of_le (show ps.length ≤ i by omega)]
    simp
  | d + 1, i, h => by
    have hi : i < ps.length := by omega
    have hi2 : i < qs.length := by omega
    have hg : ps[i]? = some ps[i] := List.getElem?_eq_getElem hi
    have hg2 : qs[i]? = some qs[i] := List.getElem?_eq_getElem hi2
    rw [List.drop_eq_getElem_cons hi, List.drop_eq_getElem_cons hi2, List.map_cons, List.map_cons, List.isPrefixOf]
    by_cases he : ps[i].toList = qs[i].toList
    · obtain ⟨r, hr⟩ := within_l2 ps qs hp hq hz d (i + 1) (by omega)
      refine ⟨r, ?_⟩
      rw [show 2000002 + (d + 1) = (2000002 + d) + 1 from by omega, garretref17_Within.l0, if_pos (by omega), if_pos (by omega), if_pos (by omega), rd9_at hg, rd9_at hg2, if_pos he, wrapN (by omega), hr, he]
      simp
    · refine ⟨⟨#[]⟩, ?_⟩
      rw [show 2000002 + (d + 1) = (2000002 + d) + 1 from by omega, garretref17_Within.l0, if_pos (by omega), if_pos (by omega), if_pos (by omega), rd9_at hg, rd9_at hg2, if_neg he]
      have : (ps[i].toList == qs[i].toList) = false := beq_eq_false_iff_ne.2 he
      rw [this]; rfl
theorem isPrefixOf_long {α : Type} [BEq α] : ∀ (a b : List α), b.length < a.length → a.isPrefixOf b = false
  | [], _, h => by simp at h
  | _ :: _, [], _ => rfl
  | x :: a, y :: b, h => by rw [List.isPrefixOf, isPrefixOf_long a b (by simpa using h), Bool.and_false]
theorem map_size {ps : List ByteArray} {xs : List (List UInt8)} (h : ps.map ByteArray.toList = xs) : (ps.map (fun p => p.size + 1)).sum = (xs.map (fun p => p.length + 1)).sum := by
  rw [← h, List.map_map]
  congr 1
  apply List.map_congr_left
  intro a _
  simp [toList_len]
theorem names_sum (s : List UInt8) : ((names s).map (fun p => p.length + 1)).sum ≤ s.length + 1 := by
  unfold names; split
  · simp
  · rw [sp_sum]; exact Nat.le_refl _
theorem within_f (u x : ByteArray) (hu : u.size ≤ 1048576) (hx : x.size ≤ 1048576) (k : Nat) (hk : 4000000 ≤ k) : ∃ r, garretref17_Within.f k u x = some (r, inP u x) := by
  obtain ⟨ps, p1, p2⟩ := parts_f u hu k (by omega)
  obtain ⟨qs, q1, q2⟩ := parts_f x hx k (by omega)
  have hpl : ps.length = (names u.toList).length := by rw [← p2, List.length_map]
  have hql : qs.length = (names x.toList).length := by rw [← q2, List.length_map]
  have n1 := names_len u.toList
  have n2 := names_len x.toList
  rw [toList_len] at n1 n2
  by_cases h : qs.length < ps.length
  · refine ⟨⟨#[]⟩, ?_⟩
    unfold garretref17_Within.f
    rw [p1, q1, Option.bind_some, Option.bind_some, if_pos (by omega), inP, isPrefixOf_long _ _ (by omega)]
  · have hz : (qs.map (fun p => p.size + 1)).sum ≤ 9223372036854775807 := by
      rw [map_size q2]
      have := names_sum x.toList
      rw [toList_len] at this; omega
    obtain ⟨r, hr⟩ := within_l2 ps qs (by omega) (by omega) hz ps.length 0 (by omega)
    refine ⟨r, ?_⟩
    unfold garretref17_Within.f
    rw [p1, q1, Option.bind_some, Option.bind_some, if_neg (by omega), inP, ← p2, ← q2]
    have mono : ∀ k, LeO (garretref17_Within.l0 k ps qs 0) (garretref17_Within.l0 (k + 1) ps qs 0) := fun k => garretref17_Within.mono_l k ps qs 0
    have := LeO.le mono (show 2000002 + ps.length ≤ k by omega) _ hr
    simpa using this
def partP (l : List S101) (u : ByteArray) : List S101 := l.filter fun e => inP u e.f0
theorem partP_len (l : List S101) (u : ByteArray) : (partP l u).length ≤ l.length := List.length_filter_le _ _
theorem rd101_at {l : List S101} {i : Nat} {x : S101} (h : l[i]? = some x) : rd_T101 l (i : Int) = x := by
  unfold rd_T101; rw [Int.toNat_natCast, List.getD_eq_getElem?_getD, h]; rfl
theorem part_l (l : List S101) (u : ByteArray) (hl : l.length ≤ 10000) (hp : ∀ e ∈ l, e.f0.size ≤ 1048576) (hu : u.size ≤ 1048576) : ∀ d i (out : List S101), i + d = l.length → out.length ≤ i →
    garretref33_part.l0 (4000000 + (d + 1)) l u out (i : Int) = some (out ++ partP (l.drop i) u)
  | 0, i, out, h, ho => by
    rw [show 4000000 + (0 + 1) = 4000000 + 1 from rfl, garretref33_part.l0, if_neg (by omega), List.drop_eq_nil_of_le (by omega)]
    simp [partP]
  | d + 1, i, out, h, ho => by
    have hi : i < l.length := by omega
    have hg : l[i]? = some l[i] := List.getElem?_eq_getElem hi
    obtain ⟨r, hr⟩ := within_f u l[i].f0 hu (hp _ (List.getElem_mem hi)) (4000000 + (d + 1)) (by omega)
    rw [List.drop_eq_getElem_cons hi, show 4000000 + (d + 1 + 1) = (4000000 + (d + 1)) + 1 from by omega, garretref33_part.l0, if_pos (by omega), if_pos (by omega), rd101_at hg, hr, Option.bind_some]
    cases hb : inP u l[i].f0 with
    | true =>
      rw [if_pos rfl, if_pos (by omega), wrapN (by omega), part_l l u hl hp hu d (i + 1) _ (by omega) (by simp; omega)]
      unfold partP; rw [List.filter_cons_of_pos (by simpa using hb)]; simp
    | false =>
      rw [if_neg (by simp), wrapN (by omega), part_l l u hl hp hu d (i + 1) _ (by omega) (by omega)]
      unfold partP; rw [List.filter_cons_of_neg (by simp [hb])]
theorem part_calls (A : Option Addr) (c n : Nat) (l : List S101) (u : ByteArray) (w : World) (hr : Kd.C k101 w A n l) (hn : l.length = n) (hc : n ≤ c) (hl : n ≤ 10000 ∧ ∀ e ∈ l, e.f0.size ≤ 1048576) (hu : u.size ≤ 1048576) :
    Calls Tryz.prog 68 #[.slice A n c, .string u] w fun e w' => ∃ v, e = .returned v ∧ Kd.R k101 101 w' w.heap.size (fun _ => True) v (partP l u) ∧ Below w.heap.size w w' := by
  subst hn
  have h := part_l l u hl.1 hl.2 hu l.length 0 [] (by omega) (Nat.le_refl _)
  exact garretref33_part.calls (4000000 + (l.length + 1)) A c l u _ w hr hc (by unfold garretref33_part.f; simpa using h)
/-- Are two entries the same? -/
def eq1 (x y : S101) : Bool := (x.f0.toList == y.f0.toList) && ((x.f1 == y.f1) && ((x.f2 == y.f2) && ((x.f3 == y.f3) && ((x.f4 == y.f4) && (x.f5.toList == y.f5.toList)))))
def eqE : List S101 → List S101 → Bool
  | [], [] => true
  | x :: a, y :: b => eq1 x y && eqE a b
  | _, _ => false
theorem eqE_long : ∀ (a b : List S101), a.length ≠ b.length → eqE a b = false
  | [], [], h => absurd rfl h
  | [], _ :: _, _ => rfl
  | _ :: _, [], _ => rfl
  | x :: a, y :: b, h => by rw [eqE, eqE_long a b (by simpa using h), Bool.and_false]
theorem same_l (l k : List S101) (he : l.length = k.length) (hl : l.length ≤ 10000) : ∀ d i, i + d = l.length → garretref33_same.l0 (d + 1) l k (i : Int) = some (eqE (l.drop i) (k.drop i))
  | 0, i, h => by
    rw [garretref33_same.l0, if_neg (by omega), List.drop_eq_nil_of_le (by omega), List.drop_eq_nil_of_le (by omega)]; rfl
  | d + 1, i, h => by
    have hi : i < l.length := by omega
    have hi2 : i < k.length := by omega
    have hg : l[i]? = some l[i] := List.getElem?_eq_getElem hi
    have hg2 : k[i]? = some k[i] := List.getElem?_eq_getElem hi2
    rw [List.drop_eq_getElem_cons hi, List.drop_eq_getElem_cons hi2, eqE, garretref33_same.l0, if_pos (by omega), if_pos (by omega), if_pos (by omega), rd101_at hg, rd101_at hg2]
    cases hb : eq1 l[i] k[i] with
    | true =>
      rw [if_neg, wrapN (by omega), same_l l k he hl d (i + 1) (by omega), Bool.true_and]
      unfold eq1 at hb; simp only [Bool.and_eq_true] at hb
      obtain ⟨h0, h1, h2, h3, h4, h5⟩ := hb
      simp [h0, h1, h2, h3, h4, h5] 
    | false =>
      rw [if_pos, Bool.false_and]
      unfold eq1 at hb
      cases b0 : (l[i].f0.toList == k[i].f0.toList) <;> cases b1 : (l[i].f1 == k[i].f1) <;> cases b2 : (l[i].f2 == k[i].f2) <;> cases b3 : (l[i].f3 == k[i].f3) <;> cases b4 : (l[i].f4 == k[i].f4) <;> cases b5 : (l[i].f5.toList == k[i].f5.toList) <;> rw [b0, b1, b2, b3, b4, b5] at hb <;> first | rfl | (exact absurd hb (by decide))
theorem same_calls (A : Option Addr) (c n : Nat) (l : List S101) (B : Option Addr) (d m : Nat) (k : List S101) (w : World) (hr : Kd.C k101 w A n l) (hn : l.length = n) (hc : n ≤ c) (hrk : Kd.C k101 w B m k) (hm : k.length = m) (hd : m ≤ d) (hl : n ≤ 10000) :
    Calls Tryz.prog 67 #[.slice A n c, .slice B m d] w fun e w' => e = .returned (.bool (eqE l k)) ∧ Below w.heap.size w w' := by
  subst hn; subst hm
  refine (garretref33_same.calls (l.length + 1) A c l B d k (eqE l k) w hr hc hrk hd ?_).mono fun e w' h => ⟨h.1, ?_⟩
  · unfold garretref33_same.f
    by_cases he : l.length = k.length
    · rw [if_pos (by omega)]
      simpa using same_l l k he hl l.length 0 (by omega)
    · rw [if_neg (by omega), eqE_long _ _ he]
  · obtain ⟨m, rfl⟩ := h.2
    exact pw_below_drewN (Below.refl _ _) _
end Go.Proofs.YtkicenkljjpcfaaGreatDoor.Q
/- The reference's questions about one span, walked. -/
namespace Go.Proofs.YtkicenkljjpcfaaGreatDoor.Q
open Go.RowKit Go.Proofs.YtkicenkljjpcfaaGreatDoorW.PrintWords Go.Proofs.YtkicenkljjpcfaaGreatDoorW.PrintLast Go.Proofs.YtkicenkljjpcfaaGreatDoorW.PrintMore
theorem s57 : (Tryz.prog.info? 57).map (·.size) = some 20 := by kernel_rfl
theorem eq_list {a b : ByteArray} (h : a = b) : a.toList = b.toList := by rw [h]
theorem rd9_get {l : List ByteArray} {i : Nat} (h : i < l.length) : rdOf ByteArray.empty l (i : Int) = l[i] := by unfold rdOf; simp [List.getD_eq_getElem?_getD, List.getElem?_eq_getElem h]
theorem wrap64_nat {i : Nat} (h : i < 100000) : wrap64 ((i : Int) + 1) = ((i + 1 : Nat) : Int) := by unfold wrap64; omega
theorem within_l (s : ByteArray) (l : List ByteArray) (hl : l.length ≤ 10000) : ∀ (d i : Nat), i + d = l.length → garretref33_within.l0 (d + 1) s l (i : Int) = some (memT s (l.drop i))
  | 0, i, h => by
    rw [garretref33_within.l0, if_neg (by omega), List.drop_eq_nil_of_le (by omega)]
    rfl
  | d + 1, i, h => by
    have hi : i < l.length := by omega
    rw [garretref33_within.l0, if_pos (by omega), if_pos (by omega), rd9_get hi, wrap64_nat (by omega), within_l s l hl d (i + 1) (by omega), show l.drop i = l[i] :: l.drop (i + 1) from List.drop_eq_getElem_cons hi]
    unfold memT
    rw [List.any_cons]
    by_cases he : l[i].toList = s.toList
    · rw [if_pos he]
      have : eqT l[i] s = true := beq_iff_eq.2 he
      rw [this, Bool.true_or]
    · rw [if_neg he]
      have : eqT l[i] s = false := beq_eq_false_iff_ne.2 he
      rw [this, Bool.false_or]
theorem within_calls (s : ByteArray) (l : List ByteArray) (A : Option Addr) (n c : Nat) (w : World) (hr : Kd.C Kd.string w A n l) (hn : l.length = n) (hc : n ≤ c) (hl : n ≤ 10000) :
    Calls Tryz.prog 69 #[.string s, .slice A n c] w fun e w' => e = .returned (.bool (memT s l)) ∧ Below w.heap.size w w' := by
  subst hn
  exact (garretref33_within.calls (l.length + 1) s A c l _ w hr hc (by unfold garretref33_within.f; have := within_l s l hl l.length 0 (by omega); simpa using this)).mono fun _ _ h => ⟨h.1, h.2.below⟩
set_option maxHeartbeats 4000000 in
set_option maxRecDepth 100000 in
theorem made_calls (s : Sp) (x : ByteArray) (w : World) : Calls Tryz.prog 23 #[aggS s, .string x] w fun e w' => e = .returned (.bool (madeP s x)) ∧ Below w.heap.size w w' := by
  have HB : Aside0 (Below w.heap.size w (w.alloc (.cells #[.int .i64 s.c.kind, .slice s.c.eA s.c.eN s.c.eC, .int .i64 s.c.time, .string s.c.host, .string s.c.parent, .slice s.c.iA s.c.iN s.c.iC, .string s.c.path, .slice s.c.uA s.c.uN s.c.uC, .int .i64 s.c.percent, .bool s.c.rd, .int .i64 s.r.code, .string s.r.id, .int .i64 s.r.n, .slice s.r.jA s.r.jN s.r.jC, .slice s.r.tA s.r.tN s.r.tC, .slice s.r.fA s.r.fN s.r.fC, .slice s.r.sA s.r.sN s.r.sC, .int .i64 s.b, .int .i64 s.e, .bool s.op] 57))) := ⟨below_alloc (Below.refl _ _) _⟩
  have hE : (s.r.id.toList == x.toList) = eqT s.r.id x := rfl
  unfold madeP
  cases h1 : s.c.kind == 2 with
  | false =>
    go_enter Tryz.func23, Tryz.ntmps23
    go_wp2_with (fail)
    go_ret
    exact ⟨rfl, HB.out⟩
  | true =>
    cases h2 : s.op with
    | false =>
      rw [h2] at HB
      cases h3 : s.r.code == 0 with
      | false =>
        go_enter Tryz.func23, Tryz.ntmps23
        go_wp2_with (fail)
        go_ret
        exact ⟨rfl, HB.out⟩
      | true =>
        go_enter Tryz.func23, Tryz.ntmps23
        go_wp2_with (fail)
        go_ret
        exact ⟨rfl, HB.out⟩
    | true =>
      rw [h2] at HB
      go_enter Tryz.func23, Tryz.ntmps23
      go_wp2_with (fail)
      go_ret
      exact ⟨rfl, HB.out⟩
set_option maxHeartbeats 4000000 in
set_option maxRecDepth 100000 in
theorem rem_calls (s : Sp) (w : World) : Calls Tryz.prog 97 #[aggS s] w fun e w' => e = .returned (.bool (remP s)) ∧ Below w.heap.size w w' := by
  have HB : Aside0 (Below w.heap.size w (w.alloc (.cells #[.int .i64 s.c.kind, .slice s.c.eA s.c.eN s.c.eC, .int .i64 s.c.time, .string s.c.host, .string s.c.parent, .slice s.c.iA s.c.iN s.c.iC, .string s.c.path, .slice s.c.uA s.c.uN s.c.uC, .int .i64 s.c.percent, .bool s.c.rd, .int .i64 s.r.code, .string s.r.id, .int .i64 s.r.n, .slice s.r.jA s.r.jN s.r.jC, .slice s.r.tA s.r.tN s.r.tC, .slice s.r.fA s.r.fN s.r.fC, .slice s.r.sA s.r.sN s.r.sC, .int .i64 s.b, .int .i64 s.e, .bool s.op] 57))) := ⟨below_alloc (Below.refl _ _) _⟩
  unfold remP
  cases h1 : s.c.kind == 6 with
  | false =>
    go_enter Tryz.func97, Tryz.ntmps97
    go_wp2_with (fail)
    go_ret
    exact ⟨rfl, HB.out⟩
  | true =>
    go_enter Tryz.func97, Tryz.ntmps97
    go_wp2_with (fail)
    go_ret
    exact ⟨rfl, HB.out⟩
set_option maxHeartbeats 4000000 in
set_option maxRecDepth 100000 in
theorem may_calls (s : Sp) (w : World) : Calls Tryz.prog 83 #[aggS s] w fun e w' => e = .returned (.bool (mayP s)) ∧ Below w.heap.size w w' := by
  have HB : Aside0 (Below w.heap.size w (w.alloc (.cells #[.int .i64 s.c.kind, .slice s.c.eA s.c.eN s.c.eC, .int .i64 s.c.time, .string s.c.host, .string s.c.parent, .slice s.c.iA s.c.iN s.c.iC, .string s.c.path, .slice s.c.uA s.c.uN s.c.uC, .int .i64 s.c.percent, .bool s.c.rd, .int .i64 s.r.code, .string s.r.id, .int .i64 s.r.n, .slice s.r.jA s.r.jN s.r.jC, .slice s.r.tA s.r.tN s.r.tC, .slice s.r.fA s.r.fN s.r.fC, .slice s.r.sA s.r.sN s.r.sC, .int .i64 s.b, .int .i64 s.e, .bool s.op] 57))) := ⟨below_alloc (Below.refl _ _) _⟩
  unfold mayP
  cases h1 : s.c.kind == 2 with
  | false =>
    go_enter Tryz.func83, Tryz.ntmps83
    go_wp2_with (fail)
    go_ret
    exact ⟨rfl, HB.out⟩
  | true =>
    cases h2 : s.op with
    | false =>
      rw [h2] at HB
      go_enter Tryz.func83, Tryz.ntmps83
      go_wp2_with (fail)
      go_ret
      exact ⟨rfl, HB.out⟩
    | true =>
      rw [h2] at HB
      go_enter Tryz.func83, Tryz.ntmps83
      go_wp2_with (fail)
      go_ret
      exact ⟨rfl, HB.out⟩
set_option maxHeartbeats 4000000 in
set_option maxRecDepth 100000 in
theorem took_calls (s : Sp) (x : ByteArray) (w : World) (h : RdR w s.r) (hl : s.r.jN ≤ 10000) : Calls Tryz.prog 75 #[aggS s, .string x] w fun e w' => e = .returned (.bool (tookP s x)) ∧ Below w.heap.size w w' := by
  have hu57 := Tryz.underlying57
  have HB0 : Aside0 (Below w.heap.size w (w.alloc (.cells #[.int .i64 s.c.kind, .slice s.c.eA s.c.eN s.c.eC, .int .i64 s.c.time, .string s.c.host, .string s.c.parent, .slice s.c.iA s.c.iN s.c.iC, .string s.c.path, .slice s.c.uA s.c.uN s.c.uC, .int .i64 s.c.percent, .bool s.c.rd, .int .i64 s.r.code, .string s.r.id, .int .i64 s.r.n, .slice s.r.jA s.r.jN s.r.jC, .slice s.r.tA s.r.tN s.r.tC, .slice s.r.fA s.r.fN s.r.fC, .slice s.r.sA s.r.sN s.r.sC, .int .i64 s.b, .int .i64 s.e, .bool s.op] 57))) := ⟨below_alloc (Below.refl _ _) _⟩
  have HK0 : Aside0 ((w.alloc (.cells #[.int .i64 s.c.kind, .slice s.c.eA s.c.eN s.c.eC, .int .i64 s.c.time, .string s.c.host, .string s.c.parent, .slice s.c.iA s.c.iN s.c.iC, .string s.c.path, .slice s.c.uA s.c.uN s.c.uC, .int .i64 s.c.percent, .bool s.c.rd, .int .i64 s.r.code, .string s.r.id, .int .i64 s.r.n, .slice s.r.jA s.r.jN s.r.jC, .slice s.r.tA s.r.tN s.r.tC, .slice s.r.fA s.r.fN s.r.fC, .slice s.r.sA s.r.sN s.r.sC, .int .i64 s.b, .int .i64 s.e, .bool s.op] 57)).heap[w.heap.size]? = some (.cells #[.int .i64 s.c.kind, .slice s.c.eA s.c.eN s.c.eC, .int .i64 s.c.time, .string s.c.host, .string s.c.parent, .slice s.c.iA s.c.iN s.c.iC, .string s.c.path, .slice s.c.uA s.c.uN s.c.uC, .int .i64 s.c.percent, .bool s.c.rd, .int .i64 s.r.code, .string s.r.id, .int .i64 s.r.n, .slice s.r.jA s.r.jN s.r.jC, .slice s.r.tA s.r.tN s.r.tC, .slice s.r.fA s.r.fN s.r.fC, .slice s.r.sA s.r.sN s.r.sC, .int .i64 s.b, .int .i64 s.e, .bool s.op] 57 (0, 0))) := ⟨(MapKept.heap_alloc w _).1⟩
  have HR := Aside0.mk h
  clear h
  unfold tookP
  go_enter Tryz.func75, Tryz.ntmps75
  go_upto_region 1 with (fail)
  generalize (w.alloc (.cells #[.int .i64 s.c.kind, .slice s.c.eA s.c.eN s.c.eC, .int .i64 s.c.time, .string s.c.host, .string s.c.parent, .slice s.c.iA s.c.iN s.c.iC, .string s.c.path, .slice s.c.uA s.c.uN s.c.uC, .int .i64 s.c.percent, .bool s.c.rd, .int .i64 s.r.code, .string s.r.id, .int .i64 s.r.n, .slice s.r.jA s.r.jN s.r.jC, .slice s.r.tA s.r.tN s.r.tC, .slice s.r.fA s.r.fN s.r.fC, .slice s.r.sA s.r.sN s.r.sC, .int .i64 s.b, .int .i64 s.e, .bool s.op] 57)) = W0 at HB0 HK0 ⊢
  obtain ⟨g, hg⟩ : ∃ g, g = w.heap.size := ⟨_, rfl⟩
  rw [← hg] at HK0 ⊢
  clear hg
  go_wp2_with ((with_reducible refine gate_dst (N := 5) rfl ?_); refine wpList_load_any (wanted_none rfl) 57 (.tmp 2) rfl ⟨g, 0, none⟩ rfl (encS s) _ (cells_blk HK0.out) Tryz.underlying57 rfl s57 ?_)
  refine (rem_calls s _).mono ?_
  rintro e w1 ⟨rfl, hB⟩
  have HB1 := Aside0.mk (below_step HB0.out hB)
  have HK1 := Aside0.mk (blk_below HK0.out hB)
  clear hB HB0 HK0
  have k13 : w1.cell? ⟨g, 13, none⟩ = some (.slice s.r.jA s.r.jN s.r.jC) := (blk_cell HK1.out 13).trans rfl
  have k19 : w1.cell? ⟨g, 19, none⟩ = some (.bool s.op) := (blk_cell HK1.out 19).trans rfl
  cases h1 : remP s with
  | false =>
    go_wp2_with (fail)
    go_ret
    exact ⟨by rw [h1]; rfl, HB1.out⟩
  | true =>
    cases h2 : s.op with
    | true =>
      rw [h2] at k19
      go_wp2_with (fail)
      go_ret
      exact ⟨by rw [h1, h2]; rfl, HB1.out⟩
    | false =>
      rw [h2] at k19
      go_wp2_with (fail)
      refine (within_calls x s.r.rids s.r.jA s.r.jN s.r.jC w1 (Kd.C_below HR.out.ids.2.2 HB1.out) HR.out.ids.2.1 HR.out.ids.1 hl).mono ?_
      rintro e w2 ⟨rfl, hB⟩
      have HB2 := Aside0.mk (below_step HB1.out hB)
      clear hB
      go_wp2_with (fail)
      go_ret
      exact ⟨by rw [h1, h2]; rfl, HB2.out⟩
set_option maxHeartbeats 8000000 in
set_option maxRecDepth 100000 in
theorem mayTake_calls (s : Sp) (x : ByteArray) (w : World) (h : RdS w s) (hl : s.r.jN ≤ 10000) (hl2 : s.c.iN ≤ 10000) : Calls Tryz.prog 76 #[aggS s, .string x] w fun e w' => e = .returned (.bool (mayTakeP s x)) ∧ Below w.heap.size w w' := by
  have hu57 := Tryz.underlying57
  have HB0 : Aside0 (Below w.heap.size w (w.alloc (.cells #[.int .i64 s.c.kind, .slice s.c.eA s.c.eN s.c.eC, .int .i64 s.c.time, .string s.c.host, .string s.c.parent, .slice s.c.iA s.c.iN s.c.iC, .string s.c.path, .slice s.c.uA s.c.uN s.c.uC, .int .i64 s.c.percent, .bool s.c.rd, .int .i64 s.r.code, .string s.r.id, .int .i64 s.r.n, .slice s.r.jA s.r.jN s.r.jC, .slice s.r.tA s.r.tN s.r.tC, .slice s.r.fA s.r.fN s.r.fC, .slice s.r.sA s.r.sN s.r.sC, .int .i64 s.b, .int .i64 s.e, .bool s.op] 57))) := ⟨below_alloc (Below.refl _ _) _⟩
  have HK0 : Aside0 ((w.alloc (.cells #[.int .i64 s.c.kind, .slice s.c.eA s.c.eN s.c.eC, .int .i64 s.c.time, .string s.c.host, .string s.c.parent, .slice s.c.iA s.c.iN s.c.iC, .string s.c.path, .slice s.c.uA s.c.uN s.c.uC, .int .i64 s.c.percent, .bool s.c.rd, .int .i64 s.r.code, .string s.r.id, .int .i64 s.r.n, .slice s.r.jA s.r.jN s.r.jC, .slice s.r.tA s.r.tN s.r.tC, .slice s.r.fA s.r.fN s.r.fC, .slice s.r.sA s.r.sN s.r.sC, .int .i64 s.b, .int .i64 s.e, .bool s.op] 57)).heap[w.heap.size]? = some (.cells #[.int .i64 s.c.kind, .slice s.c.eA s.c.eN s.c.eC, .int .i64 s.c.time, .string s.c.host, .string s.c.parent, .slice s.c.iA s.c.iN s.c.iC, .string s.c.path, .slice s.c.uA s.c.uN s.c.uC, .int .i64 s.c.percent, .bool s.c.rd, .int .i64 s.r.code, .string s.r.id, .int .i64 s.r.n, .slice s.r.jA s.r.jN s.r.jC, .slice s.r.tA s.r.tN s.r.tC, .slice s.r.fA s.r.fN s.r.fC, .slice s.r.sA s.r.sN s.r.sC, .int .i64 s.b, .int .i64 s.e, .bool s.op] 57 (0, 0))) := ⟨(MapKept.heap_alloc w _).1⟩
  have HR := Aside0.mk h
  clear h
  unfold mayTakeP
  go_enter Tryz.func76, Tryz.ntmps76
  go_upto_region 1 with (fail)
  generalize (w.alloc (.cells #[.int .i64 s.c.kind, .slice s.c.eA s.c.eN s.c.eC, .int .i64 s.c.time, .string s.c.host, .string s.c.parent, .slice s.c.iA s.c.iN s.c.iC, .string s.c.path, .slice s.c.uA s.c.uN s.c.uC, .int .i64 s.c.percent, .bool s.c.rd, .int .i64 s.r.code, .string s.r.id, .int .i64 s.r.n, .slice s.r.jA s.r.jN s.r.jC, .slice s.r.tA s.r.tN s.r.tC, .slice s.r.fA s.r.fN s.r.fC, .slice s.r.sA s.r.sN s.r.sC, .int .i64 s.b, .int .i64 s.e, .bool s.op] 57)) = W0 at HB0 HK0 ⊢
  obtain ⟨g, hg⟩ : ∃ g, g = w.heap.size := ⟨_, rfl⟩
  rw [← hg] at HK0 ⊢
  clear hg
  go_wp2_with ((with_reducible refine gate_dst (N := 5) rfl ?_); refine wpList_load_any (wanted_none rfl) 57 (.tmp 2) rfl ⟨g, 0, none⟩ rfl (encS s) _ (cells_blk HK0.out) Tryz.underlying57 rfl s57 ?_)
  refine (rem_calls s _).mono ?_
  rintro e w1 ⟨rfl, hB⟩
  have HB1 := Aside0.mk (below_step HB0.out hB)
  have HK1 := Aside0.mk (blk_below HK0.out hB)
  clear hB HB0 HK0
  cases h1 : remP s with
  | false =>
    go_wp2_with (fail)
    go_ret
    exact ⟨by rw [h1]; rfl, HB1.out⟩
  | true =>
    go_wp2_with ((with_reducible refine gate_dst (N := 8) rfl ?_); refine wpList_load_any (by rfl) 57 (.tmp 2) rfl ⟨g, 0, none⟩ rfl (encS s) _ (cells_blk HK1.out) Tryz.underlying57 rfl s57 ?_)
    refine (took_calls s x w1 (HR.out.2.below HB1.out) hl).mono ?_
    rintro e w2 ⟨rfl, hB⟩
    have HB2 := Aside0.mk (below_step HB1.out hB)
    have HK2 := Aside0.mk (blk_below HK1.out hB)
    clear hB HB1 HK1
    have k0 : w2.cell? ⟨g, 0, none⟩ = some (.int .i64 s.c.kind) := (blk_cell HK2.out 0).trans rfl
    have k5 : w2.cell? ⟨g, 5, none⟩ = some (.slice s.c.iA s.c.iN s.c.iC) := (blk_cell HK2.out 5).trans rfl
    have k10 : w2.cell? ⟨g, 10, none⟩ = some (.int .i64 s.r.code) := (blk_cell HK2.out 10).trans rfl
    have k19 : w2.cell? ⟨g, 19, none⟩ = some (.bool s.op) := (blk_cell HK2.out 19).trans rfl
    cases h2 : tookP s x with
    | true =>
      go_wp2_with (fail)
      go_ret
      exact ⟨by rw [h1, h2]; rfl, HB2.out⟩
    | false =>
      cases h3 : s.op with
      | true =>
        rw [h3] at k19
        cases h5 : s.c.kind == 6 with
        | true =>
          go_wp2_with (fail)
          go_ret
          exact ⟨by rw [h1, h2, h3, h5]; rfl, HB2.out⟩
        | false =>
          go_wp2_with (fail)
          refine (within_calls x s.c.ids s.c.iA s.c.iN s.c.iC w2 (Kd.C_below HR.out.1.ids.2.2 HB2.out) HR.out.1.ids.2.1 HR.out.1.ids.1 hl2).mono ?_
          rintro e w3 ⟨rfl, hB⟩
          have HB3 := Aside0.mk (below_step HB2.out hB)
          clear hB
          go_wp2_with (fail)
          go_ret
          exact ⟨by rw [h1, h2, h3, h5]; rfl, HB3.out⟩
      | false =>
        rw [h3] at k19
        cases h4 : s.r.code != 0 with
        | false =>
          go_wp2_with (fail)
          go_ret
          exact ⟨by rw [h1, h2, h3, h4]; rfl, HB2.out⟩
        | true =>
          cases h5 : s.c.kind == 6 with
          | true =>
            go_wp2_with (fail)
            go_ret
            exact ⟨by rw [h1, h2, h3, h4, h5]; rfl, HB2.out⟩
          | false =>
            go_wp2_with (fail)
            refine (within_calls x s.c.ids s.c.iA s.c.iN s.c.iC w2 (Kd.C_below HR.out.1.ids.2.2 HB2.out) HR.out.1.ids.2.1 HR.out.1.ids.1 hl2).mono ?_
            rintro e w3 ⟨rfl, hB⟩
            have HB3 := Aside0.mk (below_step HB2.out hB)
            clear hB
            go_wp2_with (fail)
            go_ret
            exact ⟨by rw [h1, h2, h3, h4, h5]; rfl, HB3.out⟩
end Go.Proofs.YtkicenkljjpcfaaGreatDoor.Q
/- The reference's keeps, sure and seen, walked. -/
namespace Go.Proofs.YtkicenkljjpcfaaGreatDoor.Q
open Go.RowKit Go.Proofs.YtkicenkljjpcfaaGreatDoorW.PrintWords Go.Proofs.YtkicenkljjpcfaaGreatDoorW.PrintLast Go.Proofs.YtkicenkljjpcfaaGreatDoorW.PrintMore
theorem below_grown {B : Nat} {w W w1 : World} {row : Option Nat} (hB : Below B w W) (hg : W.grownBy w1 row) (h : B ≤ W.heap.size) (hr : ∀ k, row = some k → B ≤ k) : Below B w w1 :=
  ⟨hg.os.trans hB.os, hg.tape.trans hB.tape, hg.output.trans hB.output, Nat.le_trans hB.size hg.size, fun k hk => (hg.block k (Nat.lt_of_lt_of_le hk h) (fun e => by have := hr k e.symm; omega)).trans (hB.block k hk)⟩
theorem cellsS {w : World} {A : Option Addr} {n : Nat} {l : List Sp} (h : Kd.C kS w A n l) (i : Nat) (h1 : i < n) (x : Sp) (hx : l[i]? = some x) : ∃ ad, A = some ad ∧ ∀ j v, (encS x)[j]? = some v → w.cell? ((ad.add (i * 20)).add j) = some v := by
  obtain ⟨ad, c, e, _, hK, hc0⟩ := Kd.C_get h x (i : Int) (by omega) (by omega)
  have hg : l.getD (i : Int).toNat x = x := by rw [Int.toNat_natCast, List.getD_eq_getElem?_getD, hx]; rfl
  rw [hg] at hK
  rw [Int.toNat_natCast] at hc0
  have hK' : c = encS x := hK
  subst hK'
  exact ⟨ad, e, fun j v hv => by rw [Go.Deep.add_add]; exact hc0 j v hv⟩
theorem all_take {α : Type} (q : α → Bool) (l : List α) (k : Nat) (x : α) (hx : l[k]? = some x) : (l.take (k + 1)).all q = ((l.take k).all q && q x) := by
  have hk := (List.getElem?_eq_some_iff.1 hx).1
  rw [List.take_succ_eq_append_getElem hk, List.all_append, (List.getElem?_eq_some_iff.1 hx).2]
  simp
theorem all_not {α : Type} {q : α → Bool} {l : List α} {k : Nat} {x : α} (hx : l[k]? = some x) (h : q x = false) : l.all q = false := by
  rw [List.all_eq_false]
  exact ⟨x, List.mem_of_getElem? hx, by simp [h]⟩
/-- How long lists may be. -/
def LenS (s : Sp) : Prop := s.r.jN ≤ 10000 ∧ s.c.iN ≤ 10000 ∧ (s.c.eN ≤ 10000 ∧ ∀ e ∈ s.c.ents, e.f0.size ≤ 1048576) ∧ s.r.fN ≤ 10000 ∧ s.c.path.size ≤ 1048576
def kq (m : Sp) (x : ByteArray) (e : Int) (r : Sp) : Bool := !(tookP r x || mayTakeP r x) || (!r.op && decide (r.e < m.b)) || decide (e < r.b)
theorem keepsP_kq (l : List Sp) (m : Sp) (x : ByteArray) (b e : Int) : keepsP l m x b e = (madeP m x && (decide (m.e < b) && l.all (kq m x e))) := rfl
set_option maxHeartbeats 8000000 in
set_option maxRecDepth 100000 in
theorem keeps_calls (A : Option Addr) (c : Nat) (l : List Sp) (m : Sp) (x : ByteArray) (b e : Int) (w : World) (h : CS w A l) (hl : l.length ≤ 10000) (hs : ∀ s ∈ l, LenS s) :
    Calls Tryz.prog 48 #[.slice A l.length c, aggS m, .string x, .int .i64 b, .int .i64 e] w fun e' w' => e' = .returned (.bool (keepsP l m x b e)) ∧ Below w.heap.size w w' := by
  have HC := Aside0.mk h
  have HS := Aside0.mk hs
  have HB0 : Aside0 (Below w.heap.size w (w.alloc (.cells #[.int .i64 m.c.kind, .slice m.c.eA m.c.eN m.c.eC, .int .i64 m.c.time, .string m.c.host, .string m.c.parent, .slice m.c.iA m.c.iN m.c.iC, .string m.c.path, .slice m.c.uA m.c.uN m.c.uC, .int .i64 m.c.percent, .bool m.c.rd, .int .i64 m.r.code, .string m.r.id, .int .i64 m.r.n, .slice m.r.jA m.r.jN m.r.jC, .slice m.r.tA m.r.tN m.r.tC, .slice m.r.fA m.r.fN m.r.fC, .slice m.r.sA m.r.sN m.r.sC, .int .i64 m.b, .int .i64 m.e, .bool m.op] 57))) := ⟨below_alloc (Below.refl _ _) _⟩
  have HK0 : Aside0 ((w.alloc (.cells #[.int .i64 m.c.kind, .slice m.c.eA m.c.eN m.c.eC, .int .i64 m.c.time, .string m.c.host, .string m.c.parent, .slice m.c.iA m.c.iN m.c.iC, .string m.c.path, .slice m.c.uA m.c.uN m.c.uC, .int .i64 m.c.percent, .bool m.c.rd, .int .i64 m.r.code, .string m.r.id, .int .i64 m.r.n, .slice m.r.jA m.r.jN m.r.jC, .slice m.r.tA m.r.tN m.r.tC, .slice m.r.fA m.r.fN m.r.fC, .slice m.r.sA m.r.sN m.r.sC, .int .i64 m.b, .int .i64 m.e, .bool m.op] 57)).heap[w.heap.size]? = some (.cells (encS m).toArray 57 (0, 0))) := ⟨(MapKept.heap_alloc w _).1⟩
  clear h hs
  go_enter Tryz.func48, Tryz.ntmps48
  go_upto_region 1 with (fail)
  generalize (w.alloc (.cells #[.int .i64 m.c.kind, .slice m.c.eA m.c.eN m.c.eC, .int .i64 m.c.time, .string m.c.host, .string m.c.parent, .slice m.c.iA m.c.iN m.c.iC, .string m.c.path, .slice m.c.uA m.c.uN m.c.uC, .int .i64 m.c.percent, .bool m.c.rd, .int .i64 m.r.code, .string m.r.id, .int .i64 m.r.n, .slice m.r.jA m.r.jN m.r.jC, .slice m.r.tA m.r.tN m.r.tC, .slice m.r.fA m.r.fN m.r.fC, .slice m.r.sA m.r.sN m.r.sC, .int .i64 m.b, .int .i64 m.e, .bool m.op] 57)) = W0 at HB0 HK0 ⊢
  obtain ⟨g, hg⟩ : ∃ g, g = w.heap.size := ⟨_, rfl⟩
  rw [← hg] at HK0 ⊢
  clear hg
  go_wp2_with (((with_reducible refine gate_dst (N := 13) rfl ?_); refine wpList_load_any (by rfl) 57 (.tmp 6) rfl ⟨g, 0, none⟩ rfl (encS m) _ (cells_blk HK0.out) Tryz.underlying57 rfl s57 ?_))
  refine (made_calls m x _).mono ?_
  rintro e1 w1 ⟨rfl, hB⟩
  have HB1 := Aside0.mk (below_step HB0.out hB)
  have HK1 := Aside0.mk (blk_below HK0.out hB)
  clear hB HB0 HK0
  have k18 : w1.cell? ⟨g, 18, none⟩ = some (.int .i64 m.e) := (blk_cell HK1.out 18).trans rfl
  cases h1 : madeP m x with
  | false =>
    go_wp2_with (fail)
    go_ret
    exact ⟨by rw [keepsP_kq, h1]; rfl, HB1.out⟩
  | true =>
    by_cases h2 : m.e < b
    · have d2 : decide (m.e ≥ b) = false := decide_eq_false (by omega)
      have h2' : ¬ b ≤ m.e := by omega
      go_wp2_with (fail)
      go_loopw [11] (fun v11 wr => ∃ k : Nat, k ≤ l.length ∧ v11 = .int .i64 k ∧ Aside0 ((l.take k).all (kq m x e) = true) ∧ Aside0 (Below w1.heap.size w1 wr)) (fun v11 _ => l.length - (intOf v11).toNat)
      case atStart => exact ⟨0, Nat.zero_le _, rfl, ⟨rfl⟩, ⟨Below.refl _ _⟩⟩
      case round =>
        clear k18
        obtain ⟨k, hk, rfl, HQ, HW⟩ := hrel
        have HBW := Aside0.mk (below_step HB1.out HW.out)
        have HKW := Aside0.mk (blk_below HK1.out HW.out)
        by_cases hlt : k < l.length
        · obtain ⟨r, hr⟩ : ∃ r, l[k]? = some r := ⟨_, List.getElem?_eq_getElem hlt⟩
          have hrm : r ∈ l := List.mem_of_getElem? hr
          obtain ⟨ad, rfl, hcell⟩ := cellsS (HC.out.below HBW.out).1 k hlt r hr
          have HCE := Aside0.mk hcell
          have HRD := Aside0.mk (HC.out.2 r hrm)
          have HLN := Aside0.mk (HS.out r hrm)
          have HTK := Aside0.mk (all_take (kq m x e) l k r hr)
          have HNO : Aside0 (kq m x e r = false → l.all (kq m x e) = false) := ⟨fun hq => all_not hr hq⟩
          clear hcell hrm hr
          have hml : k < maxLen := by unfold maxLen; omega
          go_upto_region 7 with (first | ((with_reducible refine gate_dst (N := 32) rfl ?_); refine wpList_load_any (by rfl) 57 (.tmp 31) rfl (ad.add (k * 20)) rfl (encS r) _ (HCE.out) Tryz.underlying57 rfl s57 ?_) | ((with_reducible refine gate_dst (N := 12) rfl ?_); refine box_event ?hg (N := 12) ?hd (cs := #[.int .i64 0, .slice none 0 0, .int .i64 0, .string ⟨#[]⟩, .string ⟨#[]⟩, .slice none 0 0, .string ⟨#[]⟩, .slice none 0 0, .int .i64 0, .bool false, .int .i64 0, .string ⟨#[]⟩, .int .i64 0, .slice none 0 0, .slice none 0 0, .slice none 0 0, .slice none 0 0, .int .i64 0, .int .i64 0, .bool false]) (t := 57) ?hr ?_; (case hd => rfl); (case hg => rfl); (case hr => first | (go_simp; done) | (go_simp; rfl)); intro gx hg wx hbox hb; have HZ := Aside0.mk hbox; have HGX := Aside0.mk hg; have HBX := Aside0.mk hb; clear hg hbox hb) | (refine wpList_store_new rfl 57 (.tmp 12) (.tmp 32) rfl gx _ (encS r) 57 rfl rfl HZ.out rfl s57 (encS_one r) ?_; intro wy hy1 hy2; have HX := Aside0.mk hy1; have HBY : Aside0 (Below wr.heap.size wr wy) := ⟨below_grown HBX.out hy2 HBX.out.size (fun k hk => by injection hk with hk; rw [← hk, HGX.out]; exact Nat.le_refl _)⟩; clear hy1 hy2 HZ HBX; skip))
          have HKX := Aside0.mk (blk_below HKW.out HBY.out)
          have HBWX := Aside0.mk (below_step HBW.out HBY.out)
          have HWX := Aside0.mk (below_step HW.out HBY.out)
          clear HKW HBW HW HBY HCE
          go_wp2_with (((with_reducible refine gate_dst (N := 33) rfl ?_); refine wpList_load_any (by rfl) 57 (.tmp 12) rfl ⟨gx, 0, none⟩ rfl (encS r) _ (cells_blk HX.out) Tryz.underlying57 rfl s57 ?_))
          refine (took_calls r x _ (HRD.out.2.below HBWX.out) HLN.out.1).mono ?_
          rintro e2 w2 ⟨rfl, hB⟩
          have HX2 := Aside0.mk (blk_below HX.out hB)
          have HK2 := Aside0.mk (blk_below HKX.out hB)
          have HB2 := Aside0.mk (below_step HBWX.out hB)
          have HW2 := Aside0.mk (below_step HWX.out hB)
          clear hB HX HKX HBWX HWX
          obtain ⟨tk, htk⟩ : ∃ tk, tk = tookP r x := ⟨_, rfl⟩
          rw [← htk]
          have HTT := Aside0.mk htk
          clear htk
          cases tk with
          | true =>
            have hq : kq m x e r = ((!r.op && decide (r.e < m.b)) || decide (e < r.b)) := by show (!(tookP r x || mayTakeP r x) || _ || _) = _; rw [← HTT.out]; rfl
            have x17 : w2.cell? ⟨gx, 17, none⟩ = some (.int .i64 r.b) := (blk_cell HX2.out 17).trans rfl
            have x18 : w2.cell? ⟨gx, 18, none⟩ = some (.int .i64 r.e) := (blk_cell HX2.out 18).trans rfl
            have x19 : w2.cell? ⟨gx, 19, none⟩ = some (.bool r.op) := (blk_cell HX2.out 19).trans rfl
            have k17 : w2.cell? ⟨g, 17, none⟩ = some (.int .i64 m.b) := (blk_cell HK2.out 17).trans rfl
            clear HX2 HK2
            cases h3 : r.op with
            | true =>
              rw [h3] at x19
              by_cases h5 : e < r.b
              · have d5 : decide (r.b ≤ e) = false := decide_eq_false (by omega)
                have h5' : ¬ r.b ≤ e := by omega
                have HN : Aside0 ((l.take (k + 1)).all (kq m x e) = true) := ⟨by rw [HTK.out, HQ.out, hq, h3, decide_eq_true h5]; rfl⟩
                clear HNO HTK hq
                go_wp2_with (fail)
                go_roundw
                case rel => exact ⟨k + 1, hlt, by go_simp, HN, HW2⟩
                case measure => simp [intOf]; omega
              · have d5 : decide (r.b ≤ e) = true := decide_eq_true (by omega)
                have h5' : r.b ≤ e := by omega
                go_wp2_with (fail)
                go_ret
                exact ⟨by rw [keepsP_kq, h1, HNO.out (by rw [hq, h3, decide_eq_false (by omega : ¬ e < r.b)]; rfl), decide_eq_true h2]; rfl, HB2.out⟩
            | false =>
              rw [h3] at x19
              by_cases h4 : r.e < m.b
              · have d4 : decide (r.e < m.b) = true := decide_eq_true h4
                have HN : Aside0 ((l.take (k + 1)).all (kq m x e) = true) := ⟨by rw [HTK.out, HQ.out, hq, h3, decide_eq_true h4]; rfl⟩
                clear HNO HTK hq
                go_wp2_with (fail)
                go_roundw
                case rel => exact ⟨k + 1, hlt, by go_simp, HN, HW2⟩
                case measure => simp [intOf]; omega
              · have d4 : decide (r.e < m.b) = false := decide_eq_false (by omega)
                by_cases h5 : e < r.b
                · have d5 : decide (r.b ≤ e) = false := decide_eq_false (by omega)
                  have h5' : ¬ r.b ≤ e := by omega
                  have HN : Aside0 ((l.take (k + 1)).all (kq m x e) = true) := ⟨by rw [HTK.out, HQ.out, hq, h3, decide_eq_false (by omega : ¬ r.e < m.b), decide_eq_true h5]; rfl⟩
                  clear HNO HTK hq
                  go_wp2_with (fail)
                  go_roundw
                  case rel => exact ⟨k + 1, hlt, by go_simp, HN, HW2⟩
                  case measure => simp [intOf]; omega
                · have d5 : decide (r.b ≤ e) = true := decide_eq_true (by omega)
                  have h5' : r.b ≤ e := by omega
                  go_wp2_with (fail)
                  go_ret
                  exact ⟨by rw [keepsP_kq, h1, HNO.out (by rw [hq, h3, decide_eq_false (by omega : ¬ r.e < m.b), decide_eq_false (by omega : ¬ e < r.b)]; rfl), decide_eq_true h2]; rfl, HB2.out⟩
          | false =>
            go_wp2_with (((with_reducible refine gate_dst (N := 38) rfl ?_); refine wpList_load_any (by rfl) 57 (.tmp 12) rfl ⟨gx, 0, none⟩ rfl (encS r) _ (cells_blk HX2.out) Tryz.underlying57 rfl s57 ?_))
            refine (mayTake_calls r x _ (HRD.out.below HB2.out) HLN.out.1 HLN.out.2.1).mono ?_
            rintro e3 w3 ⟨rfl, hB⟩
            have HX3 := Aside0.mk (blk_below HX2.out hB)
            have HK3 := Aside0.mk (blk_below HK2.out hB)
            have HB3 := Aside0.mk (below_step HB2.out hB)
            have HW3 := Aside0.mk (below_step HW2.out hB)
            clear hB HX2 HK2 HB2 HW2
            obtain ⟨mt, hmt⟩ : ∃ mt, mt = mayTakeP r x := ⟨_, rfl⟩
            rw [← hmt]
            have HMT := Aside0.mk hmt
            clear hmt
            cases mt with
            | false =>
              have HQK : Aside0 (kq m x e r = true) := ⟨by show (!(tookP r x || mayTakeP r x) || _ || _) = _; rw [← HTT.out, ← HMT.out]; rfl⟩
              clear HX3 HK3
              have HN : Aside0 ((l.take (k + 1)).all (kq m x e) = true) := ⟨by rw [HTK.out, HQ.out, HQK.out]; rfl⟩
              clear HNO HTK HQK
              go_wp2_with (fail)
              go_roundw
              case rel => exact ⟨k + 1, hlt, by go_simp, HN, HW3⟩
              case measure => simp [intOf]; omega
            | true =>
              have hq : kq m x e r = ((!r.op && decide (r.e < m.b)) || decide (e < r.b)) := by show (!(tookP r x || mayTakeP r x) || _ || _) = _; rw [← HTT.out, ← HMT.out]; rfl
              have x17 : w3.cell? ⟨gx, 17, none⟩ = some (.int .i64 r.b) := (blk_cell HX3.out 17).trans rfl
              have x18 : w3.cell? ⟨gx, 18, none⟩ = some (.int .i64 r.e) := (blk_cell HX3.out 18).trans rfl
              have x19 : w3.cell? ⟨gx, 19, none⟩ = some (.bool r.op) := (blk_cell HX3.out 19).trans rfl
              have k17 : w3.cell? ⟨g, 17, none⟩ = some (.int .i64 m.b) := (blk_cell HK3.out 17).trans rfl
              clear HX3 HK3
              cases h3 : r.op with
              | true =>
                rw [h3] at x19
                by_cases h5 : e < r.b
                · have d5 : decide (r.b ≤ e) = false := decide_eq_false (by omega)
                  have h5' : ¬ r.b ≤ e := by omega
                  have HN : Aside0 ((l.take (k + 1)).all (kq m x e) = true) := ⟨by rw [HTK.out, HQ.out, hq, h3, decide_eq_true h5]; rfl⟩
                  clear HNO HTK hq
                  go_wp2_with (fail)
                  go_roundw
                  case rel => exact ⟨k + 1, hlt, by go_simp, HN, HW3⟩
                  case measure => simp [intOf]; omega
                · have d5 : decide (r.b ≤ e) = true := decide_eq_true (by omega)
                  have h5' : r.b ≤ e := by omega
                  go_wp2_with (fail)
                  go_ret
                  exact ⟨by rw [keepsP_kq, h1, HNO.out (by rw [hq, h3, decide_eq_false (by omega : ¬ e < r.b)]; rfl), decide_eq_true h2]; rfl, HB3.out⟩
              | false =>
                rw [h3] at x19
                by_cases h4 : r.e < m.b
                · have d4 : decide (r.e < m.b) = true := decide_eq_true h4
                  have HN : Aside0 ((l.take (k + 1)).all (kq m x e) = true) := ⟨by rw [HTK.out, HQ.out, hq, h3, decide_eq_true h4]; rfl⟩
                  clear HNO HTK hq
                  go_wp2_with (fail)
                  go_roundw
                  case rel => exact ⟨k + 1, hlt, by go_simp, HN, HW3⟩
                  case measure => simp [intOf]; omega
                · have d4 : decide (r.e < m.b) = false := decide_eq_false (by omega)
                  by_cases h5 : e < r.b
                  · have d5 : decide (r.b ≤ e) = false := decide_eq_false (by omega)
                    have h5' : ¬ r.b ≤ e := by omega
                    have HN : Aside0 ((l.take (k + 1)).all (kq m x e) = true) := ⟨by rw [HTK.out, HQ.out, hq, h3, decide_eq_false (by omega : ¬ r.e < m.b), decide_eq_true h5]; rfl⟩
                    clear HNO HTK hq
                    go_wp2_with (fail)
                    go_roundw
                    case rel => exact ⟨k + 1, hlt, by go_simp, HN, HW3⟩
                    case measure => simp [intOf]; omega
                  · have d5 : decide (r.b ≤ e) = true := decide_eq_true (by omega)
                    have h5' : r.b ≤ e := by omega
                    go_wp2_with (fail)
                    go_ret
                    exact ⟨by rw [keepsP_kq, h1, HNO.out (by rw [hq, h3, decide_eq_false (by omega : ¬ r.e < m.b), decide_eq_false (by omega : ¬ e < r.b)]; rfl), decide_eq_true h2]; rfl, HB3.out⟩
        · obtain rfl : k = l.length := by omega
          go_wp2_with (fail)
          go_ret
          exact ⟨by rw [keepsP_kq, h1, decide_eq_true h2]; have := HQ.out; rw [List.take_length] at this; rw [this]; rfl, HBW.out⟩
    · have d2 : decide (m.e ≥ b) = true := decide_eq_true (by omega)
      have h2' : b ≤ m.e := by omega
      go_wp2_with (fail)
      go_ret
      exact ⟨by rw [keepsP_kq, h1, decide_eq_false (by omega : ¬ m.e < b)]; rfl, HB1.out⟩
end Go.Proofs.YtkicenkljjpcfaaGreatDoor.Q
/- A region that draws its order, whose operations read and whose callees leave what stood there: one walk serves. -/
namespace Go.Proofs.YtkicenkljjpcfaaGreatDoor.Q
open Go.RowKit Go.Proofs.YtkicenkljjpcfaaGreatDoorW.PrintWords Go.Proofs.YtkicenkljjpcfaaGreatDoorW.PrintLast Go.Proofs.YtkicenkljjpcfaaGreatDoorW.PrintMore
/-- The worlds in which all that stood in W stands as it did. -/
structure Up (W : World) where
  w : World
  h : Below W.heap.size W w
instance Up.isThere (W : World) : Nonempty (Up W) := ⟨⟨W, Below.refl _ _⟩⟩
theorem Up.calls {P : Program} {f : FuncId} {args : Array Value} {W : World} {v : Value} (z : Up W) (h : Calls P f args z.w fun e w' => e = .returned v ∧ Below z.w.heap.size z.w w') :
    Calls P f args z.w fun e w'' => e = .returned v ∧ ∃ u : Up W, w'' = u.w :=
  h.mono fun _ _ h => ⟨h.1, ⟨_, below_step z.h h.2⟩, rfl⟩
theorem Up.cell {W : World} {a : Addr} {v : Value} (h : W.cell? a = some v) (z : Up W) : z.w.cell? a = some v := pw_cell_below z.h h
theorem wp_region_up {P : Program} {id : Nat} {Q : Exit → Act → World → Prop} {a : Act} {w : World} {l : List Oper} (hm : P.follows .mixedOrders = true) (hB : Region.lexB .any l.toArray = true)
    (h : wpQuiet P l.toArray (fun w' => ∃ z : Up w, w' = z.w) (fun a' => ∀ w', (∃ z : Up w, w' = z.w) → Q .normal a' w') l a) : (Code.region id l.toArray true).wp P Q a w :=
  wp_region_quiet (C := fun w' => ∃ z : Up w, w' = z.w) hm hB ⟨⟨_, below_drew (Below.refl _ _)⟩, rfl⟩ (by simpa using h)
theorem quiet_load_any {P : Program} {o : Oper} {a : Act} {C : World → Prop} {K : Act → Prop} (ty : TypeId) (x : Operand) (ho : o.op = .load ty x) (ad : Addr) (hx : a.eval x = .pointer (some ad)) (cs : List Value) (d : TypeDesc) (hc : ∀ w, C w → ∀ j v, cs[j]? = some v → w.cell? (ad.add j) = some v)
    (hu : P.underlying ty = some d) (hd : (match d with | .struct _ | .array _ _ => true | _ => false) = true) (hi : (P.info? ty).map (·.size) = some cs.length)
    (h : K (a.put o.dst (.agg cs.toArray))) : o.quiet P a C K := by
  refine ⟨_, fun w hw => ?_, h⟩
  unfold Oper.quietAt execOp
  simp only [ho, hx, Instr.loadAt, Instr.sureAddr, Sem.run_bind, Sem.run_pure, Result.andThen_ok, run_load_any w ad ty cs d (hc w hw) hu hd hi]
  exact ⟨rfl, rfl⟩
theorem yieldsIf_load_any {P : Program} {ops : Array Oper} {S : World → Prop} {o : Oper} {a : Act} (hw : Region.wanted o (yielded ops a.tmps) = true) (ty : TypeId) (x : Operand) (ho : o.op = .load ty x) (ad : Addr) (hx : a.eval x = .pointer (some ad)) (cs : List Value) (d : TypeDesc) (hc : ∀ w, S w → ∀ j v, cs[j]? = some v → w.cell? (ad.add j) = some v)
    (hu : P.underlying ty = some d) (hd : (match d with | .struct _ | .array _ _ => true | _ => false) = true) (hi : (P.info? ty).map (·.size) = some cs.length) : YieldsIf P ops S o (.agg cs.toArray) a :=
  .inl ⟨hw, fun w hw' => by
    unfold execOp
    simp only [ho, hx, Instr.loadAt, Instr.sureAddr, Sem.run_bind, Sem.run_pure, Result.andThen_ok, run_load_any w ad ty cs d (hc w hw') hu hd hi]⟩
end Go.Proofs.YtkicenkljjpcfaaGreatDoor.Q
