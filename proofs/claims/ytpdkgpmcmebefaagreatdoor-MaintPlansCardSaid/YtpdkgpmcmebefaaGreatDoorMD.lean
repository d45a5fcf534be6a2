/- Of the proof about maint: several texts, joined. -/
import Derived.Test.YtpdkgpmcmebefaaGreatDoorHGt
import Derived.Test.YtpdkgpmcmebefaaGreatDoorMA
set_option maxHeartbeats 16000000
set_option maxRecDepth 100000
set_option linter.unusedVariables false
set_option linter.unusedSimpArgs false
namespace Go.Proofs.YtpdkgpmcmebefaaGreatDoor.Q
open Go.RowKit Go.Proofs.YtpdkgpmcmebefaaGreatDoorW.PrintWords Go.Proofs.YtpdkgpmcmebefaaGreatDoorW.PrintLast Go.Proofs.YtpdkgpmcmebefaaGreatDoorW.PrintMore
attribute [local go_sem] binOp_gtr_swap max2_int min2_int max_two min_two max_three min_three max_four min_four
mutual
def r20_lists.l0 : Nat → List ByteArray → List ByteArray → Int → Option (Int)
 | 0, _, _, _ => none
 | k + 1, x0, x1, x5 => if x5 < (x0.length : Int) then (r20_lists.j1 k x0 x1 x5 (decide (x5 < (x1.length : Int)))) else (r20_lists.j1 k x0 x1 x5 false)
def r20_lists.j1 : Nat → List ByteArray → List ByteArray → Int → Bool → Option (Int)
 | 0, _, _, _, _ => none
 | k + 1, x0, x1, x5, x15 => if x15 = true then (if 0 ≤ x5 then (if x5 < (x0.length : Int) then (if x5 < (x1.length : Int) then (if (Op.bytesLess ((rdOf ByteArray.empty x0 x5).toList) ((rdOf ByteArray.empty x1 x5).toList)) = true then (some (-1)) else (if (Op.bytesLess ((rdOf ByteArray.empty x1 x5).toList) ((rdOf ByteArray.empty x0 x5).toList)) = true then (some 1) else (r20_lists.l0 k x0 x1 (wrap64 (x5 + 1))))) else (none)) else (none)) else (none)) else (if (x0.length : Int) < (x1.length : Int) then (some (-1)) else (if (x0.length : Int) > (x1.length : Int) then (some 1) else (some 0)))
end
def r20_lists.f (k : Nat) (l0 : List ByteArray) (l1 : List ByteArray) : Option (Int) := r20_lists.l0 k l0 l1 0
theorem r20_lists.calls (k : Nat) (A0 : Option Addr) (c0 : Nat) (l0 : List ByteArray) (A1 : Option Addr) (c1 : Nat) (l1 : List ByteArray) (r : Int) (w : World) (hr0 : Kd.C Kd.string w A0 l0.length l0) (hc0 : l0.length ≤ c0) (hr1 : Kd.C Kd.string w A1 l1.length l1) (hc1 : l1.length ≤ c1) (h : r20_lists.f k l0 l1 = some r) :
  Calls Tryz.prog 137 #[.slice A0 l0.length c0, .slice A1 l1.length c1] w fun e w' => e = .returned (.int .i64 r) ∧ Drawn0 w w' := by
 have HR0 := Sd.mk hr0
 have HC0 := Sd.mk hc0
 clear hr0 hc0
 have HR1 := Sd.mk hr1
 have HC1 := Sd.mk hc1
 clear hr1 hc1
 have H : (r20_lists.l0 k l0 l1 0) = some r := h
 clear h
 have H' := Sd.mk H
 clear H
 go_enter Tryz.func137, Tryz.ntmps137
 go_wp2
 repeat (go_quiet (fail); try go_wp2)
 go_loopg [5] k (fun kq v5 w' => ∃ (x5_1 : Int), v5 = .int .i64 x5_1 ∧ Sd (r20_lists.l0 kq l0 l1 x5_1 = some r) ∧ Sd (kq ≤ k) ∧ Drawn0 w w')
 case atStart => exact ⟨(0), (by (rfl)), H', ⟨Nat.le_refl _⟩, by repeat ((exact Drawn0.refl _))⟩
 case round =>
  clear H'
  try clear c1
  try clear p2
  obtain ⟨x5_1, rfl, HA, HK1, ⟨m1, rfl⟩⟩ := hrel
  cases gk with
  | zero => exact absurd HA.out (by simp [r20_lists.l0])
  | succ k1 =>
   have H := HA.out
   clear HA
   simp only [r20_lists.l0] at H
   have HC3 := Sd.mk H
   clear H
   go_upto_region 2 with (fail)
   repeat (go_quiet (fail); go_upto_region 2 with (fail))
   go_cut [15] (fun v15 wc => ∃ (kq : Nat) (x15_2 : Bool), v15 = .bool x15_2 ∧ Sd (r20_lists.j1 kq l0 l1 x5_1 x15_2 = some r) ∧ Sd (kq ≤ k1) ∧ Drawn0 w wc)
   case first =>
    have H := HC3.out
    clear HC3
    by_cases c4 : x5_1 < (l0.length : Int)
    ·rw [if_pos c4] at H
     have c4b0 : decide (x5_1 < (l0.length : Int)) = true := decide_eq_true c4
     clear c4
     ((skip))
     have H' := Sd.mk H
     clear H
     go_wp2
     repeat (go_quiet (fail); try go_wp2)
     go_meet
     case rel => exact ⟨_, (decide (x5_1 < (l1.length : Int))), (by (rfl)), H', ⟨by have := HK1.out; (omega)⟩, by repeat (first | exact Drawn0.refl _ | apply Drawn0.step)⟩
    ·rw [if_neg c4] at H
     have c4b0 : decide (x5_1 < (l0.length : Int)) = false := decide_eq_false c4
     clear c4
     ((skip))
     have H' := Sd.mk H
     clear H
     go_wp2
     repeat (go_quiet (fail); try go_wp2)
     go_meet
     case rel => exact ⟨_, (false), (by (rfl)), H', ⟨by have := HK1.out; (omega)⟩, by repeat (first | exact Drawn0.refl _ | apply Drawn0.step)⟩
   case rest =>
    clear HC3
    try clear c1
    try clear p2
    try clear c4
    try clear c4b0
    try clear p2
    obtain ⟨kq, x15_2, rfl, HA, HJ2, ⟨mc2, rfl⟩⟩ := hcut
    cases kq with
    | zero => exact absurd HA.out (by simp [r20_lists.j1])
    | succ kj2 =>
     have H := HA.out
     clear HA
     simp only [r20_lists.j1] at H
     by_cases c5 : x15_2 = true
     ·subst c5
      have H1 : (if 0 ≤ x5_1 then (if x5_1 < (l0.length : Int) then (if x5_1 < (l1.length : Int) then (if (Op.bytesLess ((rdOf ByteArray.empty l0 x5_1).toList) ((rdOf ByteArray.empty l1 x5_1).toList)) = true then (some (-1)) else (if (Op.bytesLess ((rdOf ByteArray.empty l1 x5_1).toList) ((rdOf ByteArray.empty l0 x5_1).toList)) = true then (some 1) else (r20_lists.l0 kj2 l0 l1 (wrap64 (x5_1 + 1))))) else (none)) else (none)) else (none)) = some r := by rw [if_pos rfl] at H; exact H
      clear H
      have H := H1
      clear H1
      by_cases c6 : 0 ≤ x5_1
      ·rw [if_pos c6] at H
       have c6b0 : decide (0 ≤ x5_1) = true := decide_eq_true c6
       clear c6
       by_cases c7 : x5_1 < (l0.length : Int)
       ·rw [if_pos c7] at H
        have c7b0 : decide (x5_1 < (l0.length : Int)) = true := decide_eq_true c7
        clear c7
        by_cases c8 : x5_1 < (l1.length : Int)
        ·rw [if_pos c8] at H
         have c8b0 : decide (x5_1 < (l1.length : Int)) = true := decide_eq_true c8
         clear c8
         by_cases c9 : (Op.bytesLess ((rdOf ByteArray.empty l0 x5_1).toList) ((rdOf ByteArray.empty l1 x5_1).toList)) = true
         ·rw [if_pos c9] at H
          have c9b0 : (Op.bytesLess ((rdOf ByteArray.empty l0 x5_1).toList) ((rdOf ByteArray.empty l1 x5_1).toList)) = true := c9
          clear c9
          obtain rfl := Option.some.inj H
          have p346 : 0 ≤ (x5_1 : Int) := odt (by (with_reducible assumption))
          have q346 : x5_1 < (l0.length : Int) := odt (by (with_reducible assumption))
          obtain ⟨ad346, e346, hx346_0⟩ := Kd.at_string HR0.out x5_1 p346 q346
          cases e346
          replace p346 := eq_true p346
          replace q346 := eq_true q346
          have p347 : 0 ≤ (x5_1 : Int) := odt (by (with_reducible assumption))
          have q347 : x5_1 < (l1.length : Int) := odt (by (with_reducible assumption))
          obtain ⟨ad347, e347, hx347_0⟩ := Kd.at_string HR1.out x5_1 p347 q347
          cases e347
          replace p347 := eq_true p347
          replace q347 := eq_true q347
          go_wp2
          repeat (go_quiet (fail); try go_wp2)
          go_ret
          exact ⟨by (rfl), by repeat (first | exact Drawn0.refl _ | apply Drawn0.step)⟩
         ·rw [if_neg c9] at H
          have c9b0 : (Op.bytesLess ((rdOf ByteArray.empty l0 x5_1).toList) ((rdOf ByteArray.empty l1 x5_1).toList)) = false := by simpa using c9
          clear c9
          by_cases c10 : (Op.bytesLess ((rdOf ByteArray.empty l1 x5_1).toList) ((rdOf ByteArray.empty l0 x5_1).toList)) = true
          ·rw [if_pos c10] at H
           have c10b0 : (Op.bytesLess ((rdOf ByteArray.empty l1 x5_1).toList) ((rdOf ByteArray.empty l0 x5_1).toList)) = true := c10
           clear c10
           obtain rfl := Option.some.inj H
           have p346 : 0 ≤ (x5_1 : Int) := odt (by (with_reducible assumption))
           have q346 : x5_1 < (l0.length : Int) := odt (by (with_reducible assumption))
           obtain ⟨ad346, e346, hx346_0⟩ := Kd.at_string HR0.out x5_1 p346 q346
           cases e346
           replace p346 := eq_true p346
           replace q346 := eq_true q346
           have p347 : 0 ≤ (x5_1 : Int) := odt (by (with_reducible assumption))
           have q347 : x5_1 < (l1.length : Int) := odt (by (with_reducible assumption))
           obtain ⟨ad347, e347, hx347_0⟩ := Kd.at_string HR1.out x5_1 p347 q347
           cases e347
           replace p347 := eq_true p347
           replace q347 := eq_true q347
           have p348 : 0 ≤ (x5_1 : Int) := odt (by (with_reducible assumption))
           have q348 : x5_1 < (l0.length : Int) := odt (by (with_reducible assumption))
           obtain ⟨ad348, e348, hx348_0⟩ := Kd.at_string HR0.out x5_1 p348 q348
           obtain rfl : ad346 = ad348 := (by injection e348)
           replace p348 := eq_true p348
           replace q348 := eq_true q348
           have p349 : 0 ≤ (x5_1 : Int) := odt (by (with_reducible assumption))
           have q349 : x5_1 < (l1.length : Int) := odt (by (with_reducible assumption))
           obtain ⟨ad349, e349, hx349_0⟩ := Kd.at_string HR1.out x5_1 p349 q349
           obtain rfl : ad347 = ad349 := (by injection e349)
           replace p349 := eq_true p349
           replace q349 := eq_true q349
           go_wp2
           repeat (go_quiet (fail); try go_wp2)
           go_ret
           exact ⟨by (rfl), by repeat (first | exact Drawn0.refl _ | apply Drawn0.step)⟩
          ·rw [if_neg c10] at H
           have c10b0 : (Op.bytesLess ((rdOf ByteArray.empty l1 x5_1).toList) ((rdOf ByteArray.empty l0 x5_1).toList)) = false := by simpa using c10
           clear c10
           have H' := Sd.mk H
           clear H
           have p346 : 0 ≤ (x5_1 : Int) := odt (by (with_reducible assumption))
           have q346 : x5_1 < (l0.length : Int) := odt (by (with_reducible assumption))
           obtain ⟨ad346, e346, hx346_0⟩ := Kd.at_string HR0.out x5_1 p346 q346
           cases e346
           replace p346 := eq_true p346
           replace q346 := eq_true q346
           have p347 : 0 ≤ (x5_1 : Int) := odt (by (with_reducible assumption))
           have q347 : x5_1 < (l1.length : Int) := odt (by (with_reducible assumption))
           obtain ⟨ad347, e347, hx347_0⟩ := Kd.at_string HR1.out x5_1 p347 q347
           cases e347
           replace p347 := eq_true p347
           replace q347 := eq_true q347
           have p348 : 0 ≤ (x5_1 : Int) := odt (by (with_reducible assumption))
           have q348 : x5_1 < (l0.length : Int) := odt (by (with_reducible assumption))
           obtain ⟨ad348, e348, hx348_0⟩ := Kd.at_string HR0.out x5_1 p348 q348
           obtain rfl : ad346 = ad348 := (by injection e348)
           replace p348 := eq_true p348
           replace q348 := eq_true q348
           have p349 : 0 ≤ (x5_1 : Int) := odt (by (with_reducible assumption))
           have q349 : x5_1 < (l1.length : Int) := odt (by (with_reducible assumption))
           obtain ⟨ad349, e349, hx349_0⟩ := Kd.at_string HR1.out x5_1 p349 q349
           obtain rfl : ad347 = ad349 := (by injection e349)
           replace p349 := eq_true p349
           replace q349 := eq_true q349
           go_wp2
           repeat (go_quiet (fail); try go_wp2)
           go_roundg kj2
           case measure => have := HK1.out; have := HJ2.out; omega
           case rel => exact ⟨(wrap64 (x5_1 + 1)), (by (rfl)), H', ⟨by have := HK1.out; have := HJ2.out; omega⟩, by repeat (first | exact Drawn0.refl _ | apply Drawn0.step)⟩
        ·rw [if_neg c8] at H
         exact absurd H (by simp)
       ·rw [if_neg c7] at H
        exact absurd H (by simp)
      ·rw [if_neg c6] at H
       exact absurd H (by simp)
     ·replace c5 := Bool.eq_false_iff.mpr c5
      subst c5
      have H1 : (if (l0.length : Int) < (l1.length : Int) then (some (-1)) else (if (l0.length : Int) > (l1.length : Int) then (some 1) else (some 0))) = some r := by rw [if_neg (show ¬ (false = true) by decide)] at H; exact H
      clear H
      have H := H1
      clear H1
      by_cases c11 : (l0.length : Int) < (l1.length : Int)
      ·rw [if_pos c11] at H
       have c11b0 : decide ((l0.length : Int) < (l1.length : Int)) = true := decide_eq_true c11
       have c11b1 : decide (l0.length < l1.length) = true := decide_eq_true (Int.ofNat_lt.mp c11)
       clear c11
       obtain rfl := Option.some.inj H
       go_wp2
       repeat (go_quiet (fail); try go_wp2)
       go_ret
       exact ⟨by (rfl), by repeat (first | exact Drawn0.refl _ | apply Drawn0.step)⟩
      ·rw [if_neg c11] at H
       have c11b0 : decide ((l0.length : Int) < (l1.length : Int)) = false := decide_eq_false c11
       have c11b1 : decide (l0.length < l1.length) = false := decide_eq_false (fun h => c11 (Int.ofNat_lt.mpr h))
       clear c11
       by_cases c12 : (l0.length : Int) > (l1.length : Int)
       ·rw [if_pos c12] at H
        have c12b0 : decide ((l1.length : Int) < (l0.length : Int)) = true := decide_eq_true c12
        have c12b1 : decide (l1.length < l0.length) = true := decide_eq_true (Int.ofNat_lt.mp c12)
        clear c12
        obtain rfl := Option.some.inj H
        go_wp2
        repeat (go_quiet (fail); try go_wp2)
        go_ret
        exact ⟨by (rfl), by repeat (first | exact Drawn0.refl _ | apply Drawn0.step)⟩
       ·rw [if_neg c12] at H
        have c12b0 : decide ((l1.length : Int) < (l0.length : Int)) = false := decide_eq_false c12
        have c12b1 : decide (l1.length < l0.length) = false := decide_eq_false (fun h => c12 (Int.ofNat_lt.mpr h))
        clear c12
        obtain rfl := Option.some.inj H
        go_wp2
        repeat (go_quiet (fail); try go_wp2)
        go_ret
        exact ⟨by (rfl), by repeat (first | exact Drawn0.refl _ | apply Drawn0.step)⟩
end Go.Proofs.YtpdkgpmcmebefaaGreatDoor.Q
namespace Go.Proofs.YtpdkgpmcmebefaaGreatDoor.Q
open Go.RowKit Go.Proofs.YtpdkgpmcmebefaaGreatDoorW.PrintWords Go.Proofs.YtpdkgpmcmebefaaGreatDoorW.PrintLast Go.Proofs.YtpdkgpmcmebefaaGreatDoorW.PrintMore
attribute [local go_sem] max2_int min2_int max_two min_two max_three min_three max_four min_four
def r20_order.f (k : Nat) (a0_0 : Int) (a0_1 : ByteArray) (l0_2 : List ByteArray) (l0_3 : List ByteArray) (a0_4 : ByteArray) (a0_5 : ByteArray) (a1_0 : Int) (a1_1 : ByteArray) (l1_2 : List ByteArray) (l1_3 : List ByteArray) (a1_4 : ByteArray) (a1_5 : ByteArray) : Option (Int) := if a0_0 = a1_0 then ((r20_lists.f k (([a0_1] : List ByteArray)) (([a1_1] : List ByteArray))).bind fun t358 => (if t358 = 0 then ((r20_lists.f k l0_2 l1_2).bind fun t359 => (if t359 = 0 then ((r20_lists.f k l0_3 l1_3).bind fun t360 => (if t360 = 0 then ((r20_lists.f k (([a0_4, a0_5] : List ByteArray)) (([a1_4, a1_5] : List ByteArray))).bind fun t367 => (some t367)) else (some t360))) else (some t359))) else (some t358))) else (if a0_0 < a1_0 then (some (-1)) else (some 1))
theorem r20_order.calls (k : Nat) (a0_0 : Int) (a0_1 : ByteArray) (A0_2 : Option Addr) (c0_2 : Nat) (l0_2 : List ByteArray) (A0_3 : Option Addr) (c0_3 : Nat) (l0_3 : List ByteArray) (a0_4 : ByteArray) (a0_5 : ByteArray) (a1_0 : Int) (a1_1 : ByteArray) (A1_2 : Option Addr) (c1_2 : Nat) (l1_2 : List ByteArray) (A1_3 : Option Addr) (c1_3 : Nat) (l1_3 : List ByteArray) (a1_4 : ByteArray) (a1_5 : ByteArray) (r : Int) (w : World) (hr0_2 : Kd.C Kd.string w A0_2 l0_2.length l0_2) (hc0_2 : l0_2.length ≤ c0_2) (hr0_3 : Kd.C Kd.string w A0_3 l0_3.length l0_3) (hc0_3 : l0_3.length ≤ c0_3) (hr1_2 : Kd.C Kd.string w A1_2 l1_2.length l1_2) (hc1_2 : l1_2.length ≤ c1_2) (hr1_3 : Kd.C Kd.string w A1_3 l1_3.length l1_3) (hc1_3 : l1_3.length ≤ c1_3) (h : r20_order.f k a0_0 a0_1 l0_2 l0_3 a0_4 a0_5 a1_0 a1_1 l1_2 l1_3 a1_4 a1_5 = some r) :
  Calls Tryz.prog 127 #[.agg #[.int .i64 a0_0, .string a0_1, .slice A0_2 l0_2.length c0_2, .slice A0_3 l0_3.length c0_3, .string a0_4, .string a0_5], .agg #[.int .i64 a1_0, .string a1_1, .slice A1_2 l1_2.length c1_2, .slice A1_3 l1_3.length c1_3, .string a1_4, .string a1_5]] w fun e w' => e = .returned (.int .i64 r) ∧ Below w.heap.size w w' := by
 have hu28 := Tryz.underlying28
 have HR0_2 := Sd.mk hr0_2
 have HC0_2 := Sd.mk hc0_2
 clear hr0_2 hc0_2
 have HR0_3 := Sd.mk hr0_3
 have HC0_3 := Sd.mk hc0_3
 clear hr0_3 hc0_3
 have HR1_2 := Sd.mk hr1_2
 have HC1_2 := Sd.mk hc1_2
 clear hr1_2 hc1_2
 have HR1_3 := Sd.mk hr1_3
 have HC1_3 := Sd.mk hc1_3
 clear hr1_3 hc1_3
 have HB := Sd.mk (Below.refl w.heap.size w)
 have H : (if a0_0 = a1_0 then ((r20_lists.f k (([a0_1] : List ByteArray)) (([a1_1] : List ByteArray))).bind fun t358 => (if t358 = 0 then ((r20_lists.f k l0_2 l1_2).bind fun t359 => (if t359 = 0 then ((r20_lists.f k l0_3 l1_3).bind fun t360 => (if t360 = 0 then ((r20_lists.f k (([a0_4, a0_5] : List ByteArray)) (([a1_4, a1_5] : List ByteArray))).bind fun t367 => (some t367)) else (some t360))) else (some t359))) else (some t358))) else (if a0_0 < a1_0 then (some (-1)) else (some 1))) = some r := h
 clear h
 by_cases c3 : a0_0 = a1_0
 ·rw [if_pos c3] at H
  have c3b0 : (a0_0 == a1_0) = true := beq_iff_eq.mpr c3
  have c3b1 : (a0_0 != a1_0) = false := bne_eq_false_iff_eq.mpr c3
  clear c3
  obtain ⟨y352, hy352⟩ : ∃ y_ : List ByteArray, y_ = (([a0_1] : List ByteArray)) := ⟨_, rfl⟩
  replace H : ((r20_lists.f k y352 (([a1_1] : List ByteArray))).bind fun t358 => (if t358 = 0 then ((r20_lists.f k l0_2 l1_2).bind fun t359 => (if t359 = 0 then ((r20_lists.f k l0_3 l1_3).bind fun t360 => (if t360 = 0 then ((r20_lists.f k (([a0_4, a0_5] : List ByteArray)) (([a1_4, a1_5] : List ByteArray))).bind fun t367 => (some t367)) else (some t360))) else (some t359))) else (some t358))) = some r := by (rw [hy352]; with_reducible exact H)
  have Ny352 := Sd.mk hy352
  clear hy352
  obtain ⟨y355, hy355⟩ : ∃ y_ : List ByteArray, y_ = (([a1_1] : List ByteArray)) := ⟨_, rfl⟩
  replace H : ((r20_lists.f k y352 y355).bind fun t358 => (if t358 = 0 then ((r20_lists.f k l0_2 l1_2).bind fun t359 => (if t359 = 0 then ((r20_lists.f k l0_3 l1_3).bind fun t360 => (if t360 = 0 then ((r20_lists.f k (([a0_4, a0_5] : List ByteArray)) (([a1_4, a1_5] : List ByteArray))).bind fun t367 => (some t367)) else (some t360))) else (some t359))) else (some t358))) = some r := by (rw [hy355]; with_reducible exact H)
  have Ny355 := Sd.mk hy355
  clear hy355
  replace H := Option.bind_eq_some_iff.mp H
  obtain ⟨t358, A40, H⟩ := H
  replace H : (if t358 = 0 then ((r20_lists.f k l0_2 l1_2).bind fun t359 => (if t359 = 0 then ((r20_lists.f k l0_3 l1_3).bind fun t360 => (if t360 = 0 then ((r20_lists.f k (([a0_4, a0_5] : List ByteArray)) (([a1_4, a1_5] : List ByteArray))).bind fun t367 => (some t367)) else (some t360))) else (some t359))) else (some t358)) = some r := H
  have A4 := Sd.mk A40
  clear A40
  by_cases c5 : t358 = 0
  ·rw [if_pos c5] at H
   have c5b0 : (t358 == 0) = true := beq_iff_eq.mpr c5
   have c5b1 : (t358 != 0) = false := bne_eq_false_iff_eq.mpr c5
   clear c5
   replace H := Option.bind_eq_some_iff.mp H
   obtain ⟨t359, A60, H⟩ := H
   replace H : (if t359 = 0 then ((r20_lists.f k l0_3 l1_3).bind fun t360 => (if t360 = 0 then ((r20_lists.f k (([a0_4, a0_5] : List ByteArray)) (([a1_4, a1_5] : List ByteArray))).bind fun t367 => (some t367)) else (some t360))) else (some t359)) = some r := H
   have A6 := Sd.mk A60
   clear A60
   by_cases c7 : t359 = 0
   ·rw [if_pos c7] at H
    have c7b0 : (t359 == 0) = true := beq_iff_eq.mpr c7
    have c7b1 : (t359 != 0) = false := bne_eq_false_iff_eq.mpr c7
    clear c7
    replace H := Option.bind_eq_some_iff.mp H
    obtain ⟨t360, A80, H⟩ := H
    replace H : (if t360 = 0 then ((r20_lists.f k (([a0_4, a0_5] : List ByteArray)) (([a1_4, a1_5] : List ByteArray))).bind fun t367 => (some t367)) else (some t360)) = some r := H
    have A8 := Sd.mk A80
    clear A80
    by_cases c9 : t360 = 0
    ·rw [if_pos c9] at H
     have c9b0 : (t360 == 0) = true := beq_iff_eq.mpr c9
     have c9b1 : (t360 != 0) = false := bne_eq_false_iff_eq.mpr c9
     clear c9
     obtain ⟨y361, hy361⟩ : ∃ y_ : List ByteArray, y_ = (([a0_4, a0_5] : List ByteArray)) := ⟨_, rfl⟩
     replace H : ((r20_lists.f k y361 (([a1_4, a1_5] : List ByteArray))).bind fun t367 => (some t367)) = some r := by (rw [hy361]; with_reducible exact H)
     have Ny361 := Sd.mk hy361
     clear hy361
     obtain ⟨y364, hy364⟩ : ∃ y_ : List ByteArray, y_ = (([a1_4, a1_5] : List ByteArray)) := ⟨_, rfl⟩
     replace H : ((r20_lists.f k y361 y364).bind fun t367 => (some t367)) = some r := by (rw [hy364]; with_reducible exact H)
     have Ny364 := Sd.mk hy364
     clear hy364
     replace H := Option.bind_eq_some_iff.mp H
     obtain ⟨t367, A100, H⟩ := H
     replace H : (some t367) = some r := H
     have A10 := Sd.mk A100
     clear A100
     obtain rfl := Option.some.inj H
     go_enter Tryz.func127, Tryz.ntmps127
     go_wp2_with (first | ((with_reducible refine gate_dst (N := 2) rfl ?_); refine box_event ?hg (N := 2) ?hd (cs := #[.int .i64 a0_0, .string a0_1, .slice A0_2 l0_2.length c0_2, .slice A0_3 l0_3.length c0_3, .string a0_4, .string a0_5]) (t := 28) ?hr ?_; (case hd => rfl); (case hg => rfl); (case hr => (go_simp; done)); intro gb350 hg w11 hbox hb; have n0_ := Sd.mk (below_step (by repeat ((with_reducible (exact HB.out)))) hb); have n1_ := Sd.mk (hbox); have n2_ := Sd.mk ((by rw [hg]; exact (below_size (by repeat ((with_reducible (exact HB.out))))) : w.heap.size ≤ gb350)); have n3_ := Sd.mk ((by rw [hg]; exact (below_size (by repeat ((with_reducible (exact HB.out))))) : w.heap.size ≤ gb350)); clear HB; have HB := n0_; have BK350 := n1_; have GW350 := n2_; have GE350 := n3_; clear n0_ n1_ n2_ n3_; clear hb hbox hg) | ((with_reducible refine gate_dst (N := 3) rfl ?_); refine box_event ?hg (N := 3) ?hd (cs := #[.int .i64 a1_0, .string a1_1, .slice A1_2 l1_2.length c1_2, .slice A1_3 l1_3.length c1_3, .string a1_4, .string a1_5]) (t := 28) ?hr ?_; (case hd => rfl); (case hg => rfl); (case hr => (go_simp; done)); intro gb351 hg w12 hbox hb; have n0_ := Sd.mk (blk_below (g := gb350) (o := .cells #[.int .i64 a0_0, .string a0_1, .slice A0_2 l0_2.length c0_2, .slice A0_3 l0_3.length c0_3, .string a0_4, .string a0_5] 28 (0, 0)) (by (with_reducible repeat (fail)); exact BK350.out) hb); have n1_ := Sd.mk (below_step (by repeat ((with_reducible (exact HB.out)))) hb); have n2_ := Sd.mk (hbox); have n3_ := Sd.mk ((by rw [hg]; exact (below_size (by repeat ((with_reducible (exact HB.out))))) : w.heap.size ≤ gb351)); have n4_ := Sd.mk ((by rw [hg]; exact (below_size (by repeat ((with_reducible (exact HB.out))))) : w.heap.size ≤ gb351)); have n5_ := Sd.mk ((by rw [hg]; exact Nat.ne_of_lt (blk_lt (g := gb350) (o := .cells #[.int .i64 a0_0, .string a0_1, .slice A0_2 l0_2.length c0_2, .slice A0_3 l0_3.length c0_3, .string a0_4, .string a0_5] 28 (0, 0)) (by (with_reducible repeat (fail)); exact BK350.out)) : gb350 ≠ gb351)); have n6_ := Sd.mk ((by rw [hg]; exact Nat.ne_of_gt (blk_lt (g := gb350) (o := .cells #[.int .i64 a0_0, .string a0_1, .slice A0_2 l0_2.length c0_2, .slice A0_3 l0_3.length c0_3, .string a0_4, .string a0_5] 28 (0, 0)) (by (with_reducible repeat (fail)); exact BK350.out)) : gb351 ≠ gb350)); clear BK350; clear HB; have BK350 := n0_; have HB := n1_; have BK351 := n2_; have GW351 := n3_; have GE351 := n4_; have NB350_351 := n5_; have NB351_350 := n6_; clear n0_ n1_ n2_ n3_ n4_ n5_ n6_; clear hb hbox hg; have hnb13 := NB350_351.out; have hnc13 := NB351_350.out; obtain ⟨hcz14_0, hcz14_1, hcz14_2, hcz14_3, hcz14_4, hcz14_5⟩ := bc6 BK350.out; obtain ⟨hfz14_0, hfz14_1, hfz14_2, hfz14_3, hfz14_4, hfz14_5⟩ := bf6 BK350.out; obtain ⟨hcz15_0, hcz15_1, hcz15_2, hcz15_3, hcz15_4, hcz15_5⟩ := bc6 BK351.out; obtain ⟨hfz15_0, hfz15_1, hfz15_2, hfz15_3, hfz15_4, hfz15_5⟩ := bf6 BK351.out) | ((with_reducible refine gate_dst (N := 20) rfl ?_); refine Kd.R_lit Kd.string _ 9 ?hg (N := 20) ?hd (xs := ([a0_1] : List ByteArray)) (inner := [.string a0_1]) (ok := fun _ => True) (okp := fun _ => True) ?hr ?hp (fun _ hk => hk) trivial (Below.refl _ _) (Nat.le_refl _) (by simp) ?_; (case hd => rfl); (case hg => rfl); (case hr => (go_simp; done)); (case hp => exact (Reps.one (show Kd.M Kd.string _ _ _ a0_1 [.string a0_1] from rfl) (Reps.none _ _))); intro v353 w16 ho17 hb hg_ hnew_; clear hg_ hnew_; ((rw [← Ny352.out] at ho17)); have n0_ := Sd.mk (Kd.R_lower ho17 (below_size (by repeat ((with_reducible (exact HB.out)))))); have n1_ := Sd.mk (blk_below (g := gb350) (o := .cells #[.int .i64 a0_0, .string a0_1, .slice A0_2 l0_2.length c0_2, .slice A0_3 l0_3.length c0_3, .string a0_4, .string a0_5] 28 (0, 0)) (by (with_reducible repeat (fail)); exact BK350.out) hb); have n2_ := Sd.mk (blk_below (g := gb351) (o := .cells #[.int .i64 a1_0, .string a1_1, .slice A1_2 l1_2.length c1_2, .slice A1_3 l1_3.length c1_3, .string a1_4, .string a1_5] 28 (0, 0)) (by (with_reducible repeat (fail)); exact BK351.out) hb); have n3_ := Sd.mk (below_step (by repeat ((with_reducible (exact HB.out)))) hb); clear BK350; clear BK351; clear HB; have HO354 := n0_; have BK350 := n1_; have BK351 := n2_; have HB := n3_; clear n0_ n1_ n2_ n3_; clear hb ho17; obtain ⟨hcz18_0, hcz18_1, hcz18_2, hcz18_3, hcz18_4, hcz18_5⟩ := bc6 BK351.out; obtain ⟨hfz18_0, hfz18_1, hfz18_2, hfz18_3, hfz18_4, hfz18_5⟩ := bf6 BK351.out) | ((with_reducible refine gate_dst (N := 23) rfl ?_); refine Kd.R_lit Kd.string _ 9 ?hg (N := 23) ?hd (xs := ([a1_1] : List ByteArray)) (inner := [.string a1_1]) (ok := fun _ => True) (okp := fun _ => True) ?hr ?hp (fun _ hk => hk) trivial (Below.refl _ _) (Nat.le_refl _) (by simp) ?_; (case hd => rfl); (case hg => rfl); (case hr => (go_simp; done)); (case hp => exact (Reps.one (show Kd.M Kd.string _ _ _ a1_1 [.string a1_1] from rfl) (Reps.none _ _))); intro v356 w19 ho20 hb hg_ hnew_; clear hg_ hnew_; ((rw [← Ny355.out] at ho20)); have n0_ := Sd.mk (Kd.R_elder' (by (with_reducible repeat (fail)); exact HO354.out) (Kd.R_base ho20) hb); have n1_ := Sd.mk (Kd.R_lower (Kd.R_new' ho20 (Kd.R_lt (by (with_reducible repeat (fail)); exact HO354.out))) (below_size (by repeat ((with_reducible (exact HB.out)))))); have n2_ := Sd.mk (blk_below (g := gb350) (o := .cells #[.int .i64 a0_0, .string a0_1, .slice A0_2 l0_2.length c0_2, .slice A0_3 l0_3.length c0_3, .string a0_4, .string a0_5] 28 (0, 0)) (by (with_reducible repeat (fail)); exact BK350.out) hb); have n3_ := Sd.mk (blk_below (g := gb351) (o := .cells #[.int .i64 a1_0, .string a1_1, .slice A1_2 l1_2.length c1_2, .slice A1_3 l1_3.length c1_3, .string a1_4, .string a1_5] 28 (0, 0)) (by (with_reducible repeat (fail)); exact BK351.out) hb); have n4_ := Sd.mk (below_step (by repeat ((with_reducible (exact HB.out)))) hb); clear HO354; clear BK350; clear BK351; clear HB; have HO354 := n0_; have HO357 := n1_; have BK350 := n2_; have BK351 := n3_; have HB := n4_; clear n0_ n1_ n2_ n3_ n4_; clear hb ho20; obtain ⟨Ao21, co21, eo21⟩ := Kd.R_slice HO354.out; subst eo21; obtain ⟨Ao22, co22, eo22⟩ := Kd.R_slice HO357.out; subst eo22) | ((with_reducible refine gate_callee (f := 137) rfl ?_); refine goesL_ (some 24) rfl rfl Tryz.func137 (by kernel_rfl) rfl #[.slice Ao21 y352.length co21, .slice Ao22 y355.length co22] rfl (by (try simp only [List.map_toArray, List.map_cons, List.map_nil]); (rfl)) ?_; (with_reducible refine (r20_lists.calls k _ _ y352 _ _ y355 t358 _ ?side1 ?side2 ?side3 ?side4 A4.out).mono ?_); (case side1 => repeat ((exact (Kd.R_reads' HO354.out).2.2))); (case side2 => exact (Kd.R_reads' HO354.out).2.1); (case side3 => repeat ((exact (Kd.R_reads' HO357.out).2.2))); (case side4 => exact (Kd.R_reads' HO357.out).2.1); rintro e w' ⟨rfl, ⟨nd, rfl⟩⟩; refine ⟨_, rfl, ?_⟩; obtain ⟨hcz23_0, hcz23_1, hcz23_2, hcz23_3, hcz23_4, hcz23_5⟩ := bc6 BK350.out; obtain ⟨hfz23_0, hfz23_1, hfz23_2, hfz23_3, hfz23_4, hfz23_5⟩ := bf6 BK350.out; obtain ⟨hcz24_0, hcz24_1, hcz24_2, hcz24_3, hcz24_4, hcz24_5⟩ := bc6 BK351.out; obtain ⟨hfz24_0, hfz24_1, hfz24_2, hfz24_3, hfz24_4, hfz24_5⟩ := bf6 BK351.out) | ((with_reducible refine gate_callee (f := 137) rfl ?_); refine goesL_ (some 32) rfl rfl Tryz.func137 (by kernel_rfl) rfl #[.slice A0_2 l0_2.length c0_2, .slice A1_2 l1_2.length c1_2] rfl (by (try simp only [List.map_toArray, List.map_cons, List.map_nil]); (rfl)) ?_; (with_reducible refine (r20_lists.calls k _ _ l0_2 _ _ l1_2 t359 _ ?side1 ?side2 ?side3 ?side4 A6.out).mono ?_); (case side1 => repeat ((exact (Kd.C_below HR0_2.out (by repeat ((with_reducible first | exact HB.out | apply pw_below_drewN))))))); (case side2 => exact HC0_2.out); (case side3 => repeat ((exact (Kd.C_below HR1_2.out (by repeat ((with_reducible first | exact HB.out | apply pw_below_drewN))))))); (case side4 => exact HC1_2.out); rintro e w' ⟨rfl, ⟨nd, rfl⟩⟩; refine ⟨_, rfl, ?_⟩) | ((with_reducible refine gate_callee (f := 137) rfl ?_); refine goesL_ (some 40) rfl rfl Tryz.func137 (by kernel_rfl) rfl #[.slice A0_3 l0_3.length c0_3, .slice A1_3 l1_3.length c1_3] rfl (by (try simp only [List.map_toArray, List.map_cons, List.map_nil]); (rfl)) ?_; (with_reducible refine (r20_lists.calls k _ _ l0_3 _ _ l1_3 t360 _ ?side1 ?side2 ?side3 ?side4 A8.out).mono ?_); (case side1 => repeat ((exact (Kd.C_below HR0_3.out (by repeat ((with_reducible first | exact HB.out | apply pw_below_drewN))))))); (case side2 => exact HC0_3.out); (case side3 => repeat ((exact (Kd.C_below HR1_3.out (by repeat ((with_reducible first | exact HB.out | apply pw_below_drewN))))))); (case side4 => exact HC1_3.out); rintro e w' ⟨rfl, ⟨nd, rfl⟩⟩; refine ⟨_, rfl, ?_⟩) | ((with_reducible refine gate_dst (N := 48) rfl ?_); refine Kd.R_lit Kd.string _ 9 ?hg (N := 48) ?hd (xs := ([a0_4, a0_5] : List ByteArray)) (inner := [.string a0_4, .string a0_5]) (ok := fun _ => True) (okp := fun _ => True) ?hr ?hp (fun _ hk => hk) trivial (Below.refl _ _) (Nat.le_refl _) (by simp) ?_; (case hd => rfl); (case hg => rfl); (case hr => (go_simp; done)); (case hp => exact (Reps.one (show Kd.M Kd.string _ _ _ a0_4 [.string a0_4] from rfl) (Reps.one (show Kd.M Kd.string _ _ _ a0_5 [.string a0_5] from rfl) (Reps.none _ _)))); intro v362 w25 ho26 hb hg_ hnew_; clear hg_ hnew_; ((rw [← Ny361.out] at ho26)); have n0_ := Sd.mk (Kd.R_elder' (by (with_reducible repeat ((apply Kd.R_drewN))); exact HO354.out) (Kd.R_base ho26) hb); have n1_ := Sd.mk (Kd.R_elder' (by (with_reducible repeat ((apply Kd.R_drewN))); exact HO357.out) (Kd.R_base ho26) hb); have n2_ := Sd.mk (Kd.R_lower (Kd.R_new' (Kd.R_new' ho26 (Kd.R_lt (by (with_reducible repeat ((apply Kd.R_drewN))); exact HO354.out))) (Kd.R_lt (by (with_reducible repeat ((apply Kd.R_drewN))); exact HO357.out))) (below_size (by repeat ((with_reducible first | exact HB.out | apply pw_below_drewN))))); have n3_ := Sd.mk (blk_below (g := gb350) (o := .cells #[.int .i64 a0_0, .string a0_1, .slice A0_2 l0_2.length c0_2, .slice A0_3 l0_3.length c0_3, .string a0_4, .string a0_5] 28 (0, 0)) (by (with_reducible repeat ((refine blk_drewN ?_ _))); exact BK350.out) hb); have n4_ := Sd.mk (blk_below (g := gb351) (o := .cells #[.int .i64 a1_0, .string a1_1, .slice A1_2 l1_2.length c1_2, .slice A1_3 l1_3.length c1_3, .string a1_4, .string a1_5] 28 (0, 0)) (by (with_reducible repeat ((refine blk_drewN ?_ _))); exact BK351.out) hb); have n5_ := Sd.mk (below_step (by repeat ((with_reducible first | exact HB.out | apply pw_below_drewN))) hb); clear HO354; clear HO357; clear BK350; clear BK351; clear HB; have HO354 := n0_; have HO357 := n1_; have HO363 := n2_; have BK350 := n3_; have BK351 := n4_; have HB := n5_; clear n0_ n1_ n2_ n3_ n4_ n5_; clear hb ho26; obtain ⟨hcz27_0, hcz27_1, hcz27_2, hcz27_3, hcz27_4, hcz27_5⟩ := bc6 BK351.out; obtain ⟨hfz27_0, hfz27_1, hfz27_2, hfz27_3, hfz27_4, hfz27_5⟩ := bf6 BK351.out) | ((with_reducible refine gate_dst (N := 53) rfl ?_); refine Kd.R_lit Kd.string _ 9 ?hg (N := 53) ?hd (xs := ([a1_4, a1_5] : List ByteArray)) (inner := [.string a1_4, .string a1_5]) (ok := fun _ => True) (okp := fun _ => True) ?hr ?hp (fun _ hk => hk) trivial (Below.refl _ _) (Nat.le_refl _) (by simp) ?_; (case hd => rfl); (case hg => rfl); (case hr => (go_simp; done)); (case hp => exact (Reps.one (show Kd.M Kd.string _ _ _ a1_4 [.string a1_4] from rfl) (Reps.one (show Kd.M Kd.string _ _ _ a1_5 [.string a1_5] from rfl) (Reps.none _ _)))); intro v365 w28 ho29 hb hg_ hnew_; clear hg_ hnew_; ((rw [← Ny364.out] at ho29)); have n0_ := Sd.mk (Kd.R_elder' (by (with_reducible repeat (fail)); exact HO354.out) (Kd.R_base ho29) hb); have n1_ := Sd.mk (Kd.R_elder' (by (with_reducible repeat (fail)); exact HO357.out) (Kd.R_base ho29) hb); have n2_ := Sd.mk (Kd.R_elder' (by (with_reducible repeat (fail)); exact HO363.out) (Kd.R_base ho29) hb); have n3_ := Sd.mk (Kd.R_lower (Kd.R_new' (Kd.R_new' (Kd.R_new' ho29 (Kd.R_lt (by (with_reducible repeat (fail)); exact HO354.out))) (Kd.R_lt (by (with_reducible repeat (fail)); exact HO357.out))) (Kd.R_lt (by (with_reducible repeat (fail)); exact HO363.out))) (below_size (by repeat ((with_reducible (exact HB.out)))))); have n4_ := Sd.mk (blk_below (g := gb350) (o := .cells #[.int .i64 a0_0, .string a0_1, .slice A0_2 l0_2.length c0_2, .slice A0_3 l0_3.length c0_3, .string a0_4, .string a0_5] 28 (0, 0)) (by (with_reducible repeat (fail)); exact BK350.out) hb); have n5_ := Sd.mk (blk_below (g := gb351) (o := .cells #[.int .i64 a1_0, .string a1_1, .slice A1_2 l1_2.length c1_2, .slice A1_3 l1_3.length c1_3, .string a1_4, .string a1_5] 28 (0, 0)) (by (with_reducible repeat (fail)); exact BK351.out) hb); have n6_ := Sd.mk (below_step (by repeat ((with_reducible (exact HB.out)))) hb); clear HO354; clear HO357; clear HO363; clear BK350; clear BK351; clear HB; have HO354 := n0_; have HO357 := n1_; have HO363 := n2_; have HO366 := n3_; have BK350 := n4_; have BK351 := n5_; have HB := n6_; clear n0_ n1_ n2_ n3_ n4_ n5_ n6_; clear hb ho29; obtain ⟨Ao30, co30, eo30⟩ := Kd.R_slice HO363.out; subst eo30; obtain ⟨Ao31, co31, eo31⟩ := Kd.R_slice HO366.out; subst eo31) | ((with_reducible refine gate_callee (f := 137) rfl ?_); refine goesL_ (some 54) rfl rfl Tryz.func137 (by kernel_rfl) rfl #[.slice Ao30 y361.length co30, .slice Ao31 y364.length co31] rfl (by (try simp only [List.map_toArray, List.map_cons, List.map_nil]); (rfl)) ?_; (with_reducible refine (r20_lists.calls k _ _ y361 _ _ y364 t367 _ ?side1 ?side2 ?side3 ?side4 A10.out).mono ?_); (case side1 => repeat ((exact (Kd.R_reads' HO363.out).2.2))); (case side2 => exact (Kd.R_reads' HO363.out).2.1); (case side3 => repeat ((exact (Kd.R_reads' HO366.out).2.2))); (case side4 => exact (Kd.R_reads' HO366.out).2.1); rintro e w' ⟨rfl, ⟨nd, rfl⟩⟩; refine ⟨_, rfl, ?_⟩))
     go_ret
     exact ⟨by (rfl), by repeat ((with_reducible first | exact HB.out | apply pw_below_drewN))⟩
    ·rw [if_neg c9] at H
     have c9b0 : (t360 == 0) = false := beq_eq_false_iff_ne.mpr c9
     have c9b1 : (t360 != 0) = true := bne_iff_ne.mpr c9
     obtain rfl := Option.some.inj H
     go_enter Tryz.func127, Tryz.ntmps127
     go_wp2_with (first | ((with_reducible refine gate_dst (N := 2) rfl ?_); refine box_event ?hg (N := 2) ?hd (cs := #[.int .i64 a0_0, .string a0_1, .slice A0_2 l0_2.length c0_2, .slice A0_3 l0_3.length c0_3, .string a0_4, .string a0_5]) (t := 28) ?hr ?_; (case hd => rfl); (case hg => rfl); (case hr => (go_simp; done)); intro gb350 hg w32 hbox hb; have n0_ := Sd.mk (below_step (by repeat ((with_reducible (exact HB.out)))) hb); have n1_ := Sd.mk (hbox); have n2_ := Sd.mk ((by rw [hg]; exact (below_size (by repeat ((with_reducible (exact HB.out))))) : w.heap.size ≤ gb350)); have n3_ := Sd.mk ((by rw [hg]; exact (below_size (by repeat ((with_reducible (exact HB.out))))) : w.heap.size ≤ gb350)); clear HB; have HB := n0_; have BK350 := n1_; have GW350 := n2_; have GE350 := n3_; clear n0_ n1_ n2_ n3_; clear hb hbox hg) | ((with_reducible refine gate_dst (N := 3) rfl ?_); refine box_event ?hg (N := 3) ?hd (cs := #[.int .i64 a1_0, .string a1_1, .slice A1_2 l1_2.length c1_2, .slice A1_3 l1_3.length c1_3, .string a1_4, .string a1_5]) (t := 28) ?hr ?_; (case hd => rfl); (case hg => rfl); (case hr => (go_simp; done)); intro gb351 hg w33 hbox hb; have n0_ := Sd.mk (blk_below (g := gb350) (o := .cells #[.int .i64 a0_0, .string a0_1, .slice A0_2 l0_2.length c0_2, .slice A0_3 l0_3.length c0_3, .string a0_4, .string a0_5] 28 (0, 0)) (by (with_reducible repeat (fail)); exact BK350.out) hb); have n1_ := Sd.mk (below_step (by repeat ((with_reducible (exact HB.out)))) hb); have n2_ := Sd.mk (hbox); have n3_ := Sd.mk ((by rw [hg]; exact (below_size (by repeat ((with_reducible (exact HB.out))))) : w.heap.size ≤ gb351)); have n4_ := Sd.mk ((by rw [hg]; exact (below_size (by repeat ((with_reducible (exact HB.out))))) : w.heap.size ≤ gb351)); have n5_ := Sd.mk ((by rw [hg]; exact Nat.ne_of_lt (blk_lt (g := gb350) (o := .cells #[.int .i64 a0_0, .string a0_1, .slice A0_2 l0_2.length c0_2, .slice A0_3 l0_3.length c0_3, .string a0_4, .string a0_5] 28 (0, 0)) (by (with_reducible repeat (fail)); exact BK350.out)) : gb350 ≠ gb351)); have n6_ := Sd.mk ((by rw [hg]; exact Nat.ne_of_gt (blk_lt (g := gb350) (o := .cells #[.int .i64 a0_0, .string a0_1, .slice A0_2 l0_2.length c0_2, .slice A0_3 l0_3.length c0_3, .string a0_4, .string a0_5] 28 (0, 0)) (by (with_reducible repeat (fail)); exact BK350.out)) : gb351 ≠ gb350)); clear BK350; clear HB; have BK350 := n0_; have HB := n1_; have BK351 := n2_; have GW351 := n3_; have GE351 := n4_; have NB350_351 := n5_; have NB351_350 := n6_; clear n0_ n1_ n2_ n3_ n4_ n5_ n6_; clear hb hbox hg; have hnb34 := NB350_351.out; have hnc34 := NB351_350.out; obtain ⟨hcz35_0, hcz35_1, hcz35_2, hcz35_3, hcz35_4, hcz35_5⟩ := bc6 BK350.out; obtain ⟨hfz35_0, hfz35_1, hfz35_2, hfz35_3, hfz35_4, hfz35_5⟩ := bf6 BK350.out; obtain ⟨hcz36_0, hcz36_1, hcz36_2, hcz36_3, hcz36_4, hcz36_5⟩ := bc6 BK351.out; obtain ⟨hfz36_0, hfz36_1, hfz36_2, hfz36_3, hfz36_4, hfz36_5⟩ := bf6 BK351.out) | ((with_reducible refine gate_dst (N := 20) rfl ?_); refine Kd.R_lit Kd.string _ 9 ?hg (N := 20) ?hd (xs := ([a0_1] : List ByteArray)) (inner := [.string a0_1]) (ok := fun _ => True) (okp := fun _ => True) ?hr ?hp (fun _ hk => hk) trivial (Below.refl _ _) (Nat.le_refl _) (by simp) ?_; (case hd => rfl); (case hg => rfl); (case hr => (go_simp; done)); (case hp => exact (Reps.one (show Kd.M Kd.string _ _ _ a0_1 [.string a0_1] from rfl) (Reps.none _ _))); intro v353 w37 ho38 hb hg_ hnew_; clear hg_ hnew_; ((rw [← Ny352.out] at ho38)); have n0_ := Sd.mk (Kd.R_lower ho38 (below_size (by repeat ((with_reducible (exact HB.out)))))); have n1_ := Sd.mk (blk_below (g := gb350) (o := .cells #[.int .i64 a0_0, .string a0_1, .slice A0_2 l0_2.length c0_2, .slice A0_3 l0_3.length c0_3, .string a0_4, .string a0_5] 28 (0, 0)) (by (with_reducible repeat (fail)); exact BK350.out) hb); have n2_ := Sd.mk (blk_below (g := gb351) (o := .cells #[.int .i64 a1_0, .string a1_1, .slice A1_2 l1_2.length c1_2, .slice A1_3 l1_3.length c1_3, .string a1_4, .string a1_5] 28 (0, 0)) (by (with_reducible repeat (fail)); exact BK351.out) hb); have n3_ := Sd.mk (below_step (by repeat ((with_reducible (exact HB.out)))) hb); clear BK350; clear BK351; clear HB; have HO354 := n0_; have BK350 := n1_; have BK351 := n2_; have HB := n3_; clear n0_ n1_ n2_ n3_; clear hb ho38; obtain ⟨hcz39_0, hcz39_1, hcz39_2, hcz39_3, hcz39_4, hcz39_5⟩ := bc6 BK351.out; obtain ⟨hfz39_0, hfz39_1, hfz39_2, hfz39_3, hfz39_4, hfz39_5⟩ := bf6 BK351.out) | ((with_reducible refine gate_dst (N := 23) rfl ?_); refine Kd.R_lit Kd.string _ 9 ?hg (N := 23) ?hd (xs := ([a1_1] : List ByteArray)) (inner := [.string a1_1]) (ok := fun _ => True) (okp := fun _ => True) ?hr ?hp (fun _ hk => hk) trivial (Below.refl _ _) (Nat.le_refl _) (by simp) ?_; (case hd => rfl); (case hg => rfl); (case hr => (go_simp; done)); (case hp => exact (Reps.one (show Kd.M Kd.string _ _ _ a1_1 [.string a1_1] from rfl) (Reps.none _ _))); intro v356 w40 ho41 hb hg_ hnew_; clear hg_ hnew_; ((rw [← Ny355.out] at ho41)); have n0_ := Sd.mk (Kd.R_elder' (by (with_reducible repeat (fail)); exact HO354.out) (Kd.R_base ho41) hb); have n1_ := Sd.mk (Kd.R_lower (Kd.R_new' ho41 (Kd.R_lt (by (with_reducible repeat (fail)); exact HO354.out))) (below_size (by repeat ((with_reducible (exact HB.out)))))); have n2_ := Sd.mk (blk_below (g := gb350) (o := .cells #[.int .i64 a0_0, .string a0_1, .slice A0_2 l0_2.length c0_2, .slice A0_3 l0_3.length c0_3, .string a0_4, .string a0_5] 28 (0, 0)) (by (with_reducible repeat (fail)); exact BK350.out) hb); have n3_ := Sd.mk (blk_below (g := gb351) (o := .cells #[.int .i64 a1_0, .string a1_1, .slice A1_2 l1_2.length c1_2, .slice A1_3 l1_3.length c1_3, .string a1_4, .string a1_5] 28 (0, 0)) (by (with_reducible repeat (fail)); exact BK351.out) hb); have n4_ := Sd.mk (below_step (by repeat ((with_reducible (exact HB.out)))) hb); clear HO354; clear BK350; clear BK351; clear HB; have HO354 := n0_; have HO357 := n1_; have BK350 := n2_; have BK351 := n3_; have HB := n4_; clear n0_ n1_ n2_ n3_ n4_; clear hb ho41; obtain ⟨Ao42, co42, eo42⟩ := Kd.R_slice HO354.out; subst eo42; obtain ⟨Ao43, co43, eo43⟩ := Kd.R_slice HO357.out; subst eo43) | ((with_reducible refine gate_callee (f := 137) rfl ?_); refine goesL_ (some 24) rfl rfl Tryz.func137 (by kernel_rfl) rfl #[.slice Ao42 y352.length co42, .slice Ao43 y355.length co43] rfl (by (try simp only [List.map_toArray, List.map_cons, List.map_nil]); (rfl)) ?_; (with_reducible refine (r20_lists.calls k _ _ y352 _ _ y355 t358 _ ?side1 ?side2 ?side3 ?side4 A4.out).mono ?_); (case side1 => repeat ((exact (Kd.R_reads' HO354.out).2.2))); (case side2 => exact (Kd.R_reads' HO354.out).2.1); (case side3 => repeat ((exact (Kd.R_reads' HO357.out).2.2))); (case side4 => exact (Kd.R_reads' HO357.out).2.1); rintro e w' ⟨rfl, ⟨nd, rfl⟩⟩; refine ⟨_, rfl, ?_⟩; obtain ⟨hcz44_0, hcz44_1, hcz44_2, hcz44_3, hcz44_4, hcz44_5⟩ := bc6 BK350.out; obtain ⟨hfz44_0, hfz44_1, hfz44_2, hfz44_3, hfz44_4, hfz44_5⟩ := bf6 BK350.out; obtain ⟨hcz45_0, hcz45_1, hcz45_2, hcz45_3, hcz45_4, hcz45_5⟩ := bc6 BK351.out; obtain ⟨hfz45_0, hfz45_1, hfz45_2, hfz45_3, hfz45_4, hfz45_5⟩ := bf6 BK351.out) | ((with_reducible refine gate_callee (f := 137) rfl ?_); refine goesL_ (some 32) rfl rfl Tryz.func137 (by kernel_rfl) rfl #[.slice A0_2 l0_2.length c0_2, .slice A1_2 l1_2.length c1_2] rfl (by (try simp only [List.map_toArray, List.map_cons, List.map_nil]); (rfl)) ?_; (with_reducible refine (r20_lists.calls k _ _ l0_2 _ _ l1_2 t359 _ ?side1 ?side2 ?side3 ?side4 A6.out).mono ?_); (case side1 => repeat ((exact (Kd.C_below HR0_2.out (by repeat ((with_reducible first | exact HB.out | apply pw_below_drewN))))))); (case side2 => exact HC0_2.out); (case side3 => repeat ((exact (Kd.C_below HR1_2.out (by repeat ((with_reducible first | exact HB.out | apply pw_below_drewN))))))); (case side4 => exact HC1_2.out); rintro e w' ⟨rfl, ⟨nd, rfl⟩⟩; refine ⟨_, rfl, ?_⟩) | ((with_reducible refine gate_callee (f := 137) rfl ?_); refine goesL_ (some 40) rfl rfl Tryz.func137 (by kernel_rfl) rfl #[.slice A0_3 l0_3.length c0_3, .slice A1_3 l1_3.length c1_3] rfl (by (try simp only [List.map_toArray, List.map_cons, List.map_nil]); (rfl)) ?_; (with_reducible refine (r20_lists.calls k _ _ l0_3 _ _ l1_3 t360 _ ?side1 ?side2 ?side3 ?side4 A8.out).mono ?_); (case side1 => repeat ((exact (Kd.C_below HR0_3.out (by repeat ((with_reducible first | exact HB.out | apply pw_below_drewN))))))); (case side2 => exact HC0_3.out); (case side3 => repeat ((exact (Kd.C_below HR1_3.out (by repeat ((with_reducible first | exact HB.out | apply pw_below_drewN))))))); (case side4 => exact HC1_3.out); rintro e w' ⟨rfl, ⟨nd, rfl⟩⟩; refine ⟨_, rfl, ?_⟩))
     go_ret
     exact ⟨by (rfl), by repeat ((with_reducible first | exact HB.out | apply pw_below_drewN))⟩
   ·rw [if_neg c7] at H
    have c7b0 : (t359 == 0) = false := beq_eq_false_iff_ne.mpr c7
    have c7b1 : (t359 != 0) = true := bne_iff_ne.mpr c7
    obtain rfl := Option.some.inj H
    go_enter Tryz.func127, Tryz.ntmps127
    go_wp2_with (first | ((with_reducible refine gate_dst (N := 2) rfl ?_); refine box_event ?hg (N := 2) ?hd (cs := #[.int .i64 a0_0, .string a0_1, .slice A0_2 l0_2.length c0_2, .slice A0_3 l0_3.length c0_3, .string a0_4, .string a0_5]) (t := 28) ?hr ?_; (case hd => rfl); (case hg => rfl); (case hr => (go_simp; done)); intro gb350 hg w46 hbox hb; have n0_ := Sd.mk (below_step (by repeat ((with_reducible (exact HB.out)))) hb); have n1_ := Sd.mk (hbox); have n2_ := Sd.mk ((by rw [hg]; exact (below_size (by repeat ((with_reducible (exact HB.out))))) : w.heap.size ≤ gb350)); have n3_ := Sd.mk ((by rw [hg]; exact (below_size (by repeat ((with_reducible (exact HB.out))))) : w.heap.size ≤ gb350)); clear HB; have HB := n0_; have BK350 := n1_; have GW350 := n2_; have GE350 := n3_; clear n0_ n1_ n2_ n3_; clear hb hbox hg) | ((with_reducible refine gate_dst (N := 3) rfl ?_); refine box_event ?hg (N := 3) ?hd (cs := #[.int .i64 a1_0, .string a1_1, .slice A1_2 l1_2.length c1_2, .slice A1_3 l1_3.length c1_3, .string a1_4, .string a1_5]) (t := 28) ?hr ?_; (case hd => rfl); (case hg => rfl); (case hr => (go_simp; done)); intro gb351 hg w47 hbox hb; have n0_ := Sd.mk (blk_below (g := gb350) (o := .cells #[.int .i64 a0_0, .string a0_1, .slice A0_2 l0_2.length c0_2, .slice A0_3 l0_3.length c0_3, .string a0_4, .string a0_5] 28 (0, 0)) (by (with_reducible repeat (fail)); exact BK350.out) hb); have n1_ := Sd.mk (below_step (by repeat ((with_reducible (exact HB.out)))) hb); have n2_ := Sd.mk (hbox); have n3_ := Sd.mk ((by rw [hg]; exact (below_size (by repeat ((with_reducible (exact HB.out))))) : w.heap.size ≤ gb351)); have n4_ := Sd.mk ((by rw [hg]; exact (below_size (by repeat ((with_reducible (exact HB.out))))) : w.heap.size ≤ gb351)); have n5_ := Sd.mk ((by rw [hg]; exact Nat.ne_of_lt (blk_lt (g := gb350) (o := .cells #[.int .i64 a0_0, .string a0_1, .slice A0_2 l0_2.length c0_2, .slice A0_3 l0_3.length c0_3, .string a0_4, .string a0_5] 28 (0, 0)) (by (with_reducible repeat (fail)); exact BK350.out)) : gb350 ≠ gb351)); have n6_ := Sd.mk ((by rw [hg]; exact Nat.ne_of_gt (blk_lt (g := gb350) (o := .cells #[.int .i64 a0_0, .string a0_1, .slice A0_2 l0_2.length c0_2, .slice A0_3 l0_3.length c0_3, .string a0_4, .string a0_5] 28 (0, 0)) (by (with_reducible repeat (fail)); exact BK350.out)) : gb351 ≠ gb350)); clear BK350; clear HB; have BK350 := n0_; have HB := n1_; have BK351 := n2_; have GW351 := n3_; have GE351 := n4_; have NB350_351 := n5_; have NB351_350 := n6_; clear n0_ n1_ n2_ n3_ n4_ n5_ n6_; clear hb hbox hg; have hnb48 := NB350_351.out; have hnc48 := NB351_350.out; obtain ⟨hcz49_0, hcz49_1, hcz49_2, hcz49_3, hcz49_4, hcz49_5⟩ := bc6 BK350.out; obtain ⟨hfz49_0, hfz49_1, hfz49_2, hfz49_3, hfz49_4, hfz49_5⟩ := bf6 BK350.out; obtain ⟨hcz50_0, hcz50_1, hcz50_2, hcz50_3, hcz50_4, hcz50_5⟩ := bc6 BK351.out; obtain ⟨hfz50_0, hfz50_1, hfz50_2, hfz50_3, hfz50_4, hfz50_5⟩ := bf6 BK351.out) | ((with_reducible refine gate_dst (N := 20) rfl ?_); refine Kd.R_lit Kd.string _ 9 ?hg (N := 20) ?hd (xs := ([a0_1] : List ByteArray)) (inner := [.string a0_1]) (ok := fun _ => True) (okp := fun _ => True) ?hr ?hp (fun _ hk => hk) trivial (Below.refl _ _) (Nat.le_refl _) (by simp) ?_; (case hd => rfl); (case hg => rfl); (case hr => (go_simp; done)); (case hp => exact (Reps.one (show Kd.M Kd.string _ _ _ a0_1 [.string a0_1] from rfl) (Reps.none _ _))); intro v353 w51 ho52 hb hg_ hnew_; clear hg_ hnew_; ((rw [← Ny352.out] at ho52)); have n0_ := Sd.mk (Kd.R_lower ho52 (below_size (by repeat ((with_reducible (exact HB.out)))))); have n1_ := Sd.mk (blk_below (g := gb350) (o := .cells #[.int .i64 a0_0, .string a0_1, .slice A0_2 l0_2.length c0_2, .slice A0_3 l0_3.length c0_3, .string a0_4, .string a0_5] 28 (0, 0)) (by (with_reducible repeat (fail)); exact BK350.out) hb); have n2_ := Sd.mk (blk_below (g := gb351) (o := .cells #[.int .i64 a1_0, .string a1_1, .slice A1_2 l1_2.length c1_2, .slice A1_3 l1_3.length c1_3, .string a1_4, .string a1_5] 28 (0, 0)) (by (with_reducible repeat (fail)); exact BK351.out) hb); have n3_ := Sd.mk (below_step (by repeat ((with_reducible (exact HB.out)))) hb); clear BK350; clear BK351; clear HB; have HO354 := n0_; have BK350 := n1_; have BK351 := n2_; have HB := n3_; clear n0_ n1_ n2_ n3_; clear hb ho52; obtain ⟨hcz53_0, hcz53_1, hcz53_2, hcz53_3, hcz53_4, hcz53_5⟩ := bc6 BK351.out; obtain ⟨hfz53_0, hfz53_1, hfz53_2, hfz53_3, hfz53_4, hfz53_5⟩ := bf6 BK351.out) | ((with_reducible refine gate_dst (N := 23) rfl ?_); refine Kd.R_lit Kd.string _ 9 ?hg (N := 23) ?hd (xs := ([a1_1] : List ByteArray)) (inner := [.string a1_1]) (ok := fun _ => True) (okp := fun _ => True) ?hr ?hp (fun _ hk => hk) trivial (Below.refl _ _) (Nat.le_refl _) (by simp) ?_; (case hd => rfl); (case hg => rfl); (case hr => (go_simp; done)); (case hp => exact (Reps.one (show Kd.M Kd.string _ _ _ a1_1 [.string a1_1] from rfl) (Reps.none _ _))); intro v356 w54 ho55 hb hg_ hnew_; clear hg_ hnew_; ((rw [← Ny355.out] at ho55)); have n0_ := Sd.mk (Kd.R_elder' (by (with_reducible repeat (fail)); exact HO354.out) (Kd.R_base ho55) hb); have n1_ := Sd.mk (Kd.R_lower (Kd.R_new' ho55 (Kd.R_lt (by (with_reducible repeat (fail)); exact HO354.out))) (below_size (by repeat ((with_reducible (exact HB.out)))))); have n2_ := Sd.mk (blk_below (g := gb350) (o := .cells #[.int .i64 a0_0, .string a0_1, .slice A0_2 l0_2.length c0_2, .slice A0_3 l0_3.length c0_3, .string a0_4, .string a0_5] 28 (0, 0)) (by (with_reducible repeat (fail)); exact BK350.out) hb); have n3_ := Sd.mk (blk_below (g := gb351) (o := .cells #[.int .i64 a1_0, .string a1_1, .slice A1_2 l1_2.length c1_2, .slice A1_3 l1_3.length c1_3, .string a1_4, .string a1_5] 28 (0, 0)) (by (with_reducible repeat (fail)); exact BK351.out) hb); have n4_ := Sd.mk (below_step (by repeat ((with_reducible (exact HB.out)))) hb); clear HO354; clear BK350; clear BK351; clear HB; have HO354 := n0_; have HO357 := n1_; have BK350 := n2_; have BK351 := n3_; have HB := n4_; clear n0_ n1_ n2_ n3_ n4_; clear hb ho55; obtain ⟨Ao56, co56, eo56⟩ := Kd.R_slice HO354.out; subst eo56; obtain ⟨Ao57, co57, eo57⟩ := Kd.R_slice HO357.out; subst eo57) | ((with_reducible refine gate_callee (f := 137) rfl ?_); refine goesL_ (some 24) rfl rfl Tryz.func137 (by kernel_rfl) rfl #[.slice Ao56 y352.length co56, .slice Ao57 y355.length co57] rfl (by (try simp only [List.map_toArray, List.map_cons, List.map_nil]); (rfl)) ?_; (with_reducible refine (r20_lists.calls k _ _ y352 _ _ y355 t358 _ ?side1 ?side2 ?side3 ?side4 A4.out).mono ?_); (case side1 => repeat ((exact (Kd.R_reads' HO354.out).2.2))); (case side2 => exact (Kd.R_reads' HO354.out).2.1); (case side3 => repeat ((exact (Kd.R_reads' HO357.out).2.2))); (case side4 => exact (Kd.R_reads' HO357.out).2.1); rintro e w' ⟨rfl, ⟨nd, rfl⟩⟩; refine ⟨_, rfl, ?_⟩; obtain ⟨hcz58_0, hcz58_1, hcz58_2, hcz58_3, hcz58_4, hcz58_5⟩ := bc6 BK350.out; obtain ⟨hfz58_0, hfz58_1, hfz58_2, hfz58_3, hfz58_4, hfz58_5⟩ := bf6 BK350.out; obtain ⟨hcz59_0, hcz59_1, hcz59_2, hcz59_3, hcz59_4, hcz59_5⟩ := bc6 BK351.out; obtain ⟨hfz59_0, hfz59_1, hfz59_2, hfz59_3, hfz59_4, hfz59_5⟩ := bf6 BK351.out) | ((with_reducible refine gate_callee (f := 137) rfl ?_); refine goesL_ (some 32) rfl rfl Tryz.func137 (by kernel_rfl) rfl #[.slice A0_2 l0_2.length c0_2, .slice A1_2 l1_2.length c1_2] rfl (by (try simp only [List.map_toArray, List.map_cons, List.map_nil]); (rfl)) ?_; (with_reducible refine (r20_lists.calls k _ _ l0_2 _ _ l1_2 t359 _ ?side1 ?side2 ?side3 ?side4 A6.out).mono ?_); (case side1 => repeat ((exact (Kd.C_below HR0_2.out (by repeat ((with_reducible first | exact HB.out | apply pw_below_drewN))))))); (case side2 => exact HC0_2.out); (case side3 => repeat ((exact (Kd.C_below HR1_2.out (by repeat ((with_reducible first | exact HB.out | apply pw_below_drewN))))))); (case side4 => exact HC1_2.out); rintro e w' ⟨rfl, ⟨nd, rfl⟩⟩; refine ⟨_, rfl, ?_⟩))
    go_ret
    exact ⟨by (rfl), by repeat ((with_reducible first | exact HB.out | apply pw_below_drewN))⟩
  ·rw [if_neg c5] at H
   have c5b0 : (t358 == 0) = false := beq_eq_false_iff_ne.mpr c5
   have c5b1 : (t358 != 0) = true := bne_iff_ne.mpr c5
   obtain rfl := Option.some.inj H
   go_enter Tryz.func127, Tryz.ntmps127
   go_wp2_with (first | ((with_reducible refine gate_dst (N := 2) rfl ?_); refine box_event ?hg (N := 2) ?hd (cs := #[.int .i64 a0_0, .string a0_1, .slice A0_2 l0_2.length c0_2, .slice A0_3 l0_3.length c0_3, .string a0_4, .string a0_5]) (t := 28) ?hr ?_; (case hd => rfl); (case hg => rfl); (case hr => (go_simp; done)); intro gb350 hg w60 hbox hb; have n0_ := Sd.mk (below_step (by repeat ((with_reducible (exact HB.out)))) hb); have n1_ := Sd.mk (hbox); have n2_ := Sd.mk ((by rw [hg]; exact (below_size (by repeat ((with_reducible (exact HB.out))))) : w.heap.size ≤ gb350)); have n3_ := Sd.mk ((by rw [hg]; exact (below_size (by repeat ((with_reducible (exact HB.out))))) : w.heap.size ≤ gb350)); clear HB; have HB := n0_; have BK350 := n1_; have GW350 := n2_; have GE350 := n3_; clear n0_ n1_ n2_ n3_; clear hb hbox hg) | ((with_reducible refine gate_dst (N := 3) rfl ?_); refine box_event ?hg (N := 3) ?hd (cs := #[.int .i64 a1_0, .string a1_1, .slice A1_2 l1_2.length c1_2, .slice A1_3 l1_3.length c1_3, .string a1_4, .string a1_5]) (t := 28) ?hr ?_; (case hd => rfl); (case hg => rfl); (case hr => (go_simp; done)); intro gb351 hg w61 hbox hb; have n0_ := Sd.mk (blk_below (g := gb350) (o := .cells #[.int .i64 a0_0, .string a0_1, .slice A0_2 l0_2.length c0_2, .slice A0_3 l0_3.length c0_3, .string a0_4, .string a0_5] 28 (0, 0)) (by (with_reducible repeat (fail)); exact BK350.out) hb); have n1_ := Sd.mk (below_step (by repeat ((with_reducible (exact HB.out)))) hb); have n2_ := Sd.mk (hbox); have n3_ := Sd.mk ((by rw [hg]; exact (below_size (by repeat ((with_reducible (exact HB.out))))) : w.heap.size ≤ gb351)); have n4_ := Sd.mk ((by rw [hg]; exact (below_size (by repeat ((with_reducible (exact HB.out))))) : w.heap.size ≤ gb351)); have n5_ := Sd.mk ((by rw [hg]; exact Nat.ne_of_lt (blk_lt (g := gb350) (o := .cells #[.int .i64 a0_0, .string a0_1, .slice A0_2 l0_2.length c0_2, .slice A0_3 l0_3.length c0_3, .string a0_4, .string a0_5] 28 (0, 0)) (by (with_reducible repeat (fail)); exact BK350.out)) : gb350 ≠ gb351)); have n6_ := Sd.mk ((by rw [hg]; exact Nat.ne_of_gt (blk_lt (g := gb350) (o := .cells #[.int .i64 a0_0, .string a0_1, .slice A0_2 l0_2.length c0_2, .slice A0_3 l0_3.length c0_3, .string a0_4, .string a0_5] 28 (0, 0)) (by (with_reducible repeat (fail)); exact BK350.out)) : gb351 ≠ gb350)); clear BK350; clear HB; have BK350 := n0_; have HB := n1_; have BK351 := n2_; have GW351 := n3_; have GE351 := n4_; have NB350_351 := n5_; have NB351_350 := n6_; clear n0_ n1_ n2_ n3_ n4_ n5_ n6_; clear hb hbox hg; have hnb62 := NB350_351.out; have hnc62 := NB351_350.out; obtain ⟨hcz63_0, hcz63_1, hcz63_2, hcz63_3, hcz63_4, hcz63_5⟩ := bc6 BK350.out; obtain ⟨hfz63_0, hfz63_1, hfz63_2, hfz63_3, hfz63_4, hfz63_5⟩ := bf6 BK350.out; obtain ⟨hcz64_0, hcz64_1, hcz64_2, hcz64_3, hcz64_4, hcz64_5⟩ := bc6 BK351.out; obtain ⟨hfz64_0, hfz64_1, hfz64_2, hfz64_3, hfz64_4, hfz64_5⟩ := bf6 BK351.out) | ((with_reducible refine gate_dst (N := 20) rfl ?_); refine Kd.R_lit Kd.string _ 9 ?hg (N := 20) ?hd (xs := ([a0_1] : List ByteArray)) (inner := [.string a0_1]) (ok := fun _ => True) (okp := fun _ => True) ?hr ?hp (fun _ hk => hk) trivial (Below.refl _ _) (Nat.le_refl _) (by simp) ?_; (case hd => rfl); (case hg => rfl); (case hr => (go_simp; done)); (case hp => exact (Reps.one (show Kd.M Kd.string _ _ _ a0_1 [.string a0_1] from rfl) (Reps.none _ _))); intro v353 w65 ho66 hb hg_ hnew_; clear hg_ hnew_; ((rw [← Ny352.out] at ho66)); have n0_ := Sd.mk (Kd.R_lower ho66 (below_size (by repeat ((with_reducible (exact HB.out)))))); have n1_ := Sd.mk (blk_below (g := gb350) (o := .cells #[.int .i64 a0_0, .string a0_1, .slice A0_2 l0_2.length c0_2, .slice A0_3 l0_3.length c0_3, .string a0_4, .string a0_5] 28 (0, 0)) (by (with_reducible repeat (fail)); exact BK350.out) hb); have n2_ := Sd.mk (blk_below (g := gb351) (o := .cells #[.int .i64 a1_0, .string a1_1, .slice A1_2 l1_2.length c1_2, .slice A1_3 l1_3.length c1_3, .string a1_4, .string a1_5] 28 (0, 0)) (by (with_reducible repeat (fail)); exact BK351.out) hb); have n3_ := Sd.mk (below_step (by repeat ((with_reducible (exact HB.out)))) hb); clear BK350; clear BK351; clear HB; have HO354 := n0_; have BK350 := n1_; have BK351 := n2_; have HB := n3_; clear n0_ n1_ n2_ n3_; clear hb ho66; obtain ⟨hcz67_0, hcz67_1, hcz67_2, hcz67_3, hcz67_4, hcz67_5⟩ := bc6 BK351.out; obtain ⟨hfz67_0, hfz67_1, hfz67_2, hfz67_3, hfz67_4, hfz67_5⟩ := bf6 BK351.out) | ((with_reducible refine gate_dst (N := 23) rfl ?_); refine Kd.R_lit Kd.string _ 9 ?hg (N := 23) ?hd (xs := ([a1_1] : List ByteArray)) (inner := [.string a1_1]) (ok := fun _ => True) (okp := fun _ => True) ?hr ?hp (fun _ hk => hk) trivial (Below.refl _ _) (Nat.le_refl _) (by simp) ?_; (case hd => rfl); (case hg => rfl); (case hr => (go_simp; done)); (case hp => exact (Reps.one (show Kd.M Kd.string _ _ _ a1_1 [.string a1_1] from rfl) (Reps.none _ _))); intro v356 w68 ho69 hb hg_ hnew_; clear hg_ hnew_; ((rw [← Ny355.out] at ho69)); have n0_ := Sd.mk (Kd.R_elder' (by (with_reducible repeat (fail)); exact HO354.out) (Kd.R_base ho69) hb); have n1_ := Sd.mk (Kd.R_lower (Kd.R_new' ho69 (Kd.R_lt (by (with_reducible repeat (fail)); exact HO354.out))) (below_size (by repeat ((with_reducible (exact HB.out)))))); have n2_ := Sd.mk (blk_below (g := gb350) (o := .cells #[.int .i64 a0_0, .string a0_1, .slice A0_2 l0_2.length c0_2, .slice A0_3 l0_3.length c0_3, .string a0_4, .string a0_5] 28 (0, 0)) (by (with_reducible repeat (fail)); exact BK350.out) hb); have n3_ := Sd.mk (blk_below (g := gb351) (o := .cells #[.int .i64 a1_0, .string a1_1, .slice A1_2 l1_2.length c1_2, .slice A1_3 l1_3.length c1_3, .string a1_4, .string a1_5] 28 (0, 0)) (by (with_reducible repeat (fail)); exact BK351.out) hb); have n4_ := Sd.mk (below_step (by repeat ((with_reducible (exact HB.out)))) hb); clear HO354; clear BK350; clear BK351; clear HB; have HO354 := n0_; have HO357 := n1_; have BK350 := n2_; have BK351 := n3_; have HB := n4_; clear n0_ n1_ n2_ n3_ n4_; clear hb ho69; obtain ⟨Ao70, co70, eo70⟩ := Kd.R_slice HO354.out; subst eo70; obtain ⟨Ao71, co71, eo71⟩ := Kd.R_slice HO357.out; subst eo71) | ((with_reducible refine gate_callee (f := 137) rfl ?_); refine goesL_ (some 24) rfl rfl Tryz.func137 (by kernel_rfl) rfl #[.slice Ao70 y352.length co70, .slice Ao71 y355.length co71] rfl (by (try simp only [List.map_toArray, List.map_cons, List.map_nil]); (rfl)) ?_; (with_reducible refine (r20_lists.calls k _ _ y352 _ _ y355 t358 _ ?side1 ?side2 ?side3 ?side4 A4.out).mono ?_); (case side1 => repeat ((exact (Kd.R_reads' HO354.out).2.2))); (case side2 => exact (Kd.R_reads' HO354.out).2.1); (case side3 => repeat ((exact (Kd.R_reads' HO357.out).2.2))); (case side4 => exact (Kd.R_reads' HO357.out).2.1); rintro e w' ⟨rfl, ⟨nd, rfl⟩⟩; refine ⟨_, rfl, ?_⟩))
   go_ret
   exact ⟨by (rfl), by repeat ((with_reducible first | exact HB.out | apply pw_below_drewN))⟩
 ·rw [if_neg c3] at H
  have c3b0 : (a0_0 == a1_0) = false := beq_eq_false_iff_ne.mpr c3
  have c3b1 : (a0_0 != a1_0) = true := bne_iff_ne.mpr c3
  by_cases c72 : a0_0 < a1_0
  ·rw [if_pos c72] at H
   have c72b0 : decide (a0_0 < a1_0) = true := decide_eq_true c72
   clear c72
   obtain rfl := Option.some.inj H
   go_enter Tryz.func127, Tryz.ntmps127
   go_wp2_with (first | ((with_reducible refine gate_dst (N := 2) rfl ?_); refine box_event ?hg (N := 2) ?hd (cs := #[.int .i64 a0_0, .string a0_1, .slice A0_2 l0_2.length c0_2, .slice A0_3 l0_3.length c0_3, .string a0_4, .string a0_5]) (t := 28) ?hr ?_; (case hd => rfl); (case hg => rfl); (case hr => (go_simp; done)); intro gb350 hg w73 hbox hb; have n0_ := Sd.mk (below_step (by repeat ((with_reducible (exact HB.out)))) hb); have n1_ := Sd.mk (hbox); have n2_ := Sd.mk ((by rw [hg]; exact (below_size (by repeat ((with_reducible (exact HB.out))))) : w.heap.size ≤ gb350)); have n3_ := Sd.mk ((by rw [hg]; exact (below_size (by repeat ((with_reducible (exact HB.out))))) : w.heap.size ≤ gb350)); clear HB; have HB := n0_; have BK350 := n1_; have GW350 := n2_; have GE350 := n3_; clear n0_ n1_ n2_ n3_; clear hb hbox hg) | ((with_reducible refine gate_dst (N := 3) rfl ?_); refine box_event ?hg (N := 3) ?hd (cs := #[.int .i64 a1_0, .string a1_1, .slice A1_2 l1_2.length c1_2, .slice A1_3 l1_3.length c1_3, .string a1_4, .string a1_5]) (t := 28) ?hr ?_; (case hd => rfl); (case hg => rfl); (case hr => (go_simp; done)); intro gb351 hg w74 hbox hb; have n0_ := Sd.mk (blk_below (g := gb350) (o := .cells #[.int .i64 a0_0, .string a0_1, .slice A0_2 l0_2.length c0_2, .slice A0_3 l0_3.length c0_3, .string a0_4, .string a0_5] 28 (0, 0)) (by (with_reducible repeat (fail)); exact BK350.out) hb); have n1_ := Sd.mk (below_step (by repeat ((with_reducible (exact HB.out)))) hb); have n2_ := Sd.mk (hbox); have n3_ := Sd.mk ((by rw [hg]; exact (below_size (by repeat ((with_reducible (exact HB.out))))) : w.heap.size ≤ gb351)); have n4_ := Sd.mk ((by rw [hg]; exact (below_size (by repeat ((with_reducible (exact HB.out))))) : w.heap.size ≤ gb351)); have n5_ := Sd.mk ((by rw [hg]; exact Nat.ne_of_lt (blk_lt (g := gb350) (o := .cells #[.int .i64 a0_0, .string a0_1, .slice A0_2 l0_2.length c0_2, .slice A0_3 l0_3.length c0_3, .string a0_4, .string a0_5] 28 (0, 0)) (by (with_reducible repeat (fail)); exact BK350.out)) : gb350 ≠ gb351)); have n6_ := Sd.mk ((by rw [hg]; exact Nat.ne_of_gt (blk_lt (g := gb350) (o := .cells #[.int .i64 a0_0, .string a0_1, .slice A0_2 l0_2.length c0_2, .slice A0_3 l0_3.length c0_3, .string a0_4, .string a0_5] 28 (0, 0)) (by (with_reducible repeat (fail)); exact BK350.out)) : gb351 ≠ gb350)); clear BK350; clear HB; have BK350 := n0_; have HB := n1_; have BK351 := n2_; have GW351 := n3_; have GE351 := n4_; have NB350_351 := n5_; have NB351_350 := n6_; clear n0_ n1_ n2_ n3_ n4_ n5_ n6_; clear hb hbox hg; have hnb75 := NB350_351.out; have hnc75 := NB351_350.out; obtain ⟨hcz76_0, hcz76_1, hcz76_2, hcz76_3, hcz76_4, hcz76_5⟩ := bc6 BK350.out; obtain ⟨hfz76_0, hfz76_1, hfz76_2, hfz76_3, hfz76_4, hfz76_5⟩ := bf6 BK350.out; obtain ⟨hcz77_0, hcz77_1, hcz77_2, hcz77_3, hcz77_4, hcz77_5⟩ := bc6 BK351.out; obtain ⟨hfz77_0, hfz77_1, hfz77_2, hfz77_3, hfz77_4, hfz77_5⟩ := bf6 BK351.out))
   go_ret
   exact ⟨by (rfl), by repeat ((with_reducible (exact HB.out)))⟩
  ·rw [if_neg c72] at H
   have c72b0 : decide (a0_0 < a1_0) = false := decide_eq_false c72
   clear c72
   obtain rfl := Option.some.inj H
   go_enter Tryz.func127, Tryz.ntmps127
   go_wp2_with (first | ((with_reducible refine gate_dst (N := 2) rfl ?_); refine box_event ?hg (N := 2) ?hd (cs := #[.int .i64 a0_0, .string a0_1, .slice A0_2 l0_2.length c0_2, .slice A0_3 l0_3.length c0_3, .string a0_4, .string a0_5]) (t := 28) ?hr ?_; (case hd => rfl); (case hg => rfl); (case hr => (go_simp; done)); intro gb350 hg w78 hbox hb; have n0_ := Sd.mk (below_step (by repeat ((with_reducible (exact HB.out)))) hb); have n1_ := Sd.mk (hbox); have n2_ := Sd.mk ((by rw [hg]; exact (below_size (by repeat ((with_reducible (exact HB.out))))) : w.heap.size ≤ gb350)); have n3_ := Sd.mk ((by rw [hg]; exact (below_size (by repeat ((with_reducible (exact HB.out))))) : w.heap.size ≤ gb350)); clear HB; have HB := n0_; have BK350 := n1_; have GW350 := n2_; have GE350 := n3_; clear n0_ n1_ n2_ n3_; clear hb hbox hg) | ((with_reducible refine gate_dst (N := 3) rfl ?_); refine box_event ?hg (N := 3) ?hd (cs := #[.int .i64 a1_0, .string a1_1, .slice A1_2 l1_2.length c1_2, .slice A1_3 l1_3.length c1_3, .string a1_4, .string a1_5]) (t := 28) ?hr ?_; (case hd => rfl); (case hg => rfl); (case hr => (go_simp; done)); intro gb351 hg w79 hbox hb; have n0_ := Sd.mk (blk_below (g := gb350) (o := .cells #[.int .i64 a0_0, .string a0_1, .slice A0_2 l0_2.length c0_2, .slice A0_3 l0_3.length c0_3, .string a0_4, .string a0_5] 28 (0, 0)) (by (with_reducible repeat (fail)); exact BK350.out) hb); have n1_ := Sd.mk (below_step (by repeat ((with_reducible (exact HB.out)))) hb); have n2_ := Sd.mk (hbox); have n3_ := Sd.mk ((by rw [hg]; exact (below_size (by repeat ((with_reducible (exact HB.out))))) : w.heap.size ≤ gb351)); have n4_ := Sd.mk ((by rw [hg]; exact (below_size (by repeat ((with_reducible (exact HB.out))))) : w.heap.size ≤ gb351)); have n5_ := Sd.mk ((by rw [hg]; exact Nat.ne_of_lt (blk_lt (g := gb350) (o := .cells #[.int .i64 a0_0, .string a0_1, .slice A0_2 l0_2.length c0_2, .slice A0_3 l0_3.length c0_3, .string a0_4, .string a0_5] 28 (0, 0)) (by (with_reducible repeat (fail)); exact BK350.out)) : gb350 ≠ gb351)); have n6_ := Sd.mk ((by rw [hg]; exact Nat.ne_of_gt (blk_lt (g := gb350) (o := .cells #[.int .i64 a0_0, .string a0_1, .slice A0_2 l0_2.length c0_2, .slice A0_3 l0_3.length c0_3, .string a0_4, .string a0_5] 28 (0, 0)) (by (with_reducible repeat (fail)); exact BK350.out)) : gb351 ≠ gb350)); clear BK350; clear HB; have BK350 := n0_; have HB := n1_; have BK351 := n2_; have GW351 := n3_; have GE351 := n4_; have NB350_351 := n5_; have NB351_350 := n6_; clear n0_ n1_ n2_ n3_ n4_ n5_ n6_; clear hb hbox hg; have hnb80 := NB350_351.out; have hnc80 := NB351_350.out; obtain ⟨hcz81_0, hcz81_1, hcz81_2, hcz81_3, hcz81_4, hcz81_5⟩ := bc6 BK350.out; obtain ⟨hfz81_0, hfz81_1, hfz81_2, hfz81_3, hfz81_4, hfz81_5⟩ := bf6 BK350.out; obtain ⟨hcz82_0, hcz82_1, hcz82_2, hcz82_3, hcz82_4, hcz82_5⟩ := bc6 BK351.out; obtain ⟨hfz82_0, hfz82_1, hfz82_2, hfz82_3, hfz82_4, hfz82_5⟩ := bf6 BK351.out))
   go_ret
   exact ⟨by (rfl), by repeat ((with_reducible (exact HB.out)))⟩
def r20_Same.f (k : Nat) (a0_0 : Int) (a0_1 : ByteArray) (l0_2 : List ByteArray) (l0_3 : List ByteArray) (a0_4 : ByteArray) (a0_5 : ByteArray) (a1_0 : Int) (a1_1 : ByteArray) (l1_2 : List ByteArray) (l1_3 : List ByteArray) (a1_4 : ByteArray) (a1_5 : ByteArray) : Option (Bool) := (r20_order.f k a0_0 a0_1 l0_2 l0_3 a0_4 a0_5 a1_0 a1_1 l1_2 l1_3 a1_4 a1_5).bind fun t370 => (some (t370 == 0))
theorem r20_Same.calls (k : Nat) (a0_0 : Int) (a0_1 : ByteArray) (A0_2 : Option Addr) (c0_2 : Nat) (l0_2 : List ByteArray) (A0_3 : Option Addr) (c0_3 : Nat) (l0_3 : List ByteArray) (a0_4 : ByteArray) (a0_5 : ByteArray) (a1_0 : Int) (a1_1 : ByteArray) (A1_2 : Option Addr) (c1_2 : Nat) (l1_2 : List ByteArray) (A1_3 : Option Addr) (c1_3 : Nat) (l1_3 : List ByteArray) (a1_4 : ByteArray) (a1_5 : ByteArray) (r : Bool) (w : World) (hr0_2 : Kd.C Kd.string w A0_2 l0_2.length l0_2) (hc0_2 : l0_2.length ≤ c0_2) (hr0_3 : Kd.C Kd.string w A0_3 l0_3.length l0_3) (hc0_3 : l0_3.length ≤ c0_3) (hr1_2 : Kd.C Kd.string w A1_2 l1_2.length l1_2) (hc1_2 : l1_2.length ≤ c1_2) (hr1_3 : Kd.C Kd.string w A1_3 l1_3.length l1_3) (hc1_3 : l1_3.length ≤ c1_3) (h : r20_Same.f k a0_0 a0_1 l0_2 l0_3 a0_4 a0_5 a1_0 a1_1 l1_2 l1_3 a1_4 a1_5 = some r) :
  Calls Tryz.prog 111 #[.agg #[.int .i64 a0_0, .string a0_1, .slice A0_2 l0_2.length c0_2, .slice A0_3 l0_3.length c0_3, .string a0_4, .string a0_5], .agg #[.int .i64 a1_0, .string a1_1, .slice A1_2 l1_2.length c1_2, .slice A1_3 l1_3.length c1_3, .string a1_4, .string a1_5]] w fun e w' => e = .returned (.bool r) ∧ Below w.heap.size w w' := by
 have hu28 := Tryz.underlying28
 have HR0_2 := Sd.mk hr0_2
 have HC0_2 := Sd.mk hc0_2
 clear hr0_2 hc0_2
 have HR0_3 := Sd.mk hr0_3
 have HC0_3 := Sd.mk hc0_3
 clear hr0_3 hc0_3
 have HR1_2 := Sd.mk hr1_2
 have HC1_2 := Sd.mk hc1_2
 clear hr1_2 hc1_2
 have HR1_3 := Sd.mk hr1_3
 have HC1_3 := Sd.mk hc1_3
 clear hr1_3 hc1_3
 have HB := Sd.mk (Below.refl w.heap.size w)
 have H : ((r20_order.f k a0_0 a0_1 l0_2 l0_3 a0_4 a0_5 a1_0 a1_1 l1_2 l1_3 a1_4 a1_5).bind fun t370 => (some (t370 == 0))) = some r := h
 clear h
 replace H := Option.bind_eq_some_iff.mp H
 obtain ⟨t370, A30, H⟩ := H
 replace H : (some (t370 == 0)) = some r := H
 have A3 := Sd.mk A30
 clear A30
 obtain rfl := Option.some.inj H
 go_enter Tryz.func111, Tryz.ntmps111
 go_wp2_with (first | ((with_reducible refine gate_dst (N := 2) rfl ?_); refine box_event ?hg (N := 2) ?hd (cs := #[.int .i64 a0_0, .string a0_1, .slice A0_2 l0_2.length c0_2, .slice A0_3 l0_3.length c0_3, .string a0_4, .string a0_5]) (t := 28) ?hr ?_; (case hd => rfl); (case hg => rfl); (case hr => (go_simp; done)); intro gb368 hg w4 hbox hb; have n0_ := Sd.mk (below_step (by repeat ((with_reducible (exact HB.out)))) hb); have n1_ := Sd.mk (hbox); have n2_ := Sd.mk ((by rw [hg]; exact (below_size (by repeat ((with_reducible (exact HB.out))))) : w.heap.size ≤ gb368)); have n3_ := Sd.mk ((by rw [hg]; exact (below_size (by repeat ((with_reducible (exact HB.out))))) : w.heap.size ≤ gb368)); clear HB; have HB := n0_; have BK368 := n1_; have GW368 := n2_; have GE368 := n3_; clear n0_ n1_ n2_ n3_; clear hb hbox hg) | ((with_reducible refine gate_dst (N := 3) rfl ?_); refine box_event ?hg (N := 3) ?hd (cs := #[.int .i64 a1_0, .string a1_1, .slice A1_2 l1_2.length c1_2, .slice A1_3 l1_3.length c1_3, .string a1_4, .string a1_5]) (t := 28) ?hr ?_; (case hd => rfl); (case hg => rfl); (case hr => (go_simp; done)); intro gb369 hg w5 hbox hb; have n0_ := Sd.mk (blk_below (g := gb368) (o := .cells #[.int .i64 a0_0, .string a0_1, .slice A0_2 l0_2.length c0_2, .slice A0_3 l0_3.length c0_3, .string a0_4, .string a0_5] 28 (0, 0)) (by (with_reducible repeat (fail)); exact BK368.out) hb); have n1_ := Sd.mk (below_step (by repeat ((with_reducible (exact HB.out)))) hb); have n2_ := Sd.mk (hbox); have n3_ := Sd.mk ((by rw [hg]; exact (below_size (by repeat ((with_reducible (exact HB.out))))) : w.heap.size ≤ gb369)); have n4_ := Sd.mk ((by rw [hg]; exact (below_size (by repeat ((with_reducible (exact HB.out))))) : w.heap.size ≤ gb369)); have n5_ := Sd.mk ((by rw [hg]; exact Nat.ne_of_lt (blk_lt (g := gb368) (o := .cells #[.int .i64 a0_0, .string a0_1, .slice A0_2 l0_2.length c0_2, .slice A0_3 l0_3.length c0_3, .string a0_4, .string a0_5] 28 (0, 0)) (by (with_reducible repeat (fail)); exact BK368.out)) : gb368 ≠ gb369)); have n6_ := Sd.mk ((by rw [hg]; exact Nat.ne_of_gt (blk_lt (g := gb368) (o := .cells #[.int .i64 a0_0, .string a0_1, .slice A0_2 l0_2.length c0_2, .slice A0_3 l0_3.length c0_3, .string a0_4, .string a0_5] 28 (0, 0)) (by (with_reducible repeat (fail)); exact BK368.out)) : gb369 ≠ gb368)); clear BK368; clear HB; have BK368 := n0_; have HB := n1_; have BK369 := n2_; have GW369 := n3_; have GE369 := n4_; have NB368_369 := n5_; have NB369_368 := n6_; clear n0_ n1_ n2_ n3_ n4_ n5_ n6_; clear hb hbox hg; have hnb6 := NB368_369.out; have hnc6 := NB369_368.out; obtain ⟨hcz7_0, hcz7_1, hcz7_2, hcz7_3, hcz7_4, hcz7_5⟩ := bc6 BK368.out; obtain ⟨hfz7_0, hfz7_1, hfz7_2, hfz7_3, hfz7_4, hfz7_5⟩ := bf6 BK368.out; obtain ⟨hcz8_0, hcz8_1, hcz8_2, hcz8_3, hcz8_4, hcz8_5⟩ := bc6 BK369.out; obtain ⟨hfz8_0, hfz8_1, hfz8_2, hfz8_3, hfz8_4, hfz8_5⟩ := bf6 BK369.out) | ((with_reducible refine gate_callee (f := 127) rfl ?_); refine goesL_ (some 7) rfl rfl Tryz.func127 (by kernel_rfl) rfl #[.agg #[.int .i64 a0_0, .string a0_1, .slice A0_2 l0_2.length c0_2, .slice A0_3 l0_3.length c0_3, .string a0_4, .string a0_5], .agg #[.int .i64 a1_0, .string a1_1, .slice A1_2 l1_2.length c1_2, .slice A1_3 l1_3.length c1_3, .string a1_4, .string a1_5]] rfl (by (try simp only [List.map_toArray, List.map_cons, List.map_nil]); (rfl)) ?_; (with_reducible refine (r20_order.calls k a0_0 a0_1 _ _ l0_2 _ _ l0_3 a0_4 a0_5 a1_0 a1_1 _ _ l1_2 _ _ l1_3 a1_4 a1_5 t370 _ ?side1 ?side2 ?side3 ?side4 ?side5 ?side6 ?side7 ?side8 A3.out).mono ?_); (case side1 => repeat ((exact (Kd.C_below HR0_2.out HB.out)))); (case side2 => exact HC0_2.out); (case side3 => repeat ((exact (Kd.C_below HR0_3.out HB.out)))); (case side4 => exact HC0_3.out); (case side5 => repeat ((exact (Kd.C_below HR1_2.out HB.out)))); (case side6 => exact HC1_2.out); (case side7 => repeat ((exact (Kd.C_below HR1_3.out HB.out)))); (case side8 => exact HC1_3.out); rintro e w9 ⟨rfl, hb⟩; refine ⟨_, rfl, ?_⟩; have n0_ := Sd.mk (blk_below (g := gb368) (o := .cells #[.int .i64 a0_0, .string a0_1, .slice A0_2 l0_2.length c0_2, .slice A0_3 l0_3.length c0_3, .string a0_4, .string a0_5] 28 (0, 0)) (by (with_reducible repeat (fail)); exact BK368.out) hb); have n1_ := Sd.mk (blk_below (g := gb369) (o := .cells #[.int .i64 a1_0, .string a1_1, .slice A1_2 l1_2.length c1_2, .slice A1_3 l1_3.length c1_3, .string a1_4, .string a1_5] 28 (0, 0)) (by (with_reducible repeat (fail)); exact BK369.out) hb); have n2_ := Sd.mk (below_step (by repeat ((with_reducible (exact HB.out)))) hb); clear BK368; clear BK369; clear HB; have BK368 := n0_; have BK369 := n1_; have HB := n2_; clear n0_ n1_ n2_; (try clear hb); (try clear hb2); (try clear hk); (try clear hi)))
 go_ret
 exact ⟨by (rfl), by repeat ((with_reducible (exact HB.out)))⟩
def r20_Less.f (k : Nat) (a0_0 : Int) (a0_1 : ByteArray) (l0_2 : List ByteArray) (l0_3 : List ByteArray) (a0_4 : ByteArray) (a0_5 : ByteArray) (a1_0 : Int) (a1_1 : ByteArray) (l1_2 : List ByteArray) (l1_3 : List ByteArray) (a1_4 : ByteArray) (a1_5 : ByteArray) : Option (Bool) := (r20_order.f k a0_0 a0_1 l0_2 l0_3 a0_4 a0_5 a1_0 a1_1 l1_2 l1_3 a1_4 a1_5).bind fun t373 => (some (decide (t373 < 0)))
theorem r20_Less.calls (k : Nat) (a0_0 : Int) (a0_1 : ByteArray) (A0_2 : Option Addr) (c0_2 : Nat) (l0_2 : List ByteArray) (A0_3 : Option Addr) (c0_3 : Nat) (l0_3 : List ByteArray) (a0_4 : ByteArray) (a0_5 : ByteArray) (a1_0 : Int) (a1_1 : ByteArray) (A1_2 : Option Addr) (c1_2 : Nat) (l1_2 : List ByteArray) (A1_3 : Option Addr) (c1_3 : Nat) (l1_3 : List ByteArray) (a1_4 : ByteArray) (a1_5 : ByteArray) (r : Bool) (w : World) (hr0_2 : Kd.C Kd.string w A0_2 l0_2.length l0_2) (hc0_2 : l0_2.length ≤ c0_2) (hr0_3 : Kd.C Kd.string w A0_3 l0_3.length l0_3) (hc0_3 : l0_3.length ≤ c0_3) (hr1_2 : Kd.C Kd.string w A1_2 l1_2.length l1_2) (hc1_2 : l1_2.length ≤ c1_2) (hr1_3 : Kd.C Kd.string w A1_3 l1_3.length l1_3) (hc1_3 : l1_3.length ≤ c1_3) (h : r20_Less.f k a0_0 a0_1 l0_2 l0_3 a0_4 a0_5 a1_0 a1_1 l1_2 l1_3 a1_4 a1_5 = some r) :
  Calls Tryz.prog 112 #[.agg #[.int .i64 a0_0, .string a0_1, .slice A0_2 l0_2.length c0_2, .slice A0_3 l0_3.length c0_3, .string a0_4, .string a0_5], .agg #[.int .i64 a1_0, .string a1_1, .slice A1_2 l1_2.length c1_2, .slice A1_3 l1_3.length c1_3, .string a1_4, .string a1_5]] w fun e w' => e = .returned (.bool r) ∧ Below w.heap.size w w' := by
 have hu28 := Tryz.underlying28
 have HR0_2 := Sd.mk hr0_2
 have HC0_2 := Sd.mk hc0_2
 clear hr0_2 hc0_2
 have HR0_3 := Sd.mk hr0_3
 have HC0_3 := Sd.mk hc0_3
 clear hr0_3 hc0_3
 have HR1_2 := Sd.mk hr1_2
 have HC1_2 := Sd.mk hc1_2
 clear hr1_2 hc1_2
 have HR1_3 := Sd.mk hr1_3
 have HC1_3 := Sd.mk hc1_3
 clear hr1_3 hc1_3
 have HB := Sd.mk (Below.refl w.heap.size w)
 have H : ((r20_order.f k a0_0 a0_1 l0_2 l0_3 a0_4 a0_5 a1_0 a1_1 l1_2 l1_3 a1_4 a1_5).bind fun t373 => (some (decide (t373 < 0)))) = some r := h
 clear h
 replace H := Option.bind_eq_some_iff.mp H
 obtain ⟨t373, A30, H⟩ := H
 replace H : (some (decide (t373 < 0))) = some r := H
 have A3 := Sd.mk A30
 clear A30
 obtain rfl := Option.some.inj H
 go_enter Tryz.func112, Tryz.ntmps112
 go_wp2_with (first | ((with_reducible refine gate_dst (N := 2) rfl ?_); refine box_event ?hg (N := 2) ?hd (cs := #[.int .i64 a0_0, .string a0_1, .slice A0_2 l0_2.length c0_2, .slice A0_3 l0_3.length c0_3, .string a0_4, .string a0_5]) (t := 28) ?hr ?_; (case hd => rfl); (case hg => rfl); (case hr => (go_simp; done)); intro gb371 hg w4 hbox hb; have n0_ := Sd.mk (below_step (by repeat ((with_reducible (exact HB.out)))) hb); have n1_ := Sd.mk (hbox); have n2_ := Sd.mk ((by rw [hg]; exact (below_size (by repeat ((with_reducible (exact HB.out))))) : w.heap.size ≤ gb371)); have n3_ := Sd.mk ((by rw [hg]; exact (below_size (by repeat ((with_reducible (exact HB.out))))) : w.heap.size ≤ gb371)); clear HB; have HB := n0_; have BK371 := n1_; have GW371 := n2_; have GE371 := n3_; clear n0_ n1_ n2_ n3_; clear hb hbox hg) | ((with_reducible refine gate_dst (N := 3) rfl ?_); refine box_event ?hg (N := 3) ?hd (cs := #[.int .i64 a1_0, .string a1_1, .slice A1_2 l1_2.length c1_2, .slice A1_3 l1_3.length c1_3, .string a1_4, .string a1_5]) (t := 28) ?hr ?_; (case hd => rfl); (case hg => rfl); (case hr => (go_simp; done)); intro gb372 hg w5 hbox hb; have n0_ := Sd.mk (blk_below (g := gb371) (o := .cells #[.int .i64 a0_0, .string a0_1, .slice A0_2 l0_2.length c0_2, .slice A0_3 l0_3.length c0_3, .string a0_4, .string a0_5] 28 (0, 0)) (by (with_reducible repeat (fail)); exact BK371.out) hb); have n1_ := Sd.mk (below_step (by repeat ((with_reducible (exact HB.out)))) hb); have n2_ := Sd.mk (hbox); have n3_ := Sd.mk ((by rw [hg]; exact (below_size (by repeat ((with_reducible (exact HB.out))))) : w.heap.size ≤ gb372)); have n4_ := Sd.mk ((by rw [hg]; exact (below_size (by repeat ((with_reducible (exact HB.out))))) : w.heap.size ≤ gb372)); have n5_ := Sd.mk ((by rw [hg]; exact Nat.ne_of_lt (blk_lt (g := gb371) (o := .cells #[.int .i64 a0_0, .string a0_1, .slice A0_2 l0_2.length c0_2, .slice A0_3 l0_3.length c0_3, .string a0_4, .string a0_5] 28 (0, 0)) (by (with_reducible repeat (fail)); exact BK371.out)) : gb371 ≠ gb372)); have n6_ := Sd.mk ((by rw [hg]; exact Nat.ne_of_gt (blk_lt (g := gb371) (o := .cells #[.int .i64 a0_0, .string a0_1, .slice A0_2 l0_2.length c0_2, .slice A0_3 l0_3.length c0_3, .string a0_4, .string a0_5] 28 (0, 0)) (by (with_reducible repeat (fail)); exact BK371.out)) : gb372 ≠ gb371)); clear BK371; clear HB; have BK371 := n0_; have HB := n1_; have BK372 := n2_; have GW372 := n3_; have GE372 := n4_; have NB371_372 := n5_; have NB372_371 := n6_; clear n0_ n1_ n2_ n3_ n4_ n5_ n6_; clear hb hbox hg; have hnb6 := NB371_372.out; have hnc6 := NB372_371.out; obtain ⟨hcz7_0, hcz7_1, hcz7_2, hcz7_3, hcz7_4, hcz7_5⟩ := bc6 BK371.out; obtain ⟨hfz7_0, hfz7_1, hfz7_2, hfz7_3, hfz7_4, hfz7_5⟩ := bf6 BK371.out; obtain ⟨hcz8_0, hcz8_1, hcz8_2, hcz8_3, hcz8_4, hcz8_5⟩ := bc6 BK372.out; obtain ⟨hfz8_0, hfz8_1, hfz8_2, hfz8_3, hfz8_4, hfz8_5⟩ := bf6 BK372.out) | ((with_reducible refine gate_callee (f := 127) rfl ?_); refine goesL_ (some 7) rfl rfl Tryz.func127 (by kernel_rfl) rfl #[.agg #[.int .i64 a0_0, .string a0_1, .slice A0_2 l0_2.length c0_2, .slice A0_3 l0_3.length c0_3, .string a0_4, .string a0_5], .agg #[.int .i64 a1_0, .string a1_1, .slice A1_2 l1_2.length c1_2, .slice A1_3 l1_3.length c1_3, .string a1_4, .string a1_5]] rfl (by (try simp only [List.map_toArray, List.map_cons, List.map_nil]); (rfl)) ?_; (with_reducible refine (r20_order.calls k a0_0 a0_1 _ _ l0_2 _ _ l0_3 a0_4 a0_5 a1_0 a1_1 _ _ l1_2 _ _ l1_3 a1_4 a1_5 t373 _ ?side1 ?side2 ?side3 ?side4 ?side5 ?side6 ?side7 ?side8 A3.out).mono ?_); (case side1 => repeat ((exact (Kd.C_below HR0_2.out HB.out)))); (case side2 => exact HC0_2.out); (case side3 => repeat ((exact (Kd.C_below HR0_3.out HB.out)))); (case side4 => exact HC0_3.out); (case side5 => repeat ((exact (Kd.C_below HR1_2.out HB.out)))); (case side6 => exact HC1_2.out); (case side7 => repeat ((exact (Kd.C_below HR1_3.out HB.out)))); (case side8 => exact HC1_3.out); rintro e w9 ⟨rfl, hb⟩; refine ⟨_, rfl, ?_⟩; have n0_ := Sd.mk (blk_below (g := gb371) (o := .cells #[.int .i64 a0_0, .string a0_1, .slice A0_2 l0_2.length c0_2, .slice A0_3 l0_3.length c0_3, .string a0_4, .string a0_5] 28 (0, 0)) (by (with_reducible repeat (fail)); exact BK371.out) hb); have n1_ := Sd.mk (blk_below (g := gb372) (o := .cells #[.int .i64 a1_0, .string a1_1, .slice A1_2 l1_2.length c1_2, .slice A1_3 l1_3.length c1_3, .string a1_4, .string a1_5] 28 (0, 0)) (by (with_reducible repeat (fail)); exact BK372.out) hb); have n2_ := Sd.mk (below_step (by repeat ((with_reducible (exact HB.out)))) hb); clear BK371; clear BK372; clear HB; have BK371 := n0_; have BK372 := n1_; have HB := n2_; clear n0_ n1_ n2_; (try clear hb); (try clear hb2); (try clear hk); (try clear hi)))
 go_ret
 exact ⟨by (rfl), by repeat ((with_reducible (exact HB.out)))⟩
def r22_newer.f (k : Nat) (l0 : List (S28)) (a1 : Int) (a2 : Int) : Option (Bool) := if 0 ≤ a1 then (if a1 < (l0.length : Int) then (if 0 ≤ a2 then (if a2 < (l0.length : Int) then ((r20_Same.f k ((rd_T28 l0 a1).f0) ((rd_T28 l0 a1).f1) ((rd_T28 l0 a1).f2) ((rd_T28 l0 a1).f3) ((rd_T28 l0 a1).f4) ((rd_T28 l0 a1).f5) ((rd_T28 l0 a2).f0) ((rd_T28 l0 a2).f1) ((rd_T28 l0 a2).f2) ((rd_T28 l0 a2).f3) ((rd_T28 l0 a2).f4) ((rd_T28 l0 a2).f5)).bind fun t376 => (if t376 = true then (some (decide (a1 > a2))) else ((r20_Less.f k ((rd_T28 l0 a2).f0) ((rd_T28 l0 a2).f1) ((rd_T28 l0 a2).f2) ((rd_T28 l0 a2).f3) ((rd_T28 l0 a2).f4) ((rd_T28 l0 a2).f5) ((rd_T28 l0 a1).f0) ((rd_T28 l0 a1).f1) ((rd_T28 l0 a1).f2) ((rd_T28 l0 a1).f3) ((rd_T28 l0 a1).f4) ((rd_T28 l0 a1).f5)).bind fun t379 => (some t379)))) else (none)) else (none)) else (none)) else (none)
def r22_newer.T1 : Bool × List (List Nat × List Nat) := (true, [([], []), ([], []), ([0, 1], [0, 1]), ([2], [2]), ([], []), ([], []), ([4, 5], [4, 5]), ([6], [6]), ([3, 7], [3, 7])])
def r22_newer.B1 : List Nat := [0, 0, 3, 7, 0, 0, 48, 112, 255]
theorem r22_newer.tab1 : rtab .any (opsOf Tryz.f89 1) = r22_newer.T1 := by kernel_rfl
theorem r22_newer.bits1 : waitsOk r22_newer.T1.2 r22_newer.B1 = true := by kernel_rfl
def r22_newer.T3 : Bool × List (List Nat × List Nat) := (true, [([], []), ([], []), ([0, 1], [0, 1]), ([2], [2]), ([], []), ([], []), ([4, 5], [4, 5]), ([6], [6]), ([3, 7], [3, 7]), ([8, 8, 0, 1, 2, 3, 4, 5, 6, 7, 8], [8])])
def r22_newer.B3 : List Nat := [0, 0, 3, 7, 0, 0, 48, 112, 255, 511]
theorem r22_newer.tab3 : rtab .any (opsOf Tryz.f89 3) = r22_newer.T3 := by kernel_rfl
theorem r22_newer.bits3 : waitsOk r22_newer.T3.2 r22_newer.B3 = true := by kernel_rfl
theorem r22_newer.calls (k : Nat) (A0 : Option Addr) (c0 : Nat) (l0 : List (S28)) (a1 : Int) (a2 : Int) (r : Bool) (w : World) (hr0 : Kd.C k28 w A0 l0.length l0) (hc0 : l0.length ≤ c0) (h : r22_newer.f k l0 a1 a2 = some r) :
  Calls Tryz.prog 89 #[.slice A0 l0.length c0, .int .i64 a1, .int .i64 a2] w fun e w' => e = .returned (.bool r) ∧ Below w.heap.size w w' := by
 have hu28 := Tryz.underlying28
 have HR0 := Sd.mk hr0
 have HC0 := Sd.mk hc0
 clear hr0 hc0
 have HB := Sd.mk (Below.refl w.heap.size w)
 have H : (if 0 ≤ a1 then (if a1 < (l0.length : Int) then (if 0 ≤ a2 then (if a2 < (l0.length : Int) then ((r20_Same.f k ((rd_T28 l0 a1).f0) ((rd_T28 l0 a1).f1) ((rd_T28 l0 a1).f2) ((rd_T28 l0 a1).f3) ((rd_T28 l0 a1).f4) ((rd_T28 l0 a1).f5) ((rd_T28 l0 a2).f0) ((rd_T28 l0 a2).f1) ((rd_T28 l0 a2).f2) ((rd_T28 l0 a2).f3) ((rd_T28 l0 a2).f4) ((rd_T28 l0 a2).f5)).bind fun t376 => (if t376 = true then (some (decide (a1 > a2))) else ((r20_Less.f k ((rd_T28 l0 a2).f0) ((rd_T28 l0 a2).f1) ((rd_T28 l0 a2).f2) ((rd_T28 l0 a2).f3) ((rd_T28 l0 a2).f4) ((rd_T28 l0 a2).f5) ((rd_T28 l0 a1).f0) ((rd_T28 l0 a1).f1) ((rd_T28 l0 a1).f2) ((rd_T28 l0 a1).f3) ((rd_T28 l0 a1).f4) ((rd_T28 l0 a1).f5)).bind fun t379 => (some t379)))) else (none)) else (none)) else (none)) else (none)) = some r := h
 clear h
 by_cases c4 : 0 ≤ a1
 ·rw [if_pos c4] at H
  have c4b0 : decide (0 ≤ a1) = true := decide_eq_true c4
  clear c4
  by_cases c5 : a1 < (l0.length : Int)
  ·rw [if_pos c5] at H
   have c5b0 : decide (a1 < (l0.length : Int)) = true := decide_eq_true c5
   clear c5
   by_cases c6 : 0 ≤ a2
   ·rw [if_pos c6] at H
    have c6b0 : decide (0 ≤ a2) = true := decide_eq_true c6
    clear c6
    by_cases c7 : a2 < (l0.length : Int)
    ·rw [if_pos c7] at H
     have c7b0 : decide (a2 < (l0.length : Int)) = true := decide_eq_true c7
     clear c7
     replace H := Option.bind_eq_some_iff.mp H
     obtain ⟨t376, A80, H⟩ := H
     replace H : (if t376 = true then (some (decide (a1 > a2))) else ((r20_Less.f k ((rd_T28 l0 a2).f0) ((rd_T28 l0 a2).f1) ((rd_T28 l0 a2).f2) ((rd_T28 l0 a2).f3) ((rd_T28 l0 a2).f4) ((rd_T28 l0 a2).f5) ((rd_T28 l0 a1).f0) ((rd_T28 l0 a1).f1) ((rd_T28 l0 a1).f2) ((rd_T28 l0 a1).f3) ((rd_T28 l0 a1).f4) ((rd_T28 l0 a1).f5)).bind fun t379 => (some t379))) = some r := H
     have A8 := Sd.mk A80
     clear A80
     by_cases c9 : t376 = true
     ·subst c9
      have H1 : (some (decide (a1 > a2))) = some r := by rw [if_pos rfl] at H; exact H
      clear H
      have H := H1
      clear H1
      obtain rfl := Option.some.inj H
      go_enter Tryz.func89, Tryz.ntmps89
      try go_wp2
      have n0_ := Sd.mk (below_drew1 HB.out)
      clear HB
      have HB := n0_
      clear n0_
      have p374 : 0 ≤ (a1 : Int) := odt (by (with_reducible assumption))
      have q374 : a1 < (l0.length : Int) := odt (by (with_reducible assumption))
      obtain ⟨ad374, A374_2, c374_2, A374_3, c374_3, e374, hx374_0, hx374_1, hx374_2, hx374_3, hx374_4, hx374_5, hl374_2, hi374_2, hl374_3, hi374_3⟩ := at_T28 HR0.out a1 p374 q374
      have hw374_5 := hx374_5
      have hw374_4 := hx374_4
      have hw374_3 := hx374_3
      have hw374_2 := hx374_2
      have hw374_1 := hx374_1
      have hw374_0 := hx374_0
      cases e374
      replace hx374_0 := cb HB.out hx374_0
      replace hx374_1 := cb HB.out hx374_1
      replace hx374_2 := cb HB.out hx374_2
      replace hx374_3 := cb HB.out hx374_3
      replace hx374_4 := cb HB.out hx374_4
      replace hx374_5 := cb HB.out hx374_5
      have HR374_2 := Sd.mk hi374_2
      have HC374_2 := Sd.mk hl374_2
      clear hi374_2 hl374_2
      have HR374_3 := Sd.mk hi374_3
      have HC374_3 := Sd.mk hl374_3
      clear hi374_3 hl374_3
      replace p374 := eq_true p374
      replace q374 := eq_true q374
      have p375 : 0 ≤ (a2 : Int) := odt (by (with_reducible assumption))
      have q375 : a2 < (l0.length : Int) := odt (by (with_reducible assumption))
      obtain ⟨ad375, A375_2, c375_2, A375_3, c375_3, e375, hx375_0, hx375_1, hx375_2, hx375_3, hx375_4, hx375_5, hl375_2, hi375_2, hl375_3, hi375_3⟩ := at_T28 HR0.out a2 p375 q375
      have hw375_5 := hx375_5
      have hw375_4 := hx375_4
      have hw375_3 := hx375_3
      have hw375_2 := hx375_2
      have hw375_1 := hx375_1
      have hw375_0 := hx375_0
      obtain rfl : ad374 = ad375 := (by injection e375)
      replace hx375_0 := cb HB.out hx375_0
      replace hx375_1 := cb HB.out hx375_1
      replace hx375_2 := cb HB.out hx375_2
      replace hx375_3 := cb HB.out hx375_3
      replace hx375_4 := cb HB.out hx375_4
      replace hx375_5 := cb HB.out hx375_5
      have HR375_2 := Sd.mk hi375_2
      have HC375_2 := Sd.mk hl375_2
      clear hi375_2 hl375_2
      have HR375_3 := Sd.mk hi375_3
      have HC375_3 := Sd.mk hl375_3
      clear hi375_3 hl375_3
      replace p375 := eq_true p375
      replace q375 := eq_true q375
      refine start_ (n := 9) (S := fun w' => w'.cell? (ad374.add ((a1).toNat * 6)) = some (.int .i64 ((rd_T28 l0 a1).f0)) ∧ w'.cell? ⟨(ad374.add ((a1).toNat * 6)).block, (ad374.add ((a1).toNat * 6)).off + 1, none⟩ = some (.string ((rd_T28 l0 a1).f1)) ∧ w'.cell? ⟨(ad374.add ((a1).toNat * 6)).block, (ad374.add ((a1).toNat * 6)).off + 2, none⟩ = some (.slice A374_2 ((rd_T28 l0 a1).f2).length c374_2) ∧ w'.cell? ⟨(ad374.add ((a1).toNat * 6)).block, (ad374.add ((a1).toNat * 6)).off + 3, none⟩ = some (.slice A374_3 ((rd_T28 l0 a1).f3).length c374_3) ∧ w'.cell? ⟨(ad374.add ((a1).toNat * 6)).block, (ad374.add ((a1).toNat * 6)).off + 4, none⟩ = some (.string ((rd_T28 l0 a1).f4)) ∧ w'.cell? ⟨(ad374.add ((a1).toNat * 6)).block, (ad374.add ((a1).toNat * 6)).off + 5, none⟩ = some (.string ((rd_T28 l0 a1).f5)) ∧ w'.cell? (ad374.add ((a2).toNat * 6)) = some (.int .i64 ((rd_T28 l0 a2).f0)) ∧ w'.cell? ⟨(ad374.add ((a2).toNat * 6)).block, (ad374.add ((a2).toNat * 6)).off + 1, none⟩ = some (.string ((rd_T28 l0 a2).f1)) ∧ w'.cell? ⟨(ad374.add ((a2).toNat * 6)).block, (ad374.add ((a2).toNat * 6)).off + 2, none⟩ = some (.slice A375_2 ((rd_T28 l0 a2).f2).length c375_2) ∧ w'.cell? ⟨(ad374.add ((a2).toNat * 6)).block, (ad374.add ((a2).toNat * 6)).off + 3, none⟩ = some (.slice A375_3 ((rd_T28 l0 a2).f3).length c375_3) ∧ w'.cell? ⟨(ad374.add ((a2).toNat * 6)).block, (ad374.add ((a2).toNat * 6)).off + 4, none⟩ = some (.string ((rd_T28 l0 a2).f4)) ∧ w'.cell? ⟨(ad374.add ((a2).toNat * 6)).block, (ad374.add ((a2).toNat * 6)).off + 5, none⟩ = some (.string ((rd_T28 l0 a2).f5))) (ds := []) (bz 9 0) (by kernel_rfl) rfl rfl ⟨(cb HB.out hw374_0), (cb HB.out hw374_1), (cb HB.out hw374_2), (cb HB.out hw374_3), (cb HB.out hw374_4), (cb HB.out hw374_5), (cb HB.out hw375_0), (cb HB.out hw375_1), (cb HB.out hw375_2), (cb HB.out hw375_3), (cb HB.out hw375_4), (cb HB.out hw375_5)⟩ (fun hHeld => ?_); refine with_tabW r22_newer.tab1 r22_newer.bits1 (fun HT_ HW_ => ?_)
      generalize w.drew = w10 at HB HR374_2 HR374_3 HR375_2 HR375_3 hx374_0 hx374_1 hx374_2 hx374_3 hx374_4 hx374_5 hx375_0 hx375_1 hx375_2 hx375_3 hx375_4 hx375_5 hHeld ⊢
      refine pu_ 0 7 (bz 9 1) (any_of HT_.out (by kernel_rfl)) ?_
      refine pu_ 1 8 (bz 9 3) (any_of HT_.out (by kernel_rfl)) ?_
      refine pu_ 2 9 (bz 9 7) (any_of HT_.out (by kernel_rfl)) ?_
      refine pu_ 4 11 (bz 9 23) (any_of HT_.out (by kernel_rfl)) ?_
      refine pu_ 5 12 (bz 9 55) (any_of HT_.out (by kernel_rfl)) ?_
      refine pu_ 6 13 (bz 9 119) (any_of HT_.out (by kernel_rfl)) ?_
      refine ta_ 3 10 (bz 9 127) (take_ofW HT_.out HW_.out (by kernel_rfl)) hHeld ?_
      refine ta_ 7 14 (bz 9 255) (take_ofW HT_.out HW_.out (by kernel_rfl)) hHeld ?_
      refine one_ (i := 8) (N := some 15) (bz 9 511) rfl rfl (one_of HT_.out (by kernel_rfl)) (by decide) (fun K hK => ?_)
      refine goes_ Tryz.func111 (by kernel_rfl) rfl #[.agg #[.int .i64 ((rd_T28 l0 a1).f0), .string ((rd_T28 l0 a1).f1), .slice A374_2 ((rd_T28 l0 a1).f2).length c374_2, .slice A374_3 ((rd_T28 l0 a1).f3).length c374_3, .string ((rd_T28 l0 a1).f4), .string ((rd_T28 l0 a1).f5)], .agg #[.int .i64 ((rd_T28 l0 a2).f0), .string ((rd_T28 l0 a2).f1), .slice A375_2 ((rd_T28 l0 a2).f2).length c375_2, .slice A375_3 ((rd_T28 l0 a2).f3).length c375_3, .string ((rd_T28 l0 a2).f4), .string ((rd_T28 l0 a2).f5)]] (by rfl) rfl rfl (by (try simp only [List.map_toArray, List.map_cons, List.map_nil]); (rfl)) ?_
      with_reducible refine (r20_Same.calls k ((rd_T28 l0 a1).f0) ((rd_T28 l0 a1).f1) _ _ ((rd_T28 l0 a1).f2) _ _ ((rd_T28 l0 a1).f3) ((rd_T28 l0 a1).f4) ((rd_T28 l0 a1).f5) ((rd_T28 l0 a2).f0) ((rd_T28 l0 a2).f1) _ _ ((rd_T28 l0 a2).f2) _ _ ((rd_T28 l0 a2).f3) ((rd_T28 l0 a2).f4) ((rd_T28 l0 a2).f5) true _ ?side1 ?side2 ?side3 ?side4 ?side5 ?side6 ?side7 ?side8 A8.out).mono ?_
      (case side1 => repeat ((exact (Kd.C_below HR374_2.out HB.out))))
      (case side2 => exact HC374_2.out)
      (case side3 => repeat ((exact (Kd.C_below HR374_3.out HB.out))))
      (case side4 => exact HC374_3.out)
      (case side5 => repeat ((exact (Kd.C_below HR375_2.out HB.out))))
      (case side6 => exact HC375_2.out)
      (case side7 => repeat ((exact (Kd.C_below HR375_3.out HB.out))))
      (case side8 => exact HC375_3.out)
      rintro e w11 ⟨rfl, hb⟩
      refine ⟨_, rfl, ?_⟩
      have n0_ := Sd.mk (below_step (by repeat ((with_reducible (exact HB.out)))) hb)
      clear HB
      have HB := n0_
      clear n0_
      (try clear hb)
      (try clear hb2)
      (try clear hk)
      (try clear hi)
      refine hK.out _ _ ⟨(cb HB.out hw374_0), (cb HB.out hw374_1), (cb HB.out hw374_2), (cb HB.out hw374_3), (cb HB.out hw374_4), (cb HB.out hw374_5), (cb HB.out hw375_0), (cb HB.out hw375_1), (cb HB.out hw375_2), (cb HB.out hw375_3), (cb HB.out hw375_4), (cb HB.out hw375_5)⟩ (fun hHeld => ?_)
      clear hK K
      refine norm_ (a' := ?_) ?_ ?_
      rotate_left
      ·show Act.put _ (some 15) _ = _
       simp only [Act.put, List.setIfInBounds_toArray, List.set_cons_zero, List.set_cons_succ, i64_w, i32_w]
       rfl
      refine done_ (done_of HT_.out (by kernel_rfl)) ?_
      (try simp only [wrap64_u8w, wrap64_m256])
      try go_wp2
      go_ret
      exact ⟨by (rfl), by repeat ((with_reducible (exact HB.out)))⟩
     ·replace c9 := Bool.eq_false_iff.mpr c9
      subst c9
      have H1 : ((r20_Less.f k ((rd_T28 l0 a2).f0) ((rd_T28 l0 a2).f1) ((rd_T28 l0 a2).f2) ((rd_T28 l0 a2).f3) ((rd_T28 l0 a2).f4) ((rd_T28 l0 a2).f5) ((rd_T28 l0 a1).f0) ((rd_T28 l0 a1).f1) ((rd_T28 l0 a1).f2) ((rd_T28 l0 a1).f3) ((rd_T28 l0 a1).f4) ((rd_T28 l0 a1).f5)).bind fun t379 => (some t379)) = some r := by rw [if_neg (show ¬ (false = true) by decide)] at H; exact H
      clear H
      have H := H1
      clear H1
      replace H := Option.bind_eq_some_iff.mp H
      obtain ⟨t379, A120, H⟩ := H
      replace H : (some t379) = some r := H
      have A12 := Sd.mk A120
      clear A120
      obtain rfl := Option.some.inj H
      go_enter Tryz.func89, Tryz.ntmps89
      try go_wp2
      have n0_ := Sd.mk (below_drew1 HB.out)
      clear HB
      have HB := n0_
      clear n0_
      have p374 : 0 ≤ (a1 : Int) := odt (by (with_reducible assumption))
      have q374 : a1 < (l0.length : Int) := odt (by (with_reducible assumption))
      obtain ⟨ad374, A374_2, c374_2, A374_3, c374_3, e374, hx374_0, hx374_1, hx374_2, hx374_3, hx374_4, hx374_5, hl374_2, hi374_2, hl374_3, hi374_3⟩ := at_T28 HR0.out a1 p374 q374
      have hw374_5 := hx374_5
      have hw374_4 := hx374_4
      have hw374_3 := hx374_3
      have hw374_2 := hx374_2
      have hw374_1 := hx374_1
      have hw374_0 := hx374_0
      cases e374
      replace hx374_0 := cb HB.out hx374_0
      replace hx374_1 := cb HB.out hx374_1
      replace hx374_2 := cb HB.out hx374_2
      replace hx374_3 := cb HB.out hx374_3
      replace hx374_4 := cb HB.out hx374_4
      replace hx374_5 := cb HB.out hx374_5
      have HR374_2 := Sd.mk hi374_2
      have HC374_2 := Sd.mk hl374_2
      clear hi374_2 hl374_2
      have HR374_3 := Sd.mk hi374_3
      have HC374_3 := Sd.mk hl374_3
      clear hi374_3 hl374_3
      replace p374 := eq_true p374
      replace q374 := eq_true q374
      have p375 : 0 ≤ (a2 : Int) := odt (by (with_reducible assumption))
      have q375 : a2 < (l0.length : Int) := odt (by (with_reducible assumption))
      obtain ⟨ad375, A375_2, c375_2, A375_3, c375_3, e375, hx375_0, hx375_1, hx375_2, hx375_3, hx375_4, hx375_5, hl375_2, hi375_2, hl375_3, hi375_3⟩ := at_T28 HR0.out a2 p375 q375
      have hw375_5 := hx375_5
      have hw375_4 := hx375_4
      have hw375_3 := hx375_3
      have hw375_2 := hx375_2
      have hw375_1 := hx375_1
      have hw375_0 := hx375_0
      obtain rfl : ad374 = ad375 := (by injection e375)
      replace hx375_0 := cb HB.out hx375_0
      replace hx375_1 := cb HB.out hx375_1
      replace hx375_2 := cb HB.out hx375_2
      replace hx375_3 := cb HB.out hx375_3
      replace hx375_4 := cb HB.out hx375_4
      replace hx375_5 := cb HB.out hx375_5
      have HR375_2 := Sd.mk hi375_2
      have HC375_2 := Sd.mk hl375_2
      clear hi375_2 hl375_2
      have HR375_3 := Sd.mk hi375_3
      have HC375_3 := Sd.mk hl375_3
      clear hi375_3 hl375_3
      replace p375 := eq_true p375
      replace q375 := eq_true q375
      refine start_ (n := 9) (S := fun w' => w'.cell? (ad374.add ((a1).toNat * 6)) = some (.int .i64 ((rd_T28 l0 a1).f0)) ∧ w'.cell? ⟨(ad374.add ((a1).toNat * 6)).block, (ad374.add ((a1).toNat * 6)).off + 1, none⟩ = some (.string ((rd_T28 l0 a1).f1)) ∧ w'.cell? ⟨(ad374.add ((a1).toNat * 6)).block, (ad374.add ((a1).toNat * 6)).off + 2, none⟩ = some (.slice A374_2 ((rd_T28 l0 a1).f2).length c374_2) ∧ w'.cell? ⟨(ad374.add ((a1).toNat * 6)).block, (ad374.add ((a1).toNat * 6)).off + 3, none⟩ = some (.slice A374_3 ((rd_T28 l0 a1).f3).length c374_3) ∧ w'.cell? ⟨(ad374.add ((a1).toNat * 6)).block, (ad374.add ((a1).toNat * 6)).off + 4, none⟩ = some (.string ((rd_T28 l0 a1).f4)) ∧ w'.cell? ⟨(ad374.add ((a1).toNat * 6)).block, (ad374.add ((a1).toNat * 6)).off + 5, none⟩ = some (.string ((rd_T28 l0 a1).f5)) ∧ w'.cell? (ad374.add ((a2).toNat * 6)) = some (.int .i64 ((rd_T28 l0 a2).f0)) ∧ w'.cell? ⟨(ad374.add ((a2).toNat * 6)).block, (ad374.add ((a2).toNat * 6)).off + 1, none⟩ = some (.string ((rd_T28 l0 a2).f1)) ∧ w'.cell? ⟨(ad374.add ((a2).toNat * 6)).block, (ad374.add ((a2).toNat * 6)).off + 2, none⟩ = some (.slice A375_2 ((rd_T28 l0 a2).f2).length c375_2) ∧ w'.cell? ⟨(ad374.add ((a2).toNat * 6)).block, (ad374.add ((a2).toNat * 6)).off + 3, none⟩ = some (.slice A375_3 ((rd_T28 l0 a2).f3).length c375_3) ∧ w'.cell? ⟨(ad374.add ((a2).toNat * 6)).block, (ad374.add ((a2).toNat * 6)).off + 4, none⟩ = some (.string ((rd_T28 l0 a2).f4)) ∧ w'.cell? ⟨(ad374.add ((a2).toNat * 6)).block, (ad374.add ((a2).toNat * 6)).off + 5, none⟩ = some (.string ((rd_T28 l0 a2).f5))) (ds := []) (bz 9 0) (by kernel_rfl) rfl rfl ⟨(cb HB.out hw374_0), (cb HB.out hw374_1), (cb HB.out hw374_2), (cb HB.out hw374_3), (cb HB.out hw374_4), (cb HB.out hw374_5), (cb HB.out hw375_0), (cb HB.out hw375_1), (cb HB.out hw375_2), (cb HB.out hw375_3), (cb HB.out hw375_4), (cb HB.out hw375_5)⟩ (fun hHeld => ?_); refine with_tabW r22_newer.tab1 r22_newer.bits1 (fun HT_ HW_ => ?_)
      generalize w.drew = w13 at HB HR374_2 HR374_3 HR375_2 HR375_3 hx374_0 hx374_1 hx374_2 hx374_3 hx374_4 hx374_5 hx375_0 hx375_1 hx375_2 hx375_3 hx375_4 hx375_5 hHeld ⊢
      refine pu_ 0 7 (bz 9 1) (any_of HT_.out (by kernel_rfl)) ?_
      refine pu_ 1 8 (bz 9 3) (any_of HT_.out (by kernel_rfl)) ?_
      refine pu_ 2 9 (bz 9 7) (any_of HT_.out (by kernel_rfl)) ?_
      refine pu_ 4 11 (bz 9 23) (any_of HT_.out (by kernel_rfl)) ?_
      refine pu_ 5 12 (bz 9 55) (any_of HT_.out (by kernel_rfl)) ?_
      refine pu_ 6 13 (bz 9 119) (any_of HT_.out (by kernel_rfl)) ?_
      refine ta_ 3 10 (bz 9 127) (take_ofW HT_.out HW_.out (by kernel_rfl)) hHeld ?_
      refine ta_ 7 14 (bz 9 255) (take_ofW HT_.out HW_.out (by kernel_rfl)) hHeld ?_
      refine one_ (i := 8) (N := some 15) (bz 9 511) rfl rfl (one_of HT_.out (by kernel_rfl)) (by decide) (fun K hK => ?_)
      refine goes_ Tryz.func111 (by kernel_rfl) rfl #[.agg #[.int .i64 ((rd_T28 l0 a1).f0), .string ((rd_T28 l0 a1).f1), .slice A374_2 ((rd_T28 l0 a1).f2).length c374_2, .slice A374_3 ((rd_T28 l0 a1).f3).length c374_3, .string ((rd_T28 l0 a1).f4), .string ((rd_T28 l0 a1).f5)], .agg #[.int .i64 ((rd_T28 l0 a2).f0), .string ((rd_T28 l0 a2).f1), .slice A375_2 ((rd_T28 l0 a2).f2).length c375_2, .slice A375_3 ((rd_T28 l0 a2).f3).length c375_3, .string ((rd_T28 l0 a2).f4), .string ((rd_T28 l0 a2).f5)]] (by rfl) rfl rfl (by (try simp only [List.map_toArray, List.map_cons, List.map_nil]); (rfl)) ?_
      with_reducible refine (r20_Same.calls k ((rd_T28 l0 a1).f0) ((rd_T28 l0 a1).f1) _ _ ((rd_T28 l0 a1).f2) _ _ ((rd_T28 l0 a1).f3) ((rd_T28 l0 a1).f4) ((rd_T28 l0 a1).f5) ((rd_T28 l0 a2).f0) ((rd_T28 l0 a2).f1) _ _ ((rd_T28 l0 a2).f2) _ _ ((rd_T28 l0 a2).f3) ((rd_T28 l0 a2).f4) ((rd_T28 l0 a2).f5) false _ ?side1 ?side2 ?side3 ?side4 ?side5 ?side6 ?side7 ?side8 A8.out).mono ?_
      (case side1 => repeat ((exact (Kd.C_below HR374_2.out HB.out))))
      (case side2 => exact HC374_2.out)
      (case side3 => repeat ((exact (Kd.C_below HR374_3.out HB.out))))
      (case side4 => exact HC374_3.out)
      (case side5 => repeat ((exact (Kd.C_below HR375_2.out HB.out))))
      (case side6 => exact HC375_2.out)
      (case side7 => repeat ((exact (Kd.C_below HR375_3.out HB.out))))
      (case side8 => exact HC375_3.out)
      rintro e w14 ⟨rfl, hb⟩
      refine ⟨_, rfl, ?_⟩
      have n0_ := Sd.mk (below_step (by repeat ((with_reducible (exact HB.out)))) hb)
      clear HB
      have HB := n0_
      clear n0_
      (try clear hb)
      (try clear hb2)
      (try clear hk)
      (try clear hi)
      refine hK.out _ _ ⟨(cb HB.out hw374_0), (cb HB.out hw374_1), (cb HB.out hw374_2), (cb HB.out hw374_3), (cb HB.out hw374_4), (cb HB.out hw374_5), (cb HB.out hw375_0), (cb HB.out hw375_1), (cb HB.out hw375_2), (cb HB.out hw375_3), (cb HB.out hw375_4), (cb HB.out hw375_5)⟩ (fun hHeld => ?_)
      clear hK K
      refine norm_ (a' := ?_) ?_ ?_
      rotate_left
      ·show Act.put _ (some 15) _ = _
       simp only [Act.put, List.setIfInBounds_toArray, List.set_cons_zero, List.set_cons_succ, i64_w, i32_w]
       rfl
      refine done_ (done_of HT_.out (by kernel_rfl)) ?_
      (try simp only [wrap64_u8w, wrap64_m256])
      try go_wp2
      have n0_ := Sd.mk (below_drew1 HB.out)
      clear HB
      have HB := n0_
      clear n0_
      have p377 : 0 ≤ (a2 : Int) := odt (by (with_reducible assumption))
      have q377 : a2 < (l0.length : Int) := odt (by (with_reducible assumption))
      obtain ⟨ad377, A377_2, c377_2, A377_3, c377_3, e377, hx377_0, hx377_1, hx377_2, hx377_3, hx377_4, hx377_5, hl377_2, hi377_2, hl377_3, hi377_3⟩ := at_T28 HR0.out a2 p377 q377
      have hw377_5 := hx377_5
      have hw377_4 := hx377_4
      have hw377_3 := hx377_3
      have hw377_2 := hx377_2
      have hw377_1 := hx377_1
      have hw377_0 := hx377_0
      obtain rfl : ad374 = ad377 := (by injection e377)
      replace hx377_0 := cb HB.out hx377_0
      replace hx377_1 := cb HB.out hx377_1
      replace hx377_2 := cb HB.out hx377_2
      replace hx377_3 := cb HB.out hx377_3
      replace hx377_4 := cb HB.out hx377_4
      replace hx377_5 := cb HB.out hx377_5
      have HR377_2 := Sd.mk hi377_2
      have HC377_2 := Sd.mk hl377_2
      clear hi377_2 hl377_2
      have HR377_3 := Sd.mk hi377_3
      have HC377_3 := Sd.mk hl377_3
      clear hi377_3 hl377_3
      replace p377 := eq_true p377
      replace q377 := eq_true q377
      have p378 : 0 ≤ (a1 : Int) := odt (by (with_reducible assumption))
      have q378 : a1 < (l0.length : Int) := odt (by (with_reducible assumption))
      obtain ⟨ad378, A378_2, c378_2, A378_3, c378_3, e378, hx378_0, hx378_1, hx378_2, hx378_3, hx378_4, hx378_5, hl378_2, hi378_2, hl378_3, hi378_3⟩ := at_T28 HR0.out a1 p378 q378
      have hw378_5 := hx378_5
      have hw378_4 := hx378_4
      have hw378_3 := hx378_3
      have hw378_2 := hx378_2
      have hw378_1 := hx378_1
      have hw378_0 := hx378_0
      obtain rfl : ad374 = ad378 := (by injection e378)
      replace hx378_0 := cb HB.out hx378_0
      replace hx378_1 := cb HB.out hx378_1
      replace hx378_2 := cb HB.out hx378_2
      replace hx378_3 := cb HB.out hx378_3
      replace hx378_4 := cb HB.out hx378_4
      replace hx378_5 := cb HB.out hx378_5
      have HR378_2 := Sd.mk hi378_2
      have HC378_2 := Sd.mk hl378_2
      clear hi378_2 hl378_2
      have HR378_3 := Sd.mk hi378_3
      have HC378_3 := Sd.mk hl378_3
      clear hi378_3 hl378_3
      replace p378 := eq_true p378
      replace q378 := eq_true q378
      refine start_ (n := 10) (S := fun w' => w'.cell? (ad374.add ((a2).toNat * 6)) = some (.int .i64 ((rd_T28 l0 a2).f0)) ∧ w'.cell? ⟨(ad374.add ((a2).toNat * 6)).block, (ad374.add ((a2).toNat * 6)).off + 1, none⟩ = some (.string ((rd_T28 l0 a2).f1)) ∧ w'.cell? ⟨(ad374.add ((a2).toNat * 6)).block, (ad374.add ((a2).toNat * 6)).off + 2, none⟩ = some (.slice A377_2 ((rd_T28 l0 a2).f2).length c377_2) ∧ w'.cell? ⟨(ad374.add ((a2).toNat * 6)).block, (ad374.add ((a2).toNat * 6)).off + 3, none⟩ = some (.slice A377_3 ((rd_T28 l0 a2).f3).length c377_3) ∧ w'.cell? ⟨(ad374.add ((a2).toNat * 6)).block, (ad374.add ((a2).toNat * 6)).off + 4, none⟩ = some (.string ((rd_T28 l0 a2).f4)) ∧ w'.cell? ⟨(ad374.add ((a2).toNat * 6)).block, (ad374.add ((a2).toNat * 6)).off + 5, none⟩ = some (.string ((rd_T28 l0 a2).f5)) ∧ w'.cell? (ad374.add ((a1).toNat * 6)) = some (.int .i64 ((rd_T28 l0 a1).f0)) ∧ w'.cell? ⟨(ad374.add ((a1).toNat * 6)).block, (ad374.add ((a1).toNat * 6)).off + 1, none⟩ = some (.string ((rd_T28 l0 a1).f1)) ∧ w'.cell? ⟨(ad374.add ((a1).toNat * 6)).block, (ad374.add ((a1).toNat * 6)).off + 2, none⟩ = some (.slice A378_2 ((rd_T28 l0 a1).f2).length c378_2) ∧ w'.cell? ⟨(ad374.add ((a1).toNat * 6)).block, (ad374.add ((a1).toNat * 6)).off + 3, none⟩ = some (.slice A378_3 ((rd_T28 l0 a1).f3).length c378_3) ∧ w'.cell? ⟨(ad374.add ((a1).toNat * 6)).block, (ad374.add ((a1).toNat * 6)).off + 4, none⟩ = some (.string ((rd_T28 l0 a1).f4)) ∧ w'.cell? ⟨(ad374.add ((a1).toNat * 6)).block, (ad374.add ((a1).toNat * 6)).off + 5, none⟩ = some (.string ((rd_T28 l0 a1).f5))) (ds := []) (bz 10 0) (by kernel_rfl) rfl rfl ⟨(cb HB.out hw377_0), (cb HB.out hw377_1), (cb HB.out hw377_2), (cb HB.out hw377_3), (cb HB.out hw377_4), (cb HB.out hw377_5), (cb HB.out hw378_0), (cb HB.out hw378_1), (cb HB.out hw378_2), (cb HB.out hw378_3), (cb HB.out hw378_4), (cb HB.out hw378_5)⟩ (fun hHeld => ?_); refine with_tabW r22_newer.tab3 r22_newer.bits3 (fun HT_ HW_ => ?_)
      generalize w14.drew = w15 at HB HR377_2 HR377_3 HR378_2 HR378_3 hx377_0 hx377_1 hx377_2 hx377_3 hx377_4 hx377_5 hx378_0 hx378_1 hx378_2 hx378_3 hx378_4 hx378_5 hHeld ⊢
      refine pu_ 0 19 (bz 10 1) (any_of HT_.out (by kernel_rfl)) ?_
      refine pu_ 1 20 (bz 10 3) (any_of HT_.out (by kernel_rfl)) ?_
      refine pu_ 2 21 (bz 10 7) (any_of HT_.out (by kernel_rfl)) ?_
      refine pu_ 4 23 (bz 10 23) (any_of HT_.out (by kernel_rfl)) ?_
      refine pu_ 5 24 (bz 10 55) (any_of HT_.out (by kernel_rfl)) ?_
      refine pu_ 6 25 (bz 10 119) (any_of HT_.out (by kernel_rfl)) ?_
      refine ta_ 3 22 (bz 10 127) (take_ofW HT_.out HW_.out (by kernel_rfl)) hHeld ?_
      refine ta_ 7 26 (bz 10 255) (take_ofW HT_.out HW_.out (by kernel_rfl)) hHeld ?_
      refine one_ (i := 8) (N := some 27) (bz 10 511) rfl rfl (one_of HT_.out (by kernel_rfl)) (by decide) (fun K hK => ?_)
      refine goes_ Tryz.func112 (by kernel_rfl) rfl #[.agg #[.int .i64 ((rd_T28 l0 a2).f0), .string ((rd_T28 l0 a2).f1), .slice A377_2 ((rd_T28 l0 a2).f2).length c377_2, .slice A377_3 ((rd_T28 l0 a2).f3).length c377_3, .string ((rd_T28 l0 a2).f4), .string ((rd_T28 l0 a2).f5)], .agg #[.int .i64 ((rd_T28 l0 a1).f0), .string ((rd_T28 l0 a1).f1), .slice A378_2 ((rd_T28 l0 a1).f2).length c378_2, .slice A378_3 ((rd_T28 l0 a1).f3).length c378_3, .string ((rd_T28 l0 a1).f4), .string ((rd_T28 l0 a1).f5)]] (by rfl) rfl rfl (by (try simp only [List.map_toArray, List.map_cons, List.map_nil]); (rfl)) ?_
      with_reducible refine (r20_Less.calls k ((rd_T28 l0 a2).f0) ((rd_T28 l0 a2).f1) _ _ ((rd_T28 l0 a2).f2) _ _ ((rd_T28 l0 a2).f3) ((rd_T28 l0 a2).f4) ((rd_T28 l0 a2).f5) ((rd_T28 l0 a1).f0) ((rd_T28 l0 a1).f1) _ _ ((rd_T28 l0 a1).f2) _ _ ((rd_T28 l0 a1).f3) ((rd_T28 l0 a1).f4) ((rd_T28 l0 a1).f5) t379 _ ?side1 ?side2 ?side3 ?side4 ?side5 ?side6 ?side7 ?side8 A12.out).mono ?_
      (case side1 => repeat ((exact (Kd.C_below HR377_2.out HB.out))))
      (case side2 => exact HC377_2.out)
      (case side3 => repeat ((exact (Kd.C_below HR377_3.out HB.out))))
      (case side4 => exact HC377_3.out)
      (case side5 => repeat ((exact (Kd.C_below HR378_2.out HB.out))))
      (case side6 => exact HC378_2.out)
      (case side7 => repeat ((exact (Kd.C_below HR378_3.out HB.out))))
      (case side8 => exact HC378_3.out)
      rintro e w16 ⟨rfl, hb⟩
      refine ⟨_, rfl, ?_⟩
      have n0_ := Sd.mk (below_step (by repeat ((with_reducible (exact HB.out)))) hb)
      clear HB
      have HB := n0_
      clear n0_
      (try clear hb)
      (try clear hb2)
      (try clear hk)
      (try clear hi)
      refine hK.out _ _ ⟨(cb HB.out hw377_0), (cb HB.out hw377_1), (cb HB.out hw377_2), (cb HB.out hw377_3), (cb HB.out hw377_4), (cb HB.out hw377_5), (cb HB.out hw378_0), (cb HB.out hw378_1), (cb HB.out hw378_2), (cb HB.out hw378_3), (cb HB.out hw378_4), (cb HB.out hw378_5)⟩ (fun hHeld => ?_)
      clear hK K
      refine norm_ (a' := ?_) ?_ ?_
      rotate_left
      ·show Act.put _ (some 27) _ = _
       simp only [Act.put, List.setIfInBounds_toArray, List.set_cons_zero, List.set_cons_succ, i64_w, i32_w]
       rfl
      refine pu_ 9 6 (bz 10 1023) (any_of HT_.out (by kernel_rfl)) ?_
      refine done_ (done_of HT_.out (by kernel_rfl)) ?_
      (try simp only [wrap64_u8w, wrap64_m256])
      try go_wp2
      go_ret
      exact ⟨by (rfl), by repeat ((with_reducible (exact HB.out)))⟩
    ·rw [if_neg c7] at H
     exact absurd H (by simp)
   ·rw [if_neg c6] at H
    exact absurd H (by simp)
  ·rw [if_neg c5] at H
   exact absurd H (by simp)
 ·rw [if_neg c4] at H
  exact absurd H (by simp)
mutual
def r22_ahead.l0 : Nat → List (S28) → Int → List Int → Int → Option (List Int)
 | 0, _, _, _, _ => none
 | k + 1, x0, x1, x5, x6 => if x6 < (x0.length : Int) then (if 0 ≤ x6 then ((r20_Group.f k ((rd_T28 x0 x6).f0) ((rd_T28 x0 x6).f1) ((rd_T28 x0 x6).f2) ((rd_T28 x0 x6).f3) ((rd_T28 x0 x6).f4) ((rd_T28 x0 x6).f5)).bind fun t381 => (if 0 ≤ x1 then (if x1 < (x0.length : Int) then ((r20_Group.f k ((rd_T28 x0 x1).f0) ((rd_T28 x0 x1).f1) ((rd_T28 x0 x1).f2) ((rd_T28 x0 x1).f3) ((rd_T28 x0 x1).f4) ((rd_T28 x0 x1).f5)).bind fun t383 => (if t381.toList = t383.toList then ((r22_newer.f k x0 x6 x1).bind fun t384 => (r22_ahead.j1 k x0 x1 x5 x6 (!t384))) else (r22_ahead.j1 k x0 x1 x5 x6 true))) else (none)) else (none))) else (none)) else (some x5)
def r22_ahead.j1 : Nat → List (S28) → Int → List Int → Int → Bool → Option (List Int)
 | 0, _, _, _, _, _ => none
 | k + 1, x0, x1, x5, x6, x32 => if x32 = true then (r22_ahead.l0 k x0 x1 x5 (wrap64 (x6 + 1))) else (r22_ahead.l1 k x0 x1 x5 x6 0)
def r22_ahead.l1 : Nat → List (S28) → Int → List Int → Int → Int → Option (List Int)
 | 0, _, _, _, _, _ => none
 | k + 1, x0, x1, x5, x6, x7 => if x7 < (x5.length : Int) then (if 0 ≤ x7 then ((r22_newer.f k x0 (rd x5 x7) x6).bind fun t386 => (if t386 = true then (r22_ahead.l1 k x0 x1 x5 x6 (wrap64 (x7 + 1))) else (if x7 ≤ (x5.length : Int) then ((some (x5.take (x7 : Int).toNat : List Int)).bind fun y387 => (if ([] : List Int).length + y387.length < 17592186044416 then ((some (([] : List Int) ++ y387 : List Int)).bind fun y391 => (if y391.length < 17592186044416 then ((some (y391 ++ [x6] : List Int)).bind fun y394 => ((some (x5.drop (x7 : Int).toNat : List Int)).bind fun y397 => (if y394.length + y397.length < 17592186044416 then (r22_ahead.l0 k x0 x1 (y394 ++ y397) (wrap64 (x6 + 1))) else (none)))) else (none))) else (none))) else (none)))) else (none)) else (if 0 ≤ x7 then (if x7 ≤ (x5.length : Int) then ((some (x5.take (x7 : Int).toNat : List Int)).bind fun y404 => (if ([] : List Int).length + y404.length < 17592186044416 then ((some (([] : List Int) ++ y404 : List Int)).bind fun y408 => (if y408.length < 17592186044416 then ((some (y408 ++ [x6] : List Int)).bind fun y411 => ((some (x5.drop (x7 : Int).toNat : List Int)).bind fun y414 => (if y411.length + y414.length < 17592186044416 then (r22_ahead.l0 k x0 x1 (y411 ++ y414) (wrap64 (x6 + 1))) else (none)))) else (none))) else (none))) else (none)) else (none))
end
def r22_ahead.f (k : Nat) (l0 : List (S28)) (a1 : Int) : Option (List Int) := r22_ahead.l0 k l0 a1 ([] : List Int) 0
def r22_ahead.T5 : Bool × List (List Nat × List Nat) := (true, [([], []), ([], []), ([0, 1], [0, 1]), ([2], [2]), ([3], [3]), ([], []), ([], []), ([5, 6], [5, 6]), ([7], [7]), ([8, 4], [8]), ([4, 9], [4, 9]), ([10, 9], [10]), ([11], [11]), ([11], [11]), ([11], [11]), ([12, 13, 14, 11, 11], [11, 12, 13, 14]), ([15, 11], [11, 15]), ([11, 16], [11, 16])])
def r22_ahead.B5 : List Nat := [0, 0, 3, 7, 15, 0, 0, 96, 224, 511, 1023, 2047, 4095, 4095, 4095, 32767, 65535, 131071]
theorem r22_ahead.tab5 : rtab .any (opsOf Tryz.f61 5) = r22_ahead.T5 := by kernel_rfl
theorem r22_ahead.bits5 : waitsOk r22_ahead.T5.2 r22_ahead.B5 = true := by kernel_rfl
theorem r22_ahead.calls (k : Nat) (A0 : Option Addr) (c0 : Nat) (l0 : List (S28)) (a1 : Int) (r : List Int) (w : World) (hr0 : Kd.C k28 w A0 l0.length l0) (hc0 : l0.length ≤ c0) (h : r22_ahead.f k l0 a1 = some r) :
  Calls Tryz.prog 61 #[.slice A0 l0.length c0, .int .i64 a1] w fun e w' => ∃ v0_ : Value, e = .returned (v0_) ∧ Kd.R (Kd.int .i64) 3 w' w.heap.size (fun _ => True) v0_ r ∧ Below w.heap.size w w' := by
 have hu28 := Tryz.underlying28
 have HR0 := Sd.mk hr0
 have HC0 := Sd.mk hc0
 clear hr0 hc0
 have HB := Sd.mk (Below.refl w.heap.size w)
 have H : (r22_ahead.l0 k l0 a1 ([] : List Int) 0) = some r := h
 clear h
 have H' := Sd.mk H
 clear H
 go_enter Tryz.func61, Tryz.ntmps61
 go_wp2
 go_loopg [5, 6] k (fun kq v5 v6 w' => ∃ (x5_1 : List Int) (x6_1 : Int), v6 = .int .i64 x6_1 ∧ Sd (r22_ahead.l0 kq l0 a1 x5_1 x6_1 = some r) ∧ Sd (kq ≤ k) ∧ Sd (Kd.R (Kd.int .i64) 3 w' w.heap.size (fun _ => True) v5 x5_1) ∧ Sd (Below w.heap.size w w'))
 case atStart => exact ⟨(([] : List Int)), (0), (by (rfl)), H', ⟨Nat.le_refl _⟩, ⟨by (exact Kd.R_nil _ _ _ _ _)⟩, ⟨by repeat ((with_reducible (exact HB.out)))⟩⟩
 case round =>
  clear H'
  try clear p2
  obtain ⟨x5_1, x6_1, rfl, HA, HK1, HO_5, HB⟩ := hrel
  cases gk with
  | zero => exact absurd HA.out (by simp [r22_ahead.l0])
  | succ k1 =>
   have H := HA.out
   clear HA
   simp only [r22_ahead.l0] at H
   by_cases c3 : x6_1 < (l0.length : Int)
   ·rw [if_pos c3] at H
    have c3b0 : decide (x6_1 < (l0.length : Int)) = true := decide_eq_true c3
    clear c3
    have HC4 := Sd.mk H
    clear H
    go_upto_region 5 with (fail)
    go_cut [32] (fun v32 wc => ∃ (kq : Nat) (x32_3 : Bool), v32 = .bool x32_3 ∧ Sd (r22_ahead.j1 kq l0 a1 x5_1 x6_1 x32_3 = some r) ∧ Sd (kq ≤ k1) ∧ Sd (Kd.R (Kd.int .i64) 3 wc w.heap.size (fun _ => True) u5 x5_1) ∧ Sd (Below w.heap.size w wc))
    case first =>
     have H := HC4.out
     clear HC4
     by_cases c5 : 0 ≤ x6_1
     ·rw [if_pos c5] at H
      have c5b0 : decide (0 ≤ x6_1) = true := decide_eq_true c5
      clear c5
      ((skip))
      replace H := Option.bind_eq_some_iff.mp H
      obtain ⟨t381, A60, H⟩ := H
      replace H : (if 0 ≤ a1 then (if a1 < (l0.length : Int) then ((r20_Group.f k1 ((rd_T28 l0 a1).f0) ((rd_T28 l0 a1).f1) ((rd_T28 l0 a1).f2) ((rd_T28 l0 a1).f3) ((rd_T28 l0 a1).f4) ((rd_T28 l0 a1).f5)).bind fun t383 => (if t381.toList = t383.toList then ((r22_newer.f k1 l0 x6_1 a1).bind fun t384 => (r22_ahead.j1 k1 l0 a1 x5_1 x6_1 (!t384))) else (r22_ahead.j1 k1 l0 a1 x5_1 x6_1 true))) else (none)) else (none)) = some r := H
      have A6 := Sd.mk A60
      clear A60
      by_cases c7 : 0 ≤ a1
      ·rw [if_pos c7] at H
       have c7b0 : decide (0 ≤ a1) = true := decide_eq_true c7
       clear c7
       by_cases c8 : a1 < (l0.length : Int)
       ·rw [if_pos c8] at H
        have c8b0 : decide (a1 < (l0.length : Int)) = true := decide_eq_true c8
        clear c8
        replace H := Option.bind_eq_some_iff.mp H
        obtain ⟨t383, A90, H⟩ := H
        replace H : (if t381.toList = t383.toList then ((r22_newer.f k1 l0 x6_1 a1).bind fun t384 => (r22_ahead.j1 k1 l0 a1 x5_1 x6_1 (!t384))) else (r22_ahead.j1 k1 l0 a1 x5_1 x6_1 true)) = some r := H
        have A9 := Sd.mk A90
        clear A90
        by_cases c10 : t381.toList = t383.toList
        ·rw [if_pos c10] at H
         have c10b0 : (t381.toList == t383.toList) = true := beq_iff_eq.mpr c10
         have c10b1 : (t381.toList != t383.toList) = false := bne_eq_false_iff_eq.mpr c10
         clear c10
         replace H := Option.bind_eq_some_iff.mp H
         obtain ⟨t384, A110, H⟩ := H
         replace H : (r22_ahead.j1 k1 l0 a1 x5_1 x6_1 (!t384)) = some r := H
         have A11 := Sd.mk A110
         clear A110
         have H' := Sd.mk H
         clear H
         try go_wp2
         have n0_ := Sd.mk (Kd.R_drew HO_5.out)
         have n1_ := Sd.mk (below_drew1 HB.out)
         clear HO_5
         clear HB
         have HO_5 := n0_
         have HB := n1_
         clear n0_ n1_
         have p380 : 0 ≤ (x6_1 : Int) := odt (by (with_reducible assumption))
         have q380 : x6_1 < (l0.length : Int) := odt (by (with_reducible assumption))
         obtain ⟨ad380, A380_2, c380_2, A380_3, c380_3, e380, hx380_0, hx380_1, hx380_2, hx380_3, hx380_4, hx380_5, hl380_2, hi380_2, hl380_3, hi380_3⟩ := at_T28 HR0.out x6_1 p380 q380
         have hw380_5 := hx380_5
         have hw380_4 := hx380_4
         have hw380_3 := hx380_3
         have hw380_2 := hx380_2
         have hw380_1 := hx380_1
         have hw380_0 := hx380_0
         cases e380
         replace hx380_0 := cb HB.out hx380_0
         replace hx380_1 := cb HB.out hx380_1
         replace hx380_2 := cb HB.out hx380_2
         replace hx380_3 := cb HB.out hx380_3
         replace hx380_4 := cb HB.out hx380_4
         replace hx380_5 := cb HB.out hx380_5
         have HR380_2 := Sd.mk hi380_2
         have HC380_2 := Sd.mk hl380_2
         clear hi380_2 hl380_2
         have HR380_3 := Sd.mk hi380_3
         have HC380_3 := Sd.mk hl380_3
         clear hi380_3 hl380_3
         replace p380 := eq_true p380
         replace q380 := eq_true q380
         have p382 : 0 ≤ (a1 : Int) := odt (by (with_reducible assumption))
         have q382 : a1 < (l0.length : Int) := odt (by (with_reducible assumption))
         obtain ⟨ad382, A382_2, c382_2, A382_3, c382_3, e382, hx382_0, hx382_1, hx382_2, hx382_3, hx382_4, hx382_5, hl382_2, hi382_2, hl382_3, hi382_3⟩ := at_T28 HR0.out a1 p382 q382
         have hw382_5 := hx382_5
         have hw382_4 := hx382_4
         have hw382_3 := hx382_3
         have hw382_2 := hx382_2
         have hw382_1 := hx382_1
         have hw382_0 := hx382_0
         obtain rfl : ad380 = ad382 := (by injection e382)
         replace hx382_0 := cb HB.out hx382_0
         replace hx382_1 := cb HB.out hx382_1
         replace hx382_2 := cb HB.out hx382_2
         replace hx382_3 := cb HB.out hx382_3
         replace hx382_4 := cb HB.out hx382_4
         replace hx382_5 := cb HB.out hx382_5
         have HR382_2 := Sd.mk hi382_2
         have HC382_2 := Sd.mk hl382_2
         clear hi382_2 hl382_2
         have HR382_3 := Sd.mk hi382_3
         have HC382_3 := Sd.mk hl382_3
         clear hi382_3 hl382_3
         replace p382 := eq_true p382
         replace q382 := eq_true q382
         refine start_ (n := 18) (S := fun w' => w'.cell? (ad380.add ((x6_1).toNat * 6)) = some (.int .i64 ((rd_T28 l0 x6_1).f0)) ∧ w'.cell? ⟨(ad380.add ((x6_1).toNat * 6)).block, (ad380.add ((x6_1).toNat * 6)).off + 1, none⟩ = some (.string ((rd_T28 l0 x6_1).f1)) ∧ w'.cell? ⟨(ad380.add ((x6_1).toNat * 6)).block, (ad380.add ((x6_1).toNat * 6)).off + 2, none⟩ = some (.slice A380_2 ((rd_T28 l0 x6_1).f2).length c380_2) ∧ w'.cell? ⟨(ad380.add ((x6_1).toNat * 6)).block, (ad380.add ((x6_1).toNat * 6)).off + 3, none⟩ = some (.slice A380_3 ((rd_T28 l0 x6_1).f3).length c380_3) ∧ w'.cell? ⟨(ad380.add ((x6_1).toNat * 6)).block, (ad380.add ((x6_1).toNat * 6)).off + 4, none⟩ = some (.string ((rd_T28 l0 x6_1).f4)) ∧ w'.cell? ⟨(ad380.add ((x6_1).toNat * 6)).block, (ad380.add ((x6_1).toNat * 6)).off + 5, none⟩ = some (.string ((rd_T28 l0 x6_1).f5)) ∧ w'.cell? (ad380.add ((a1).toNat * 6)) = some (.int .i64 ((rd_T28 l0 a1).f0)) ∧ w'.cell? ⟨(ad380.add ((a1).toNat * 6)).block, (ad380.add ((a1).toNat * 6)).off + 1, none⟩ = some (.string ((rd_T28 l0 a1).f1)) ∧ w'.cell? ⟨(ad380.add ((a1).toNat * 6)).block, (ad380.add ((a1).toNat * 6)).off + 2, none⟩ = some (.slice A382_2 ((rd_T28 l0 a1).f2).length c382_2) ∧ w'.cell? ⟨(ad380.add ((a1).toNat * 6)).block, (ad380.add ((a1).toNat * 6)).off + 3, none⟩ = some (.slice A382_3 ((rd_T28 l0 a1).f3).length c382_3) ∧ w'.cell? ⟨(ad380.add ((a1).toNat * 6)).block, (ad380.add ((a1).toNat * 6)).off + 4, none⟩ = some (.string ((rd_T28 l0 a1).f4)) ∧ w'.cell? ⟨(ad380.add ((a1).toNat * 6)).block, (ad380.add ((a1).toNat * 6)).off + 5, none⟩ = some (.string ((rd_T28 l0 a1).f5))) (ds := []) (bz 18 0) (by kernel_rfl) rfl rfl ⟨(cb HB.out hw380_0), (cb HB.out hw380_1), (cb HB.out hw380_2), (cb HB.out hw380_3), (cb HB.out hw380_4), (cb HB.out hw380_5), (cb HB.out hw382_0), (cb HB.out hw382_1), (cb HB.out hw382_2), (cb HB.out hw382_3), (cb HB.out hw382_4), (cb HB.out hw382_5)⟩ (fun hHeld => ?_); refine with_tabW r22_ahead.tab5 r22_ahead.bits5 (fun HT_ HW_ => ?_)
         generalize wr.drew = w12 at HO_5 HB HR380_2 HR380_3 HR382_2 HR382_3 hx380_0 hx380_1 hx380_2 hx380_3 hx380_4 hx380_5 hx382_0 hx382_1 hx382_2 hx382_3 hx382_4 hx382_5 hHeld ⊢
         refine pu_ 0 15 (bz 18 1) (any_of HT_.out (by kernel_rfl)) ?_
         refine pu_ 1 16 (bz 18 3) (any_of HT_.out (by kernel_rfl)) ?_
         refine pu_ 2 17 (bz 18 7) (any_of HT_.out (by kernel_rfl)) ?_
         refine pu_ 5 20 (bz 18 39) (any_of HT_.out (by kernel_rfl)) ?_
         refine pu_ 6 21 (bz 18 103) (any_of HT_.out (by kernel_rfl)) ?_
         refine pu_ 7 22 (bz 18 231) (any_of HT_.out (by kernel_rfl)) ?_
         refine ta_ 3 18 (bz 18 239) (take_ofW HT_.out HW_.out (by kernel_rfl)) hHeld ?_
         refine ta_ 8 23 (bz 18 495) (take_ofW HT_.out HW_.out (by kernel_rfl)) hHeld ?_
         refine one_ (i := 4) (N := some 19) (bz 18 511) rfl rfl (one_of HT_.out (by kernel_rfl)) (by decide) (fun K hK => ?_)
         refine goes_ Tryz.func88 (by kernel_rfl) rfl #[.agg #[.int .i64 ((rd_T28 l0 x6_1).f0), .string ((rd_T28 l0 x6_1).f1), .slice A380_2 ((rd_T28 l0 x6_1).f2).length c380_2, .slice A380_3 ((rd_T28 l0 x6_1).f3).length c380_3, .string ((rd_T28 l0 x6_1).f4), .string ((rd_T28 l0 x6_1).f5)]] (by rfl) rfl rfl (by (try simp only [List.map_toArray, List.map_cons, List.map_nil]); (rfl)) ?_
         with_reducible refine (r20_Group.calls k1 ((rd_T28 l0 x6_1).f0) ((rd_T28 l0 x6_1).f1) _ _ ((rd_T28 l0 x6_1).f2) _ _ ((rd_T28 l0 x6_1).f3) ((rd_T28 l0 x6_1).f4) ((rd_T28 l0 x6_1).f5) t381 _ ?side1 ?side2 ?side3 ?side4 A6.out).mono ?_
         (case side1 => repeat ((exact (Kd.C_below HR380_2.out HB.out))))
         (case side2 => exact HC380_2.out)
         (case side3 => repeat ((exact (Kd.C_below HR380_3.out HB.out))))
         (case side4 => exact HC380_3.out)
         rintro e w13 ⟨rfl, hb⟩
         refine ⟨_, rfl, ?_⟩
         have n0_ := Sd.mk (Kd.R_below (by (with_reducible repeat (fail)); exact HO_5.out) hb)
         have n1_ := Sd.mk (below_step (by repeat ((with_reducible (exact HB.out)))) hb)
         clear HO_5
         clear HB
         have HO_5 := n0_
         have HB := n1_
         clear n0_ n1_
         (try clear hb)
         (try clear hb2)
         (try clear hk)
         (try clear hi)
         refine hK.out _ _ ⟨(cb HB.out hw380_0), (cb HB.out hw380_1), (cb HB.out hw380_2), (cb HB.out hw380_3), (cb HB.out hw380_4), (cb HB.out hw380_5), (cb HB.out hw382_0), (cb HB.out hw382_1), (cb HB.out hw382_2), (cb HB.out hw382_3), (cb HB.out hw382_4), (cb HB.out hw382_5)⟩ (fun hHeld => ?_)
         clear hK K
         refine norm_ (a' := ?_) ?_ ?_
         rotate_left
         ·show Act.put _ (some 19) _ = _
          simp only [Act.put, List.setIfInBounds_toArray, List.set_cons_zero, List.set_cons_succ, i64_w, i32_w]
          rfl
         refine one_ (i := 9) (N := some 24) (bz 18 1023) rfl rfl (one_of HT_.out (by kernel_rfl)) (by decide) (fun K hK => ?_)
         refine goes_ Tryz.func88 (by kernel_rfl) rfl #[.agg #[.int .i64 ((rd_T28 l0 a1).f0), .string ((rd_T28 l0 a1).f1), .slice A382_2 ((rd_T28 l0 a1).f2).length c382_2, .slice A382_3 ((rd_T28 l0 a1).f3).length c382_3, .string ((rd_T28 l0 a1).f4), .string ((rd_T28 l0 a1).f5)]] (by rfl) rfl rfl (by (try simp only [List.map_toArray, List.map_cons, List.map_nil]); (rfl)) ?_
         with_reducible refine (r20_Group.calls k1 ((rd_T28 l0 a1).f0) ((rd_T28 l0 a1).f1) _ _ ((rd_T28 l0 a1).f2) _ _ ((rd_T28 l0 a1).f3) ((rd_T28 l0 a1).f4) ((rd_T28 l0 a1).f5) t383 _ ?side1 ?side2 ?side3 ?side4 A9.out).mono ?_
         (case side1 => repeat ((exact (Kd.C_below HR382_2.out HB.out))))
         (case side2 => exact HC382_2.out)
         (case side3 => repeat ((exact (Kd.C_below HR382_3.out HB.out))))
         (case side4 => exact HC382_3.out)
         rintro e w14 ⟨rfl, hb⟩
         refine ⟨_, rfl, ?_⟩
         have n0_ := Sd.mk (Kd.R_below (by (with_reducible repeat (fail)); exact HO_5.out) hb)
         have n1_ := Sd.mk (below_step (by repeat ((with_reducible (exact HB.out)))) hb)
         clear HO_5
         clear HB
         have HO_5 := n0_
         have HB := n1_
         clear n0_ n1_
         (try clear hb)
         (try clear hb2)
         (try clear hk)
         (try clear hi)
         refine hK.out _ _ ⟨(cb HB.out hw380_0), (cb HB.out hw380_1), (cb HB.out hw380_2), (cb HB.out hw380_3), (cb HB.out hw380_4), (cb HB.out hw380_5), (cb HB.out hw382_0), (cb HB.out hw382_1), (cb HB.out hw382_2), (cb HB.out hw382_3), (cb HB.out hw382_4), (cb HB.out hw382_5)⟩ (fun hHeld => ?_)
         clear hK K
         refine norm_ (a' := ?_) ?_ ?_
         rotate_left
         ·show Act.put _ (some 24) _ = _
          simp only [Act.put, List.setIfInBounds_toArray, List.set_cons_zero, List.set_cons_succ, i64_w, i32_w]
          rfl
         refine pu_ 10 25 (bz 18 2047) (any_of HT_.out (by kernel_rfl)) ?_
         refine pu_ 11 26 (bz 18 4095) (any_of HT_.out (by kernel_rfl)) ?_
         refine pu_ 12 27 (bz 18 8191) (any_of HT_.out (by kernel_rfl)) ?_
         refine pu_ 13 28 (bz 18 16383) (any_of HT_.out (by kernel_rfl)) ?_
         refine pu_ 14 29 (bz 18 32767) (any_of HT_.out (by kernel_rfl)) ?_
         refine one_ (i := 15) (N := some 30) (bz 18 65535) rfl rfl (one_of HT_.out (by kernel_rfl)) (by decide) (fun K hK => ?_)
         refine goes_ Tryz.func89 (by kernel_rfl) rfl #[.slice (some ad380) l0.length c0, .int .i64 x6_1, .int .i64 a1] (by rfl) rfl rfl (by (try simp only [List.map_toArray, List.map_cons, List.map_nil]); (rfl)) ?_
         with_reducible refine (r22_newer.calls k1 _ _ l0 x6_1 a1 t384 _ ?side1 ?side2 A11.out).mono ?_
         (case side1 => repeat ((exact (Kd.C_below HR0.out HB.out))))
         (case side2 => exact HC0.out)
         rintro e w15 ⟨rfl, hb⟩
         refine ⟨_, rfl, ?_⟩
         have n0_ := Sd.mk (Kd.R_below (by (with_reducible repeat (fail)); exact HO_5.out) hb)
         have n1_ := Sd.mk (below_step (by repeat ((with_reducible (exact HB.out)))) hb)
         clear HO_5
         clear HB
         have HO_5 := n0_
         have HB := n1_
         clear n0_ n1_
         (try clear hb)
         (try clear hb2)
         (try clear hk)
         (try clear hi)
         refine hK.out _ _ ⟨(cb HB.out hw380_0), (cb HB.out hw380_1), (cb HB.out hw380_2), (cb HB.out hw380_3), (cb HB.out hw380_4), (cb HB.out hw380_5), (cb HB.out hw382_0), (cb HB.out hw382_1), (cb HB.out hw382_2), (cb HB.out hw382_3), (cb HB.out hw382_4), (cb HB.out hw382_5)⟩ (fun hHeld => ?_)
         clear hK K
         refine norm_ (a' := ?_) ?_ ?_
         rotate_left
         ·show Act.put _ (some 30) _ = _
          simp only [Act.put, List.setIfInBounds_toArray, List.set_cons_zero, List.set_cons_succ, i64_w, i32_w]
          rfl
         refine pu_ 16 31 (bz 18 131071) (any_of HT_.out (by kernel_rfl)) ?_
         refine pu_ 17 32 (bz 18 262143) (any_of HT_.out (by kernel_rfl)) ?_
         refine done_ (done_of HT_.out (by kernel_rfl)) ?_
         (try simp only [wrap64_u8w, wrap64_m256])
         try go_wp2
         go_meet
         case rel => exact ⟨_, (!t384), (by (rfl)), H', ⟨by have := HK1.out; (omega)⟩, ⟨by (with_reducible repeat (fail)); exact HO_5.out⟩, ⟨by repeat ((with_reducible (exact HB.out)))⟩⟩
        ·rw [if_neg c10] at H
         have c10b0 : (t381.toList == t383.toList) = false := beq_eq_false_iff_ne.mpr c10
         have c10b1 : (t381.toList != t383.toList) = true := bne_iff_ne.mpr c10
         have H' := Sd.mk H
         clear H
         try go_wp2
         have n0_ := Sd.mk (Kd.R_drew HO_5.out)
         have n1_ := Sd.mk (below_drew1 HB.out)
         clear HO_5
         clear HB
         have HO_5 := n0_
         have HB := n1_
         clear n0_ n1_
         have p380 : 0 ≤ (x6_1 : Int) := odt (by (with_reducible assumption))
         have q380 : x6_1 < (l0.length : Int) := odt (by (with_reducible assumption))
         obtain ⟨ad380, A380_2, c380_2, A380_3, c380_3, e380, hx380_0, hx380_1, hx380_2, hx380_3, hx380_4, hx380_5, hl380_2, hi380_2, hl380_3, hi380_3⟩ := at_T28 HR0.out x6_1 p380 q380
         have hw380_5 := hx380_5
         have hw380_4 := hx380_4
         have hw380_3 := hx380_3
         have hw380_2 := hx380_2
         have hw380_1 := hx380_1
         have hw380_0 := hx380_0
         cases e380
         replace hx380_0 := cb HB.out hx380_0
         replace hx380_1 := cb HB.out hx380_1
         replace hx380_2 := cb HB.out hx380_2
         replace hx380_3 := cb HB.out hx380_3
         replace hx380_4 := cb HB.out hx380_4
         replace hx380_5 := cb HB.out hx380_5
         have HR380_2 := Sd.mk hi380_2
         have HC380_2 := Sd.mk hl380_2
         clear hi380_2 hl380_2
         have HR380_3 := Sd.mk hi380_3
         have HC380_3 := Sd.mk hl380_3
         clear hi380_3 hl380_3
         replace p380 := eq_true p380
         replace q380 := eq_true q380
         have p382 : 0 ≤ (a1 : Int) := odt (by (with_reducible assumption))
         have q382 : a1 < (l0.length : Int) := odt (by (with_reducible assumption))
         obtain ⟨ad382, A382_2, c382_2, A382_3, c382_3, e382, hx382_0, hx382_1, hx382_2, hx382_3, hx382_4, hx382_5, hl382_2, hi382_2, hl382_3, hi382_3⟩ := at_T28 HR0.out a1 p382 q382
         have hw382_5 := hx382_5
         have hw382_4 := hx382_4
         have hw382_3 := hx382_3
         have hw382_2 := hx382_2
         have hw382_1 := hx382_1
         have hw382_0 := hx382_0
         obtain rfl : ad380 = ad382 := (by injection e382)
         replace hx382_0 := cb HB.out hx382_0
         replace hx382_1 := cb HB.out hx382_1
         replace hx382_2 := cb HB.out hx382_2
         replace hx382_3 := cb HB.out hx382_3
         replace hx382_4 := cb HB.out hx382_4
         replace hx382_5 := cb HB.out hx382_5
         have HR382_2 := Sd.mk hi382_2
         have HC382_2 := Sd.mk hl382_2
         clear hi382_2 hl382_2
         have HR382_3 := Sd.mk hi382_3
         have HC382_3 := Sd.mk hl382_3
         clear hi382_3 hl382_3
         replace p382 := eq_true p382
         replace q382 := eq_true q382
         refine start_ (n := 18) (S := fun w' => w'.cell? (ad380.add ((x6_1).toNat * 6)) = some (.int .i64 ((rd_T28 l0 x6_1).f0)) ∧ w'.cell? ⟨(ad380.add ((x6_1).toNat * 6)).block, (ad380.add ((x6_1).toNat * 6)).off + 1, none⟩ = some (.string ((rd_T28 l0 x6_1).f1)) ∧ w'.cell? ⟨(ad380.add ((x6_1).toNat * 6)).block, (ad380.add ((x6_1).toNat * 6)).off + 2, none⟩ = some (.slice A380_2 ((rd_T28 l0 x6_1).f2).length c380_2) ∧ w'.cell? ⟨(ad380.add ((x6_1).toNat * 6)).block, (ad380.add ((x6_1).toNat * 6)).off + 3, none⟩ = some (.slice A380_3 ((rd_T28 l0 x6_1).f3).length c380_3) ∧ w'.cell? ⟨(ad380.add ((x6_1).toNat * 6)).block, (ad380.add ((x6_1).toNat * 6)).off + 4, none⟩ = some (.string ((rd_T28 l0 x6_1).f4)) ∧ w'.cell? ⟨(ad380.add ((x6_1).toNat * 6)).block, (ad380.add ((x6_1).toNat * 6)).off + 5, none⟩ = some (.string ((rd_T28 l0 x6_1).f5)) ∧ w'.cell? (ad380.add ((a1).toNat * 6)) = some (.int .i64 ((rd_T28 l0 a1).f0)) ∧ w'.cell? ⟨(ad380.add ((a1).toNat * 6)).block, (ad380.add ((a1).toNat * 6)).off + 1, none⟩ = some (.string ((rd_T28 l0 a1).f1)) ∧ w'.cell? ⟨(ad380.add ((a1).toNat * 6)).block, (ad380.add ((a1).toNat * 6)).off + 2, none⟩ = some (.slice A382_2 ((rd_T28 l0 a1).f2).length c382_2) ∧ w'.cell? ⟨(ad380.add ((a1).toNat * 6)).block, (ad380.add ((a1).toNat * 6)).off + 3, none⟩ = some (.slice A382_3 ((rd_T28 l0 a1).f3).length c382_3) ∧ w'.cell? ⟨(ad380.add ((a1).toNat * 6)).block, (ad380.add ((a1).toNat * 6)).off + 4, none⟩ = some (.string ((rd_T28 l0 a1).f4)) ∧ w'.cell? ⟨(ad380.add ((a1).toNat * 6)).block, (ad380.add ((a1).toNat * 6)).off + 5, none⟩ = some (.string ((rd_T28 l0 a1).f5))) (ds := []) (bz 18 0) (by kernel_rfl) rfl rfl ⟨(cb HB.out hw380_0), (cb HB.out hw380_1), (cb HB.out hw380_2), (cb HB.out hw380_3), (cb HB.out hw380_4), (cb HB.out hw380_5), (cb HB.out hw382_0), (cb HB.out hw382_1), (cb HB.out hw382_2), (cb HB.out hw382_3), (cb HB.out hw382_4), (cb HB.out hw382_5)⟩ (fun hHeld => ?_); refine with_tabW r22_ahead.tab5 r22_ahead.bits5 (fun HT_ HW_ => ?_)
         generalize wr.drew = w16 at HO_5 HB HR380_2 HR380_3 HR382_2 HR382_3 hx380_0 hx380_1 hx380_2 hx380_3 hx380_4 hx380_5 hx382_0 hx382_1 hx382_2 hx382_3 hx382_4 hx382_5 hHeld ⊢
         refine pu_ 0 15 (bz 18 1) (any_of HT_.out (by kernel_rfl)) ?_
         refine pu_ 1 16 (bz 18 3) (any_of HT_.out (by kernel_rfl)) ?_
         refine pu_ 2 17 (bz 18 7) (any_of HT_.out (by kernel_rfl)) ?_
         refine pu_ 5 20 (bz 18 39) (any_of HT_.out (by kernel_rfl)) ?_
         refine pu_ 6 21 (bz 18 103) (any_of HT_.out (by kernel_rfl)) ?_
         refine pu_ 7 22 (bz 18 231) (any_of HT_.out (by kernel_rfl)) ?_
         refine ta_ 3 18 (bz 18 239) (take_ofW HT_.out HW_.out (by kernel_rfl)) hHeld ?_
         refine ta_ 8 23 (bz 18 495) (take_ofW HT_.out HW_.out (by kernel_rfl)) hHeld ?_
         refine one_ (i := 4) (N := some 19) (bz 18 511) rfl rfl (one_of HT_.out (by kernel_rfl)) (by decide) (fun K hK => ?_)
         refine goes_ Tryz.func88 (by kernel_rfl) rfl #[.agg #[.int .i64 ((rd_T28 l0 x6_1).f0), .string ((rd_T28 l0 x6_1).f1), .slice A380_2 ((rd_T28 l0 x6_1).f2).length c380_2, .slice A380_3 ((rd_T28 l0 x6_1).f3).length c380_3, .string ((rd_T28 l0 x6_1).f4), .string ((rd_T28 l0 x6_1).f5)]] (by rfl) rfl rfl (by (try simp only [List.map_toArray, List.map_cons, List.map_nil]); (rfl)) ?_
         with_reducible refine (r20_Group.calls k1 ((rd_T28 l0 x6_1).f0) ((rd_T28 l0 x6_1).f1) _ _ ((rd_T28 l0 x6_1).f2) _ _ ((rd_T28 l0 x6_1).f3) ((rd_T28 l0 x6_1).f4) ((rd_T28 l0 x6_1).f5) t381 _ ?side1 ?side2 ?side3 ?side4 A6.out).mono ?_
         (case side1 => repeat ((exact (Kd.C_below HR380_2.out HB.out))))
         (case side2 => exact HC380_2.out)
         (case side3 => repeat ((exact (Kd.C_below HR380_3.out HB.out))))
         (case side4 => exact HC380_3.out)
         rintro e w17 ⟨rfl, hb⟩
         refine ⟨_, rfl, ?_⟩
         have n0_ := Sd.mk (Kd.R_below (by (with_reducible repeat (fail)); exact HO_5.out) hb)
         have n1_ := Sd.mk (below_step (by repeat ((with_reducible (exact HB.out)))) hb)
         clear HO_5
         clear HB
         have HO_5 := n0_
         have HB := n1_
         clear n0_ n1_
         (try clear hb)
         (try clear hb2)
         (try clear hk)
         (try clear hi)
         refine hK.out _ _ ⟨(cb HB.out hw380_0), (cb HB.out hw380_1), (cb HB.out hw380_2), (cb HB.out hw380_3), (cb HB.out hw380_4), (cb HB.out hw380_5), (cb HB.out hw382_0), (cb HB.out hw382_1), (cb HB.out hw382_2), (cb HB.out hw382_3), (cb HB.out hw382_4), (cb HB.out hw382_5)⟩ (fun hHeld => ?_)
         clear hK K
         refine norm_ (a' := ?_) ?_ ?_
         rotate_left
         ·show Act.put _ (some 19) _ = _
          simp only [Act.put, List.setIfInBounds_toArray, List.set_cons_zero, List.set_cons_succ, i64_w, i32_w]
          rfl
         refine one_ (i := 9) (N := some 24) (bz 18 1023) rfl rfl (one_of HT_.out (by kernel_rfl)) (by decide) (fun K hK => ?_)
         refine goes_ Tryz.func88 (by kernel_rfl) rfl #[.agg #[.int .i64 ((rd_T28 l0 a1).f0), .string ((rd_T28 l0 a1).f1), .slice A382_2 ((rd_T28 l0 a1).f2).length c382_2, .slice A382_3 ((rd_T28 l0 a1).f3).length c382_3, .string ((rd_T28 l0 a1).f4), .string ((rd_T28 l0 a1).f5)]] (by rfl) rfl rfl (by (try simp only [List.map_toArray, List.map_cons, List.map_nil]); (rfl)) ?_
         with_reducible refine (r20_Group.calls k1 ((rd_T28 l0 a1).f0) ((rd_T28 l0 a1).f1) _ _ ((rd_T28 l0 a1).f2) _ _ ((rd_T28 l0 a1).f3) ((rd_T28 l0 a1).f4) ((rd_T28 l0 a1).f5) t383 _ ?side1 ?side2 ?side3 ?side4 A9.out).mono ?_
         (case side1 => repeat ((exact (Kd.C_below HR382_2.out HB.out))))
         (case side2 => exact HC382_2.out)
         (case side3 => repeat ((exact (Kd.C_below HR382_3.out HB.out))))
         (case side4 => exact HC382_3.out)
         rintro e w18 ⟨rfl, hb⟩
         refine ⟨_, rfl, ?_⟩
         have n0_ := Sd.mk (Kd.R_below (by (with_reducible repeat (fail)); exact HO_5.out) hb)
         have n1_ := Sd.mk (below_step (by repeat ((with_reducible (exact HB.out)))) hb)
         clear HO_5
         clear HB
         have HO_5 := n0_
         have HB := n1_
         clear n0_ n1_
         (try clear hb)
         (try clear hb2)
         (try clear hk)
         (try clear hi)
         refine hK.out _ _ ⟨(cb HB.out hw380_0), (cb HB.out hw380_1), (cb HB.out hw380_2), (cb HB.out hw380_3), (cb HB.out hw380_4), (cb HB.out hw380_5), (cb HB.out hw382_0), (cb HB.out hw382_1), (cb HB.out hw382_2), (cb HB.out hw382_3), (cb HB.out hw382_4), (cb HB.out hw382_5)⟩ (fun hHeld => ?_)
         clear hK K
         refine norm_ (a' := ?_) ?_ ?_
         rotate_left
         ·show Act.put _ (some 24) _ = _
          simp only [Act.put, List.setIfInBounds_toArray, List.set_cons_zero, List.set_cons_succ, i64_w, i32_w]
          rfl
         refine pu_ 10 25 (bz 18 2047) (any_of HT_.out (by kernel_rfl)) ?_
         refine pu_ 11 26 (bz 18 4095) (any_of HT_.out (by kernel_rfl)) ?_
         refine pure_ (i := 12) (N := some 27) (v := undef) (a' := ?_) (bz 18 8191) rfl rfl (any_of HT_.out (by kernel_rfl)) (fun _ _ _ h => h) (Or.inr ⟨by rfl, rfl⟩) ?_ ?_
         rotate_left
         ·simp only [Act.put, List.setIfInBounds_toArray, List.set_cons_zero, List.set_cons_succ, i64_w, i32_w]
          rfl
         refine pure_ (i := 13) (N := some 28) (v := undef) (a' := ?_) (bz 18 16383) rfl rfl (any_of HT_.out (by kernel_rfl)) (fun _ _ _ h => h) (Or.inr ⟨by rfl, rfl⟩) ?_ ?_
         rotate_left
         ·simp only [Act.put, List.setIfInBounds_toArray, List.set_cons_zero, List.set_cons_succ, i64_w, i32_w]
          rfl
         refine pure_ (i := 14) (N := some 29) (v := undef) (a' := ?_) (bz 18 32767) rfl rfl (any_of HT_.out (by kernel_rfl)) (fun _ _ _ h => h) (Or.inr ⟨by rfl, rfl⟩) ?_ ?_
         rotate_left
         ·simp only [Act.put, List.setIfInBounds_toArray, List.set_cons_zero, List.set_cons_succ, i64_w, i32_w]
          rfl
         refine pure_ (i := 15) (N := some 30) (v := undef) (a' := ?_) (bz 18 65535) rfl rfl (any_of HT_.out (by kernel_rfl)) (fun _ _ _ h => h) (Or.inr ⟨by rfl, rfl⟩) ?_ ?_
         rotate_left
         ·simp only [Act.put, List.setIfInBounds_toArray, List.set_cons_zero, List.set_cons_succ, i64_w, i32_w]
          rfl
         refine pure_ (i := 16) (N := some 31) (v := undef) (a' := ?_) (bz 18 131071) rfl rfl (any_of HT_.out (by kernel_rfl)) (fun _ _ _ h => h) (Or.inr ⟨by rfl, rfl⟩) ?_ ?_
         rotate_left
         ·simp only [Act.put, List.setIfInBounds_toArray, List.set_cons_zero, List.set_cons_succ, i64_w, i32_w]
          rfl
         refine pu_ 17 32 (bz 18 262143) (any_of HT_.out (by kernel_rfl)) ?_
         refine done_ (done_of HT_.out (by kernel_rfl)) ?_
         (try simp only [wrap64_u8w, wrap64_m256])
         try go_wp2
         go_meet
         case rel => exact ⟨_, (true), (by (rfl)), H', ⟨by have := HK1.out; (omega)⟩, ⟨by (with_reducible repeat (fail)); exact HO_5.out⟩, ⟨by repeat ((with_reducible (exact HB.out)))⟩⟩
       ·rw [if_neg c8] at H
        exact absurd H (by simp)
      ·rw [if_neg c7] at H
       exact absurd H (by simp)
     ·rw [if_neg c5] at H
      exact absurd H (by simp)
    case rest =>
     clear HC4
     try clear c1
     try clear p2
     try clear c3
     try clear c3b0
     try clear p3
     try clear q3
     try clear hx3
     try clear c5
     try clear c5b0
     try clear c6
     try clear c7
     try clear c7b0
     try clear c8
     try clear c8b0
     try clear c10
     try clear c10b0
     try clear c10b1
     try clear hx380_0
     try clear hx380_1
     try clear hx380_2
     try clear hx380_3
     try clear hx380_4
     try clear hx380_5
     try clear hx382_0
     try clear hx382_1
     try clear hx382_2
     try clear hx382_3
     try clear hx382_4
     try clear hx382_5
     try clear p2
     try clear p380
     try clear p382
     try clear q380
     try clear q382
     obtain ⟨kq, x32_3, rfl, HA, HJ3, HO_5, HB⟩ := hcut
     cases kq with
     | zero => exact absurd HA.out (by simp [r22_ahead.j1])
     | succ kj3 =>
      have H := HA.out
      clear HA
      simp only [r22_ahead.j1] at H
      by_cases c19 : x32_3 = true
      ·subst c19
       have H1 : (r22_ahead.l0 kj3 l0 a1 x5_1 (wrap64 (x6_1 + 1))) = some r := by rw [if_pos rfl] at H; exact H
       clear H
       have H := H1
       clear H1
       have H' := Sd.mk H
       clear H
       go_wp2
       go_roundg kj3
       case measure => have := HK1.out; have := HJ3.out; omega
       case rel => exact ⟨(x5_1), (wrap64 (x6_1 + 1)), (by (rfl)), H', ⟨by have := HK1.out; have := HJ3.out; omega⟩, ⟨by (with_reducible repeat (fail)); exact HO_5.out⟩, ⟨by repeat ((with_reducible (exact HB.out)))⟩⟩
      ·replace c19 := Bool.eq_false_iff.mpr c19
       subst c19
       have H1 : (r22_ahead.l1 kj3 l0 a1 x5_1 x6_1 0) = some r := by rw [if_neg (show ¬ (false = true) by decide)] at H; exact H
       clear H
       have H := H1
       clear H1
       have H' := Sd.mk H
       clear H
       go_wp2
       go_loopg [7] kj3 (fun kq v7 w' => ∃ (x7_3 : Int), v7 = .int .i64 x7_3 ∧ Sd (r22_ahead.l1 kq l0 a1 x5_1 x6_1 x7_3 = some r) ∧ Sd (kq ≤ kj3) ∧ Sd (Kd.R (Kd.int .i64) 3 w' w.heap.size (fun _ => True) u5 x5_1) ∧ Sd (Below w.heap.size w w'))
       case atStart => exact ⟨(0), (by (rfl)), H', ⟨Nat.le_refl _⟩, ⟨by (with_reducible repeat (fail)); exact HO_5.out⟩, ⟨by repeat ((with_reducible (exact HB.out)))⟩⟩
       case round =>
        clear H'
        try clear c1
        try clear p2
        try clear c3
        try clear c3b0
        try clear p3
        try clear q3
        try clear hx3
        try clear c5
        try clear c5b0
        try clear c6
        try clear p6
        try clear c7
        try clear c7b0
        try clear c8
        try clear c8b0
        try clear c10
        try clear c10b0
        try clear c10b1
        try clear c19
        try clear hx380_0
        try clear hx380_1
        try clear hx380_2
        try clear hx380_3
        try clear hx380_4
        try clear hx380_5
        try clear hx382_0
        try clear hx382_1
        try clear hx382_2
        try clear hx382_3
        try clear hx382_4
        try clear hx382_5
        try clear p2
        try clear p3
        try clear p380
        try clear p382
        try clear q3
        try clear q380
        try clear q382
        obtain ⟨x7_3, rfl, HA, HK3, HO_5, HB⟩ := hrel
        cases gk with
        | zero => exact absurd HA.out (by simp [r22_ahead.l1])
        | succ k3 =>
         have H := HA.out
         clear HA
         simp only [r22_ahead.l1] at H
         by_cases c20 : x7_3 < (x5_1.length : Int)
         ·rw [if_pos c20] at H
          have c20b0 : decide (x7_3 < (x5_1.length : Int)) = true := decide_eq_true c20
          clear c20
          by_cases c21 : 0 ≤ x7_3
          ·rw [if_pos c21] at H
           have c21b0 : decide (0 ≤ x7_3) = true := decide_eq_true c21
           clear c21
           replace H := Option.bind_eq_some_iff.mp H
           obtain ⟨t386, A220, H⟩ := H
           replace H : (if t386 = true then (r22_ahead.l1 k3 l0 a1 x5_1 x6_1 (wrap64 (x7_3 + 1))) else (if x7_3 ≤ (x5_1.length : Int) then ((some (x5_1.take (x7_3 : Int).toNat : List Int)).bind fun y387 => (if ([] : List Int).length + y387.length < 17592186044416 then ((some (([] : List Int) ++ y387 : List Int)).bind fun y391 => (if y391.length < 17592186044416 then ((some (y391 ++ [x6_1] : List Int)).bind fun y394 => ((some (x5_1.drop (x7_3 : Int).toNat : List Int)).bind fun y397 => (if y394.length + y397.length < 17592186044416 then (r22_ahead.l0 k3 l0 a1 (y394 ++ y397) (wrap64 (x6_1 + 1))) else (none)))) else (none))) else (none))) else (none))) = some r := H
           have A22 := Sd.mk A220
           clear A220
           by_cases c23 : t386 = true
           ·subst c23
            have H1 : (r22_ahead.l1 k3 l0 a1 x5_1 x6_1 (wrap64 (x7_3 + 1))) = some r := by rw [if_pos rfl] at H; exact H
            clear H
            have H := H1
            clear H1
            have H' := Sd.mk H
            clear H
            obtain ⟨Ao24, co24, eo24⟩ := Kd.R_slice HO_5.out
            subst eo24
            have p385 : 0 ≤ (x7_3 : Int) := odt (by (with_reducible assumption))
            have q385 : x7_3 < (x5_1.length : Int) := odt (by (with_reducible assumption))
            obtain ⟨ad385, e385, hx385_0⟩ := Kd.at_int (Kd.R_reads' HO_5.out).2.2 x7_3 p385 q385
            cases e385
            replace p385 := eq_true p385
            replace q385 := eq_true q385
            go_wp2_with ((go_at_call 89; (with_reducible refine (r22_newer.calls k3 _ _ l0 (rd x5_1 x7_3) x6_1 true _ ?side1 ?side2 A22.out).mono ?_); (case side1 => repeat ((exact (Kd.C_below HR0.out HB.out)))); (case side2 => exact HC0.out); rintro e w25 ⟨rfl, hb⟩; have n0_ := Sd.mk (Kd.R_below (by (with_reducible repeat (fail)); exact HO_5.out) hb); have n1_ := Sd.mk (below_step (by repeat ((with_reducible (exact HB.out)))) hb); clear HO_5; clear HB; have HO_5 := n0_; have HB := n1_; clear n0_ n1_; (try clear hb); (try clear hb2); (try clear hk); (try clear hi)))
            go_roundg k3
            case measure => have := HK1.out; have := HJ3.out; have := HK3.out; omega
            case rel => exact ⟨(wrap64 (x7_3 + 1)), (by (rfl)), H', ⟨by have := HK1.out; have := HJ3.out; have := HK3.out; omega⟩, ⟨by (with_reducible repeat (fail)); exact HO_5.out⟩, ⟨by repeat ((with_reducible (exact HB.out)))⟩⟩
           ·replace c23 := Bool.eq_false_iff.mpr c23
            subst c23
            have H1 : (if x7_3 ≤ (x5_1.length : Int) then ((some (x5_1.take (x7_3 : Int).toNat : List Int)).bind fun y387 => (if ([] : List Int).length + y387.length < 17592186044416 then ((some (([] : List Int) ++ y387 : List Int)).bind fun y391 => (if y391.length < 17592186044416 then ((some (y391 ++ [x6_1] : List Int)).bind fun y394 => ((some (x5_1.drop (x7_3 : Int).toNat : List Int)).bind fun y397 => (if y394.length + y397.length < 17592186044416 then (r22_ahead.l0 k3 l0 a1 (y394 ++ y397) (wrap64 (x6_1 + 1))) else (none)))) else (none))) else (none))) else (none)) = some r := by rw [if_neg (show ¬ (false = true) by decide)] at H; exact H
            clear H
            have H := H1
            clear H1
            have c26b0 := eq_true (odt (by (with_reducible assumption)) : 0 ≤ x7_3)
            by_cases c27 : x7_3 ≤ (x5_1.length : Int)
            ·rw [if_pos c27] at H
             have c27b0 := eq_true c27
             have c27b1 : decide (x7_3 ≤ (x5_1.length : Int)) = true := decide_eq_true c27
             clear c27
             obtain ⟨y387, hy387⟩ : ∃ y_ : List Int, y_ = (x5_1.take (x7_3 : Int).toNat) := ⟨_, rfl⟩
             replace H : (if ([] : List Int).length + y387.length < 17592186044416 then ((some (([] : List Int) ++ y387 : List Int)).bind fun y391 => (if y391.length < 17592186044416 then ((some (y391 ++ [x6_1] : List Int)).bind fun y394 => ((some (x5_1.drop (x7_3 : Int).toNat : List Int)).bind fun y397 => (if y394.length + y397.length < 17592186044416 then (r22_ahead.l0 k3 l0 a1 (y394 ++ y397) (wrap64 (x6_1 + 1))) else (none)))) else (none))) else (none)) = some r := by (have H2_ := (Option.bind_some _ _).symm.trans H; rw [hy387]; with_reducible exact H2_)
             have Ny387 := Sd.mk hy387
             clear hy387
             by_cases c28 : ([] : List Int).length + y387.length < 17592186044416
             ·rw [if_pos c28] at H
              have LMc28 := Sd.mk c28
              clear c28
              obtain ⟨y391, hy391⟩ : ∃ y_ : List Int, y_ = (([] : List Int) ++ y387) := ⟨_, rfl⟩
              replace H : (if y391.length < 17592186044416 then ((some (y391 ++ [x6_1] : List Int)).bind fun y394 => ((some (x5_1.drop (x7_3 : Int).toNat : List Int)).bind fun y397 => (if y394.length + y397.length < 17592186044416 then (r22_ahead.l0 k3 l0 a1 (y394 ++ y397) (wrap64 (x6_1 + 1))) else (none)))) else (none)) = some r := by (have H2_ := (Option.bind_some _ _).symm.trans H; rw [hy391]; with_reducible exact H2_)
              have Ny391 := Sd.mk hy391
              clear hy391
              by_cases c29 : y391.length < 17592186044416
              ·rw [if_pos c29] at H
               have LMc29 := Sd.mk c29
               clear c29
               obtain ⟨y394, hy394⟩ : ∃ y_ : List Int, y_ = (y391 ++ [x6_1]) := ⟨_, rfl⟩
               replace H : ((some (x5_1.drop (x7_3 : Int).toNat : List Int)).bind fun y397 => (if y394.length + y397.length < 17592186044416 then (r22_ahead.l0 k3 l0 a1 (y394 ++ y397) (wrap64 (x6_1 + 1))) else (none))) = some r := by (have H2_ := (Option.bind_some _ _).symm.trans H; rw [hy394]; with_reducible exact H2_)
               have Ny394 := Sd.mk hy394
               clear hy394
               have c30b0 := eq_true (odt (by (with_reducible assumption)) : 0 ≤ x7_3)
               have c31b0 := eq_true (odt (by (with_reducible assumption)) : x7_3 ≤ (x5_1.length : Int))
               obtain ⟨y397, hy397⟩ : ∃ y_ : List Int, y_ = (x5_1.drop (x7_3 : Int).toNat) := ⟨_, rfl⟩
               replace H : (if y394.length + y397.length < 17592186044416 then (r22_ahead.l0 k3 l0 a1 (y394 ++ y397) (wrap64 (x6_1 + 1))) else (none)) = some r := by (have H2_ := (Option.bind_some _ _).symm.trans H; rw [hy397]; with_reducible exact H2_)
               have Ny397 := Sd.mk hy397
               clear hy397
               by_cases c32 : y394.length + y397.length < 17592186044416
               ·rw [if_pos c32] at H
                have LMc32 := Sd.mk c32
                clear c32
                obtain ⟨y401, hy401⟩ : ∃ y_ : List Int, y_ = (y394 ++ y397) := ⟨_, rfl⟩
                replace H : (r22_ahead.l0 k3 l0 a1 y401 (wrap64 (x6_1 + 1))) = some r := by (rw [hy401]; with_reducible exact H)
                have Ny401 := Sd.mk hy401
                clear hy401
                have H' := Sd.mk H
                clear H
                obtain ⟨Ao33, co33, eo33⟩ := Kd.R_slice HO_5.out
                subst eo33
                have p385 : 0 ≤ (x7_3 : Int) := odt (by (with_reducible assumption))
                have q385 : x7_3 < (x5_1.length : Int) := odt (by (with_reducible assumption))
                obtain ⟨ad385, e385, hx385_0⟩ := Kd.at_int (Kd.R_reads' HO_5.out).2.2 x7_3 p385 q385
                cases e385
                replace p385 := eq_true p385
                replace q385 := eq_true q385
                go_wp2_with (first | (go_at_call 89; (with_reducible refine (r22_newer.calls k3 _ _ l0 (rd x5_1 x7_3) x6_1 false _ ?side1 ?side2 A22.out).mono ?_); (case side1 => repeat ((exact (Kd.C_below HR0.out HB.out)))); (case side2 => exact HC0.out); rintro e w34 ⟨rfl, hb⟩; have n0_ := Sd.mk (Kd.R_below (by (with_reducible repeat (fail)); exact HO_5.out) hb); have n1_ := Sd.mk (below_step (by repeat ((with_reducible (exact HB.out)))) hb); clear HO_5; clear HB; have HO_5 := n0_; have HB := n1_; clear n0_ n1_; (try clear hb); (try clear hb2); (try clear hk); (try clear hi); have q35 : (x7_3 : Int) ≤ ((x5_1.length : Int) : Int) := odt (by (with_reducible assumption)); obtain ⟨i035, hi035, _, hsz35, _⟩ := info_parts info3; have hroom35 : x5_1.length ≤ co33 := (Kd.R_reads' HO_5.out).2.1; have hC35 : Kd.C (Kd.int .i64) _ (some ad385) x5_1.length x5_1 := (Kd.R_reads' HO_5.out).2.2; have hcut35 := cut_to (P := Tryz.prog) 39 3 .i64 Tryz.underlying39 hi035 (some ad385) x5_1.length co33 x7_3 (odt (by (with_reducible assumption))) q35 hroom35; have hr35 := Kd.C_take (m := (x7_3 : Int).toNat) hC35 (by omega); have hy35 : y387.length = (x7_3 : Int).toNat := (by rw [Ny387.out, List.length_take]; omega); rw [← Ny387.out] at hr35; rw [← hy35] at hcut35; have HR390 := Sd.mk hr35; have HC390 := Sd.mk (show y387.length ≤ co33 from by omega); clear hr35 hC35 hroom35 hi035 hsz35; have KY35 := Sd.mk hy35; clear hy35; have KL35 := Sd.mk (show (x7_3 : Int).toNat ≤ x5_1.length from by omega); replace q35 := eq_true q35) | ((with_reducible refine gate_builtin (b := .append) (xs := #[.tmp 48, .tmp 51]) rfl ?_); at_builtin; refine Kd.R_append_rows (Kd.int .i64) (w0 := w) w.heap.size rfl (.tmp 48) (.tmp 51) 39 3 (.int .i64 0) 8 rfl Tryz.underlying39 info3 rfl (by decide) (by omega) (.slice none 0 0) ([] : List Int) y387 _ _ _ (fun k_ => some k_ ≠ (.slice (some ad385) x5_1.length co33 : Value).ownBlock) (fun _ => False) rfl rfl ?aO ?aR (fun _ _ h => h) (fun _ h => h.elim) ?aF ?aB ?aS ?aL ?_; (case aR => repeat ((exact (by repeat ((exact HR390.out)))))); (case aB => exact (by repeat ((with_reducible (exact HB.out))))); (case aF => exact (fun k_ hk => Kd.fresh' (Kd.R_lt (by (with_reducible repeat (fail)); exact HO_5.out)) k_ hk)); (case aO => exact ((Kd.R_nil _ _ _ _ (fun k_ => some k_ ≠ (.slice (some ad385) x5_1.length co33 : Value).ownBlock)))); (case aS => exact (below_size (by repeat ((with_reducible (exact HB.out)))))); (case aL => have := LMc28.out; omega); intro v392 w36 ho hb hg hat; rw [← Ny391.out] at ho; have n0_ := Sd.mk (Kd.R_after (Kd.R_apart_nil (by (with_reducible repeat (fail)); exact HO_5.out)) hg hat); have n1_ := Sd.mk (hb); have n2_ := Sd.mk ((show Kd.C (Kd.int .i64) w36 (some ad385) y387.length y387 from by rw [Ny387.out]; exact Kd.C_take (m := (x7_3 : Int).toNat) ((Kd.R_reads' (Kd.R_after (Kd.R_apart_nil (by (with_reducible repeat (fail)); exact HO_5.out)) hg hat)).2.2) KL35.out)); have n3_ := Sd.mk (ho); clear HO_5; clear HB; clear HR390; have HO_5 := n0_; have HB := n1_; have HR390 := n2_; have HO393 := n3_; clear n0_ n1_ n2_ n3_; clear ho hb hg hat) | ((with_reducible refine gate_builtin (b := .append) (xs := #[.tmp 53, .tmp 55]) rfl ?_); at_builtin; refine Kd.R_append (Kd.int .i64) (w0 := w) w.heap.size rfl (.tmp 53) (.tmp 55) 39 3 (.int .i64 0) 8 rfl Tryz.underlying39 info3 rfl (by decide) (by omega) v392 y391 x6_1 [.int .i64 x6_1] (fun k_ => some k_ ≠ (.slice (some ad385) x5_1.length co33 : Value).ownBlock) (fun _ => False) rfl rfl ?aP (fun _ hk => hk.elim) ?aF ?aO ?aB ?aS ?aL ?_; (case aP => exact rfl); (case aB => exact (by repeat ((with_reducible (exact HB.out))))); (case aF => exact (fun k_ hk => Kd.fresh' (Kd.R_lt (by (with_reducible repeat (fail)); exact HO_5.out)) k_ hk)); (case aO => exact (by (with_reducible repeat (fail)); exact HO393.out)); (case aS => exact (below_size (by repeat ((with_reducible (exact HB.out)))))); (case aL => have := LMc29.out; omega); intro v395 w37 ho hb hg hat; rw [← Ny394.out] at ho; have n0_ := Sd.mk (Kd.R_after (ok := (fun _ => True)) (by (with_reducible repeat (fail)); exact HO_5.out) hg hat); have n1_ := Sd.mk (hb); have n2_ := Sd.mk ((show Kd.C (Kd.int .i64) w37 (some ad385) y387.length y387 from by rw [Ny387.out]; exact Kd.C_take (m := (x7_3 : Int).toNat) ((Kd.R_reads' (Kd.R_after (ok := (fun _ => True)) (by (with_reducible repeat (fail)); exact HO_5.out) hg hat)).2.2) KL35.out)); have n3_ := Sd.mk (ho); clear HO_5; clear HB; clear HR390; clear HO393; have HO_5 := n0_; have HB := n1_; have HR390 := n2_; have HO396 := n3_; clear n0_ n1_ n2_ n3_; clear ho hb hg hat; have q38 : (x7_3 : Int) ≤ ((x5_1.length : Int) : Int) := odt (by (with_reducible assumption)); obtain ⟨i038, hi038, _, hsz38, _⟩ := info_parts info3; have hroom38 : x5_1.length ≤ co33 := (Kd.R_reads' HO_5.out).2.1; have hC38 : Kd.C (Kd.int .i64) _ (some ad385) x5_1.length x5_1 := (Kd.R_reads' HO_5.out).2.2; have q038 : (0 : Int) ≤ (x7_3 : Int) := odt (by (with_reducible assumption)); have hcut38 := cut_from (P := Tryz.prog) 39 3 .i64 Tryz.underlying39 hi038 1 hsz38 (some ad385) x5_1.length co33 x7_3 q038 q38; have hr38 := Kd.C_drop (m := (x7_3 : Int).toNat) (c := co33) hC38 (by omega) hroom38; obtain ⟨A38, hA38⟩ : ∃ A1, A1 = (if co33 = (x7_3 : Int).toNat then (some ad385) else ((some ad385) : Option Addr).map (·.add ((x7_3 : Int).toNat * 1))) := ⟨_, rfl⟩; obtain ⟨c38, hc38⟩ : ∃ c1, c1 = co33 - (x7_3 : Int).toNat := ⟨_, rfl⟩; have hy38 : y397.length = x5_1.length - (x7_3 : Int).toNat := (by rw [Ny397.out, List.length_drop] <;> omega); rw [show (x5_1).drop (x7_3 : Int).toNat = y397 from Ny397.out.symm] at hr38; replace hr38 : Kd.C (Kd.int .i64) _ A38 y397.length y397 := (by rw [hA38]; exact hr38); rw [← hy38, ← hA38, ← hc38] at hcut38; have HR400 := Sd.mk hr38; have HC400 := Sd.mk (show y397.length ≤ c38 from by rw [hy38, hc38]; exact Nat.sub_le_sub_right hroom38 _); clear hr38 hC38 hroom38 hi038 hsz38 hc38; have KY38 := Sd.mk hy38; have KA38 := Sd.mk hA38; clear hy38 hA38; have KL38 := Sd.mk (show (x7_3 : Int).toNat ≤ x5_1.length from by omega); replace q38 := eq_true q38) | ((with_reducible refine gate_builtin (b := .append) (xs := #[.tmp 57, .tmp 60]) rfl ?_); at_builtin; refine Kd.R_append_rows (Kd.int .i64) (w0 := w) w.heap.size rfl (.tmp 57) (.tmp 60) 39 3 (.int .i64 0) 8 rfl Tryz.underlying39 info3 rfl (by decide) (by omega) v395 y394 y397 _ _ _ (fun k_ => some k_ ≠ (.slice (some ad385) x5_1.length co33 : Value).ownBlock) (fun _ => False) rfl rfl ?aO ?aR (fun _ _ h => h) (fun _ h => h.elim) ?aF ?aB ?aS ?aL ?_; (case aR => repeat ((exact (by repeat ((exact HR400.out)))))); (case aB => exact (by repeat ((with_reducible (exact HB.out))))); (case aF => exact (fun k_ hk => Kd.fresh' (Kd.R_lt (by (with_reducible repeat (fail)); exact HO_5.out)) k_ hk)); (case aO => exact (by (with_reducible repeat (fail)); exact HO396.out)); (case aS => exact (below_size (by repeat ((with_reducible (exact HB.out)))))); (case aL => have := LMc32.out; omega); intro v402 w39 ho hb hg hat; rw [← Ny401.out] at ho; have n0_ := Sd.mk (Kd.R_after (ok := (fun _ => True)) (by (with_reducible repeat (fail)); exact HO_5.out) hg hat); have n1_ := Sd.mk (hb); have n2_ := Sd.mk ((show Kd.C (Kd.int .i64) w39 (some ad385) y387.length y387 from by rw [Ny387.out]; exact Kd.C_take (m := (x7_3 : Int).toNat) ((Kd.R_reads' (Kd.R_after (ok := (fun _ => True)) (by (with_reducible repeat (fail)); exact HO_5.out) hg hat)).2.2) KL35.out)); have n3_ := Sd.mk ((show Kd.C (Kd.int .i64) w39 A38 y397.length y397 from by rw [Ny397.out, KA38.out]; exact Kd.C_drop (m := (x7_3 : Int).toNat) (c := co33) ((Kd.R_reads' (Kd.R_after (ok := (fun _ => True)) (by (with_reducible repeat (fail)); exact HO_5.out) hg hat)).2.2) KL38.out ((Kd.R_reads' (Kd.R_after (ok := (fun _ => True)) (by (with_reducible repeat (fail)); exact HO_5.out) hg hat)).2.1))); have n4_ := Sd.mk (ho); clear HO_5; clear HB; clear HR390; clear HR400; clear HO396; have HO_5 := n0_; have HB := n1_; have HR390 := n2_; have HR400 := n3_; have HO403 := n4_; clear n0_ n1_ n2_ n3_ n4_; clear ho hb hg hat))
                go_roundg k3
                case measure => have := HK1.out; have := HJ3.out; have := HK3.out; omega
                case rel => exact ⟨(y401), (wrap64 (x6_1 + 1)), (by (rfl)), H', ⟨by have := HK1.out; have := HJ3.out; have := HK3.out; omega⟩, ⟨by (with_reducible repeat (fail)); exact Kd.R_mono HO403.out (fun _ hk => trivial)⟩, ⟨by repeat ((with_reducible (exact HB.out)))⟩⟩
               ·rw [if_neg c32] at H
                exact absurd H (by simp)
              ·rw [if_neg c29] at H
               exact absurd H (by simp)
             ·rw [if_neg c28] at H
              exact absurd H (by simp)
            ·rw [if_neg c27] at H
             exact absurd H (by simp)
          ·rw [if_neg c21] at H
           exact absurd H (by simp)
         ·rw [if_neg c20] at H
          have c20b0 : decide (x7_3 < (x5_1.length : Int)) = false := decide_eq_false c20
          clear c20
          by_cases c40 : 0 ≤ x7_3
          ·rw [if_pos c40] at H
           have c40b0 := eq_true c40
           have c40b1 : decide (0 ≤ x7_3) = true := decide_eq_true c40
           clear c40
           by_cases c41 : x7_3 ≤ (x5_1.length : Int)
           ·rw [if_pos c41] at H
            have c41b0 := eq_true c41
            have c41b1 : decide (x7_3 ≤ (x5_1.length : Int)) = true := decide_eq_true c41
            clear c41
            obtain ⟨y404, hy404⟩ : ∃ y_ : List Int, y_ = (x5_1.take (x7_3 : Int).toNat) := ⟨_, rfl⟩
            replace H : (if ([] : List Int).length + y404.length < 17592186044416 then ((some (([] : List Int) ++ y404 : List Int)).bind fun y408 => (if y408.length < 17592186044416 then ((some (y408 ++ [x6_1] : List Int)).bind fun y411 => ((some (x5_1.drop (x7_3 : Int).toNat : List Int)).bind fun y414 => (if y411.length + y414.length < 17592186044416 then (r22_ahead.l0 k3 l0 a1 (y411 ++ y414) (wrap64 (x6_1 + 1))) else (none)))) else (none))) else (none)) = some r := by (have H2_ := (Option.bind_some _ _).symm.trans H; rw [hy404]; with_reducible exact H2_)
            have Ny404 := Sd.mk hy404
            clear hy404
            by_cases c42 : ([] : List Int).length + y404.length < 17592186044416
            ·rw [if_pos c42] at H
             have LMc42 := Sd.mk c42
             clear c42
             obtain ⟨y408, hy408⟩ : ∃ y_ : List Int, y_ = (([] : List Int) ++ y404) := ⟨_, rfl⟩
             replace H : (if y408.length < 17592186044416 then ((some (y408 ++ [x6_1] : List Int)).bind fun y411 => ((some (x5_1.drop (x7_3 : Int).toNat : List Int)).bind fun y414 => (if y411.length + y414.length < 17592186044416 then (r22_ahead.l0 k3 l0 a1 (y411 ++ y414) (wrap64 (x6_1 + 1))) else (none)))) else (none)) = some r := by (have H2_ := (Option.bind_some _ _).symm.trans H; rw [hy408]; with_reducible exact H2_)
             have Ny408 := Sd.mk hy408
             clear hy408
             by_cases c43 : y408.length < 17592186044416
             ·rw [if_pos c43] at H
              have LMc43 := Sd.mk c43
              clear c43
              obtain ⟨y411, hy411⟩ : ∃ y_ : List Int, y_ = (y408 ++ [x6_1]) := ⟨_, rfl⟩
              replace H : ((some (x5_1.drop (x7_3 : Int).toNat : List Int)).bind fun y414 => (if y411.length + y414.length < 17592186044416 then (r22_ahead.l0 k3 l0 a1 (y411 ++ y414) (wrap64 (x6_1 + 1))) else (none))) = some r := by (have H2_ := (Option.bind_some _ _).symm.trans H; rw [hy411]; with_reducible exact H2_)
              have Ny411 := Sd.mk hy411
              clear hy411
              have c44b0 := eq_true (odt (by (with_reducible assumption)) : 0 ≤ x7_3)
              have c45b0 := eq_true (odt (by (with_reducible assumption)) : x7_3 ≤ (x5_1.length : Int))
              obtain ⟨y414, hy414⟩ : ∃ y_ : List Int, y_ = (x5_1.drop (x7_3 : Int).toNat) := ⟨_, rfl⟩
              replace H : (if y411.length + y414.length < 17592186044416 then (r22_ahead.l0 k3 l0 a1 (y411 ++ y414) (wrap64 (x6_1 + 1))) else (none)) = some r := by (have H2_ := (Option.bind_some _ _).symm.trans H; rw [hy414]; with_reducible exact H2_)
              have Ny414 := Sd.mk hy414
              clear hy414
              by_cases c46 : y411.length + y414.length < 17592186044416
              ·rw [if_pos c46] at H
               have LMc46 := Sd.mk c46
               clear c46
               obtain ⟨y418, hy418⟩ : ∃ y_ : List Int, y_ = (y411 ++ y414) := ⟨_, rfl⟩
               replace H : (r22_ahead.l0 k3 l0 a1 y418 (wrap64 (x6_1 + 1))) = some r := by (rw [hy418]; with_reducible exact H)
               have Ny418 := Sd.mk hy418
               clear hy418
               have H' := Sd.mk H
               clear H
               obtain ⟨Ao47, co47, eo47⟩ := Kd.R_slice HO_5.out
               subst eo47
               have q48 : (x7_3 : Int) ≤ ((x5_1.length : Int) : Int) := odt (by (with_reducible assumption))
               obtain ⟨i048, hi048, _, hsz48, _⟩ := info_parts info3
               have hroom48 : x5_1.length ≤ co47 := (Kd.R_reads' HO_5.out).2.1
               have hC48 : Kd.C (Kd.int .i64) _ Ao47 x5_1.length x5_1 := (Kd.R_reads' HO_5.out).2.2
               have hcut48 := cut_to (P := Tryz.prog) 39 3 .i64 Tryz.underlying39 hi048 Ao47 x5_1.length co47 x7_3 (odt (by (with_reducible assumption))) q48 hroom48
               have hr48 := Kd.C_take (m := (x7_3 : Int).toNat) hC48 (by omega)
               have hy48 : y404.length = (x7_3 : Int).toNat := (by rw [Ny404.out, List.length_take]; omega)
               rw [← Ny404.out] at hr48
               rw [← hy48] at hcut48
               have HR407 := Sd.mk hr48
               have HC407 := Sd.mk (show y404.length ≤ co47 from by omega)
               clear hr48 hC48 hroom48 hi048 hsz48
               have KY48 := Sd.mk hy48
               clear hy48
               have KL48 := Sd.mk (show (x7_3 : Int).toNat ≤ x5_1.length from by omega)
               replace q48 := eq_true q48
               go_wp2_with (first | ((with_reducible refine gate_builtin (b := .append) (xs := #[.tmp 48, .tmp 51]) rfl ?_); at_builtin; refine Kd.R_append_rows (Kd.int .i64) (w0 := w) w.heap.size rfl (.tmp 48) (.tmp 51) 39 3 (.int .i64 0) 8 rfl Tryz.underlying39 info3 rfl (by decide) (by omega) (.slice none 0 0) ([] : List Int) y404 _ _ _ (fun k_ => some k_ ≠ (.slice Ao47 x5_1.length co47 : Value).ownBlock) (fun _ => False) rfl rfl ?aO ?aR (fun _ _ h => h) (fun _ h => h.elim) ?aF ?aB ?aS ?aL ?_; (case aR => repeat ((exact (by repeat ((exact HR407.out)))))); (case aB => exact (by repeat ((with_reducible (exact HB.out))))); (case aF => exact (fun k_ hk => Kd.fresh' (Kd.R_lt (by (with_reducible repeat (fail)); exact HO_5.out)) k_ hk)); (case aO => exact ((Kd.R_nil _ _ _ _ (fun k_ => some k_ ≠ (.slice Ao47 x5_1.length co47 : Value).ownBlock)))); (case aS => exact (below_size (by repeat ((with_reducible (exact HB.out)))))); (case aL => have := LMc42.out; omega); intro v409 w49 ho hb hg hat; rw [← Ny408.out] at ho; have n0_ := Sd.mk (Kd.R_after (Kd.R_apart_nil (by (with_reducible repeat (fail)); exact HO_5.out)) hg hat); have n1_ := Sd.mk (hb); have n2_ := Sd.mk ((show Kd.C (Kd.int .i64) w49 Ao47 y404.length y404 from by rw [Ny404.out]; exact Kd.C_take (m := (x7_3 : Int).toNat) ((Kd.R_reads' (Kd.R_after (Kd.R_apart_nil (by (with_reducible repeat (fail)); exact HO_5.out)) hg hat)).2.2) KL48.out)); have n3_ := Sd.mk (ho); clear HO_5; clear HB; clear HR407; have HO_5 := n0_; have HB := n1_; have HR407 := n2_; have HO410 := n3_; clear n0_ n1_ n2_ n3_; clear ho hb hg hat) | ((with_reducible refine gate_builtin (b := .append) (xs := #[.tmp 53, .tmp 55]) rfl ?_); at_builtin; refine Kd.R_append (Kd.int .i64) (w0 := w) w.heap.size rfl (.tmp 53) (.tmp 55) 39 3 (.int .i64 0) 8 rfl Tryz.underlying39 info3 rfl (by decide) (by omega) v409 y408 x6_1 [.int .i64 x6_1] (fun k_ => some k_ ≠ (.slice Ao47 x5_1.length co47 : Value).ownBlock) (fun _ => False) rfl rfl ?aP (fun _ hk => hk.elim) ?aF ?aO ?aB ?aS ?aL ?_; (case aP => exact rfl); (case aB => exact (by repeat ((with_reducible (exact HB.out))))); (case aF => exact (fun k_ hk => Kd.fresh' (Kd.R_lt (by (with_reducible repeat (fail)); exact HO_5.out)) k_ hk)); (case aO => exact (by (with_reducible repeat (fail)); exact HO410.out)); (case aS => exact (below_size (by repeat ((with_reducible (exact HB.out)))))); (case aL => have := LMc43.out; omega); intro v412 w50 ho hb hg hat; rw [← Ny411.out] at ho; have n0_ := Sd.mk (Kd.R_after (ok := (fun _ => True)) (by (with_reducible repeat (fail)); exact HO_5.out) hg hat); have n1_ := Sd.mk (hb); have n2_ := Sd.mk ((show Kd.C (Kd.int .i64) w50 Ao47 y404.length y404 from by rw [Ny404.out]; exact Kd.C_take (m := (x7_3 : Int).toNat) ((Kd.R_reads' (Kd.R_after (ok := (fun _ => True)) (by (with_reducible repeat (fail)); exact HO_5.out) hg hat)).2.2) KL48.out)); have n3_ := Sd.mk (ho); clear HO_5; clear HB; clear HR407; clear HO410; have HO_5 := n0_; have HB := n1_; have HR407 := n2_; have HO413 := n3_; clear n0_ n1_ n2_ n3_; clear ho hb hg hat; have q51 : (x7_3 : Int) ≤ ((x5_1.length : Int) : Int) := odt (by (with_reducible assumption)); obtain ⟨i051, hi051, _, hsz51, _⟩ := info_parts info3; have hroom51 : x5_1.length ≤ co47 := (Kd.R_reads' HO_5.out).2.1; have hC51 : Kd.C (Kd.int .i64) _ Ao47 x5_1.length x5_1 := (Kd.R_reads' HO_5.out).2.2; have q051 : (0 : Int) ≤ (x7_3 : Int) := odt (by (with_reducible assumption)); have hcut51 := cut_from (P := Tryz.prog) 39 3 .i64 Tryz.underlying39 hi051 1 hsz51 Ao47 x5_1.length co47 x7_3 q051 q51; have hr51 := Kd.C_drop (m := (x7_3 : Int).toNat) (c := co47) hC51 (by omega) hroom51; obtain ⟨A51, hA51⟩ : ∃ A1, A1 = (if co47 = (x7_3 : Int).toNat then Ao47 else (Ao47 : Option Addr).map (·.add ((x7_3 : Int).toNat * 1))) := ⟨_, rfl⟩; obtain ⟨c51, hc51⟩ : ∃ c1, c1 = co47 - (x7_3 : Int).toNat := ⟨_, rfl⟩; have hy51 : y414.length = x5_1.length - (x7_3 : Int).toNat := (by rw [Ny414.out, List.length_drop] <;> omega); rw [show (x5_1).drop (x7_3 : Int).toNat = y414 from Ny414.out.symm] at hr51; replace hr51 : Kd.C (Kd.int .i64) _ A51 y414.length y414 := (by rw [hA51]; exact hr51); rw [← hy51, ← hA51, ← hc51] at hcut51; have HR417 := Sd.mk hr51; have HC417 := Sd.mk (show y414.length ≤ c51 from by rw [hy51, hc51]; exact Nat.sub_le_sub_right hroom51 _); clear hr51 hC51 hroom51 hi051 hsz51 hc51; have KY51 := Sd.mk hy51; have KA51 := Sd.mk hA51; clear hy51 hA51; have KL51 := Sd.mk (show (x7_3 : Int).toNat ≤ x5_1.length from by omega); replace q51 := eq_true q51) | ((with_reducible refine gate_builtin (b := .append) (xs := #[.tmp 57, .tmp 60]) rfl ?_); at_builtin; refine Kd.R_append_rows (Kd.int .i64) (w0 := w) w.heap.size rfl (.tmp 57) (.tmp 60) 39 3 (.int .i64 0) 8 rfl Tryz.underlying39 info3 rfl (by decide) (by omega) v412 y411 y414 _ _ _ (fun k_ => some k_ ≠ (.slice Ao47 x5_1.length co47 : Value).ownBlock) (fun _ => False) rfl rfl ?aO ?aR (fun _ _ h => h) (fun _ h => h.elim) ?aF ?aB ?aS ?aL ?_; (case aR => repeat ((exact (by repeat ((exact HR417.out)))))); (case aB => exact (by repeat ((with_reducible (exact HB.out))))); (case aF => exact (fun k_ hk => Kd.fresh' (Kd.R_lt (by (with_reducible repeat (fail)); exact HO_5.out)) k_ hk)); (case aO => exact (by (with_reducible repeat (fail)); exact HO413.out)); (case aS => exact (below_size (by repeat ((with_reducible (exact HB.out)))))); (case aL => have := LMc46.out; omega); intro v419 w52 ho hb hg hat; rw [← Ny418.out] at ho; have n0_ := Sd.mk (Kd.R_after (ok := (fun _ => True)) (by (with_reducible repeat (fail)); exact HO_5.out) hg hat); have n1_ := Sd.mk (hb); have n2_ := Sd.mk ((show Kd.C (Kd.int .i64) w52 Ao47 y404.length y404 from by rw [Ny404.out]; exact Kd.C_take (m := (x7_3 : Int).toNat) ((Kd.R_reads' (Kd.R_after (ok := (fun _ => True)) (by (with_reducible repeat (fail)); exact HO_5.out) hg hat)).2.2) KL48.out)); have n3_ := Sd.mk ((show Kd.C (Kd.int .i64) w52 A51 y414.length y414 from by rw [Ny414.out, KA51.out]; exact Kd.C_drop (m := (x7_3 : Int).toNat) (c := co47) ((Kd.R_reads' (Kd.R_after (ok := (fun _ => True)) (by (with_reducible repeat (fail)); exact HO_5.out) hg hat)).2.2) KL51.out ((Kd.R_reads' (Kd.R_after (ok := (fun _ => True)) (by (with_reducible repeat (fail)); exact HO_5.out) hg hat)).2.1))); have n4_ := Sd.mk (ho); clear HO_5; clear HB; clear HR407; clear HR417; clear HO413; have HO_5 := n0_; have HB := n1_; have HR407 := n2_; have HR417 := n3_; have HO420 := n4_; clear n0_ n1_ n2_ n3_ n4_; clear ho hb hg hat))
               go_roundg k3
               case measure => have := HK1.out; have := HJ3.out; have := HK3.out; omega
               case rel => exact ⟨(y418), (wrap64 (x6_1 + 1)), (by (rfl)), H', ⟨by have := HK1.out; have := HJ3.out; have := HK3.out; omega⟩, ⟨by (with_reducible repeat (fail)); exact Kd.R_mono HO420.out (fun _ hk => trivial)⟩, ⟨by repeat ((with_reducible (exact HB.out)))⟩⟩
              ·rw [if_neg c46] at H
               exact absurd H (by simp)
             ·rw [if_neg c43] at H
              exact absurd H (by simp)
            ·rw [if_neg c42] at H
             exact absurd H (by simp)
           ·rw [if_neg c41] at H
            exact absurd H (by simp)
          ·rw [if_neg c40] at H
           exact absurd H (by simp)
   ·rw [if_neg c3] at H
    have c3b0 : decide (x6_1 < (l0.length : Int)) = false := decide_eq_false c3
    clear c3
    obtain rfl := Option.some.inj H
    go_wp2
    go_ret
    exact ⟨_, by (rfl), by (with_reducible repeat (fail)); exact HO_5.out, by repeat ((with_reducible (exact HB.out)))⟩
end Go.Proofs.YtpdkgpmcmebefaaGreatDoor.Q
