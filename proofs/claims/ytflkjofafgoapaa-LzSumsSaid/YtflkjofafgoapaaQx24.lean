-- Made by wip/qprint.sh (a patched copy of the kit's print program) out of the translation. Lean checks it.
import Derived.Test.YtflkjofafgoapaaQx0
import Derived.Test.YtflkjofafgoapaaQx5
import Derived.Test.YtflkjofafgoapaaQx10
import Derived.Test.YtflkjofafgoapaaHPack
import Derived.Test.YtflkjofafgoapaaHUnpack
namespace Go.Proofs.Ytflkjofafgoapaa.Q
open Go.RowKit Go.Proofs.YtflkjofafgoapaaW.PrintWords Go.Proofs.YtflkjofafgoapaaW.PrintLast Go.Proofs.YtflkjofafgoapaaW.PrintMore
attribute [local go_sem] max2_int min2_int max_two min_two max_three min_three max_four min_four   -- for this text's walks alone
set_option linter.unusedVariables false
set_option linter.unusedSimpArgs false

/-! ### garretlaw12_LzSums: function 7 -/
mutual
def garretlaw12_LzSums.j0 : Nat → ByteArray → ByteArray → Bool → Option (Bool)
  | 0, _, _, _ => none
  | k + 1, x0, x1, x25 => if x25 = true then (some true) else ((lz_Pack.f x0).bind fun bt257 => (if bt257.2 = 0 then ((some (([bt257.1, x1] : List ByteArray) : List ByteArray)).bind fun y259 => (garretlaw12_LzSums.l0 k bt257.1 y259 (y259.length : Int) 0)) else (some false)))
def garretlaw12_LzSums.l0 : Nat → ByteArray → List ByteArray → Int → Int → Option (Bool)
  | 0, _, _, _, _ => none
  | k + 1, x5, x35, x36, x37 => if x37 < x36 then (if 0 ≤ x37 then (if x37 < (x35.length : Int) then ((lz_Sequences.f k (rdOf ByteArray.empty x35 x37)).bind fun bt263 => (if bt263.2 = 0 then (garretlaw12_LzSums.l1 k x5 (rdOf ByteArray.empty x35 x37) bt263.1 ([] : List Int) x35 x36 x37 bt263.1 (bt263.1.length : Int) 0) else (if (rdOf ByteArray.empty x35 x37).toList = x5.toList then (some false) else (garretlaw12_LzSums.l0 k x5 x35 x36 (wrap64 (x37 + 1)))))) else (none)) else (none)) else (some true)
def garretlaw12_LzSums.l1 : Nat → ByteArray → ByteArray → List (S35) → List Int → List ByteArray → Int → Int → List (S35) → Int → Int → Option (Bool)
  | 0, _, _, _, _, _, _, _, _, _, _ => none
  | k + 1, x5, x8, x9, x11, x35, x36, x37, x51, x52, x53 => if x53 < x52 then (if 0 ≤ x53 then (if x53 < (x51.length : Int) then (if x11.length + ((rd_T35 x51 x53).f0).size < 140737488355328 then ((some (x11 ++ bytesOf ((rd_T35 x51 x53).f0) : List Int)).bind fun y271 => (if ((((rd_T35 x51 x53).f1) == 0) != (x53 == (wrap64 ((x9.length : Int) - 1)))) = true then (garretlaw12_LzSums.j3 k x5 x8 x9 y271 x35 x36 x37 x51 x52 x53 true ((rd_T35 x51 x53).f0) ((rd_T35 x51 x53).f1) ((rd_T35 x51 x53).f2)) else (if ((((rd_T35 x51 x53).f2) == 0) != (((rd_T35 x51 x53).f1) == 0)) = true then (garretlaw12_LzSums.j3 k x5 x8 x9 y271 x35 x36 x37 x51 x52 x53 true ((rd_T35 x51 x53).f0) ((rd_T35 x51 x53).f1) ((rd_T35 x51 x53).f2)) else (if ((rd_T35 x51 x53).f1) < 0 then (garretlaw12_LzSums.j3 k x5 x8 x9 y271 x35 x36 x37 x51 x52 x53 true ((rd_T35 x51 x53).f0) ((rd_T35 x51 x53).f1) ((rd_T35 x51 x53).f2)) else (if ((rd_T35 x51 x53).f1) > (y271.length : Int) then (garretlaw12_LzSums.j3 k x5 x8 x9 y271 x35 x36 x37 x51 x52 x53 true ((rd_T35 x51 x53).f0) ((rd_T35 x51 x53).f1) ((rd_T35 x51 x53).f2)) else (garretlaw12_LzSums.j3 k x5 x8 x9 y271 x35 x36 x37 x51 x52 x53 (decide (((rd_T35 x51 x53).f2) > 131072)) ((rd_T35 x51 x53).f0) ((rd_T35 x51 x53).f1) ((rd_T35 x51 x53).f2))))))) else (none)) else (none)) else (none)) else ((lz_Unpack.f x8 (x11.length : Int)).bind fun bt267 => (if bt267.2 = 0 then (if bt267.1.toList = (strOfNums x11).toList then (garretlaw12_LzSums.l0 k x5 x35 x36 (wrap64 (x37 + 1))) else (some false)) else (some false)))
def garretlaw12_LzSums.j3 : Nat → ByteArray → ByteArray → List (S35) → List Int → List ByteArray → Int → Int → List (S35) → Int → Int → Bool → ByteArray → Int → Int → Option (Bool)
  | 0, _, _, _, _, _, _, _, _, _, _, _, _, _, _ => none
  | k + 1, x5, x8, x9, x11, x35, x36, x37, x51, x52, x53, x96, x271000, x271001, x271002 => if x96 = true then (some (decide (x271002 > 131072))) else (garretlaw12_LzSums.l2 k x5 x8 x9 x11 x35 x36 x37 x51 x52 x53 x271002 0 x271000 x271001 x271002)
def garretlaw12_LzSums.l2 : Nat → ByteArray → ByteArray → List (S35) → List Int → List ByteArray → Int → Int → List (S35) → Int → Int → Int → Int → ByteArray → Int → Int → Option (Bool)
  | 0, _, _, _, _, _, _, _, _, _, _, _, _, _, _, _ => none
  | k + 1, x5, x8, x9, x11, x35, x36, x37, x51, x52, x53, x101, x102, x271000, x271001, x271002 => if x102 < x101 then (if 0 ≤ (wrap64 ((x11.length : Int) - x271001)) then (if (wrap64 ((x11.length : Int) - x271001)) < (x11.length : Int) then (if x11.length < 140737488355328 then (garretlaw12_LzSums.l2 k x5 x8 x9 (x11 ++ [rd x11 (wrap64 ((x11.length : Int) - x271001))]) x35 x36 x37 x51 x52 x53 x101 (wrap64 (x102 + 1)) x271000 x271001 x271002) else (none)) else (none)) else (none)) else (if (x11.length : Int) > 131072 then (some true) else (garretlaw12_LzSums.l1 k x5 x8 x9 x11 x35 x36 x37 x51 x52 (wrap64 (x53 + 1))))
end
def garretlaw12_LzSums.f (k : Nat) (a0 : ByteArray) (a1 : ByteArray) : Option (Bool) := (garretlaw12_works.f).bind fun t256 => (if t256 = true then (if (a0.size : Int) > 1000 then (garretlaw12_LzSums.j0 k a0 a1 true) else (garretlaw12_LzSums.j0 k a0 a1 (decide ((a1.size : Int) > 1000)))) else (some false))
theorem garretlaw12_LzSums.mono_l : ∀ k, (∀ y0 y1 y2, LeO (garretlaw12_LzSums.j0 k y0 y1 y2) (garretlaw12_LzSums.j0 (k + 1) y0 y1 y2)) ∧ (∀ y0 y1 y2 y3, LeO (garretlaw12_LzSums.l0 k y0 y1 y2 y3) (garretlaw12_LzSums.l0 (k + 1) y0 y1 y2 y3)) ∧ (∀ y0 y1 y2 y3 y4 y5 y6 y7 y8 y9, LeO (garretlaw12_LzSums.l1 k y0 y1 y2 y3 y4 y5 y6 y7 y8 y9) (garretlaw12_LzSums.l1 (k + 1) y0 y1 y2 y3 y4 y5 y6 y7 y8 y9)) ∧ (∀ y0 y1 y2 y3 y4 y5 y6 y7 y8 y9 y10 y11 y12 y13, LeO (garretlaw12_LzSums.j3 k y0 y1 y2 y3 y4 y5 y6 y7 y8 y9 y10 y11 y12 y13) (garretlaw12_LzSums.j3 (k + 1) y0 y1 y2 y3 y4 y5 y6 y7 y8 y9 y10 y11 y12 y13)) ∧ (∀ y0 y1 y2 y3 y4 y5 y6 y7 y8 y9 y10 y11 y12 y13 y14, LeO (garretlaw12_LzSums.l2 k y0 y1 y2 y3 y4 y5 y6 y7 y8 y9 y10 y11 y12 y13 y14) (garretlaw12_LzSums.l2 (k + 1) y0 y1 y2 y3 y4 y5 y6 y7 y8 y9 y10 y11 y12 y13 y14))
  | 0 => ⟨fun _ _ _ r h => by simp [garretlaw12_LzSums.j0] at h, fun _ _ _ _ r h => by simp [garretlaw12_LzSums.l0] at h, fun _ _ _ _ _ _ _ _ _ _ r h => by simp [garretlaw12_LzSums.l1] at h, fun _ _ _ _ _ _ _ _ _ _ _ _ _ _ r h => by simp [garretlaw12_LzSums.j3] at h, fun _ _ _ _ _ _ _ _ _ _ _ _ _ _ _ r h => by simp [garretlaw12_LzSums.l2] at h⟩
  | k + 1 => by
    obtain ⟨ih0, ih1, ih2, ih3, ih4⟩ := garretlaw12_LzSums.mono_l k
    refine ⟨?_, ?_, ?_, ?_, ?_⟩
    · intro y0 y1 y2
      unfold garretlaw12_LzSums.j0
      repeat' first
      | (with_reducible exact ih0 _ _ _)
      | (with_reducible exact ih1 _ _ _ _)
      | (with_reducible exact ih2 _ _ _ _ _ _ _ _ _ _)
      | (with_reducible exact ih3 _ _ _ _ _ _ _ _ _ _ _ _ _ _)
      | (with_reducible exact ih4 _ _ _ _ _ _ _ _ _ _ _ _ _ _ _)
      | (with_reducible exact lz_Sequences.mono _ _)
      | (with_reducible exact LeO.refl _)
      | (with_reducible exact LeO.none _)
      | (with_reducible refine LeO.ite ?_ ?_)
      | (with_reducible refine LeO.bind ?_ (fun _ => ?_))
      | exact ih0 _ _ _
      | exact ih1 _ _ _ _
      | exact ih2 _ _ _ _ _ _ _ _ _ _
      | exact ih3 _ _ _ _ _ _ _ _ _ _ _ _ _ _
      | exact ih4 _ _ _ _ _ _ _ _ _ _ _ _ _ _ _
      | exact lz_Sequences.mono _ _
      | exact LeO.none _
      | refine LeO.ite ?_ ?_
      | refine LeO.bind ?_ (fun _ => ?_)
    · intro y0 y1 y2 y3
      unfold garretlaw12_LzSums.l0
      repeat' first
      | (with_reducible exact ih0 _ _ _)
      | (with_reducible exact ih1 _ _ _ _)
      | (with_reducible exact ih2 _ _ _ _ _ _ _ _ _ _)
      | (with_reducible exact ih3 _ _ _ _ _ _ _ _ _ _ _ _ _ _)
      | (with_reducible exact ih4 _ _ _ _ _ _ _ _ _ _ _ _ _ _ _)
      | (with_reducible exact lz_Sequences.mono _ _)
      | (with_reducible exact LeO.refl _)
      | (with_reducible exact LeO.none _)
      | (with_reducible refine LeO.ite ?_ ?_)
      | (with_reducible refine LeO.bind ?_ (fun _ => ?_))
      | exact ih0 _ _ _
      | exact ih1 _ _ _ _
      | exact ih2 _ _ _ _ _ _ _ _ _ _
      | exact ih3 _ _ _ _ _ _ _ _ _ _ _ _ _ _
      | exact ih4 _ _ _ _ _ _ _ _ _ _ _ _ _ _ _
      | exact lz_Sequences.mono _ _
      | exact LeO.none _
      | refine LeO.ite ?_ ?_
      | refine LeO.bind ?_ (fun _ => ?_)
    · intro y0 y1 y2 y3 y4 y5 y6 y7 y8 y9
      unfold garretlaw12_LzSums.l1
      repeat' first
      | (with_reducible exact ih0 _ _ _)
      | (with_reducible exact ih1 _ _ _ _)
      | (with_reducible exact ih2 _ _ _ _ _ _ _ _ _ _)
      | (with_reducible exact ih3 _ _ _ _ _ _ _ _ _ _ _ _ _ _)
      | (with_reducible exact ih4 _ _ _ _ _ _ _ _ _ _ _ _ _ _ _)
      | (with_reducible exact lz_Sequences.mono _ _)
      | (with_reducible exact LeO.refl _)
      | (with_reducible exact LeO.none _)
      | (with_reducible refine LeO.ite ?_ ?_)
      | (with_reducible refine LeO.bind ?_ (fun _ => ?_))
      | exact ih0 _ _ _
      | exact ih1 _ _ _ _
      | exact ih2 _ _ _ _ _ _ _ _ _ _
      | exact ih3 _ _ _ _ _ _ _ _ _ _ _ _ _ _
      | exact ih4 _ _ _ _ _ _ _ _ _ _ _ _ _ _ _
      | exact lz_Sequences.mono _ _
      | exact LeO.none _
      | refine LeO.ite ?_ ?_
      | refine LeO.bind ?_ (fun _ => ?_)
    · intro y0 y1 y2 y3 y4 y5 y6 y7 y8 y9 y10 y11 y12 y13
      unfold garretlaw12_LzSums.j3
      repeat' first
      | (with_reducible exact ih0 _ _ _)
      | (with_reducible exact ih1 _ _ _ _)
      | (with_reducible exact ih2 _ _ _ _ _ _ _ _ _ _)
      | (with_reducible exact ih3 _ _ _ _ _ _ _ _ _ _ _ _ _ _)
      | (with_reducible exact ih4 _ _ _ _ _ _ _ _ _ _ _ _ _ _ _)
      | (with_reducible exact lz_Sequences.mono _ _)
      | (with_reducible exact LeO.refl _)
      | (with_reducible exact LeO.none _)
      | (with_reducible refine LeO.ite ?_ ?_)
      | (with_reducible refine LeO.bind ?_ (fun _ => ?_))
      | exact ih0 _ _ _
      | exact ih1 _ _ _ _
      | exact ih2 _ _ _ _ _ _ _ _ _ _
      | exact ih3 _ _ _ _ _ _ _ _ _ _ _ _ _ _
      | exact ih4 _ _ _ _ _ _ _ _ _ _ _ _ _ _ _
      | exact lz_Sequences.mono _ _
      | exact LeO.none _
      | refine LeO.ite ?_ ?_
      | refine LeO.bind ?_ (fun _ => ?_)
    · intro y0 y1 y2 y3 y4 y5 y6 y7 y8 y9 y10 y11 y12 y13 y14
      unfold garretlaw12_LzSums.l2
      repeat' first
      | (with_reducible exact ih0 _ _ _)
      | (with_reducible exact ih1 _ _ _ _)
      | (with_reducible exact ih2 _ _ _ _ _ _ _ _ _ _)
      | (with_reducible exact ih3 _ _ _ _ _ _ _ _ _ _ _ _ _ _)
      | (with_reducible exact ih4 _ _ _ _ _ _ _ _ _ _ _ _ _ _ _)
      | (with_reducible exact lz_Sequences.mono _ _)
      | (with_reducible exact LeO.refl _)
      | (with_reducible exact LeO.none _)
      | (with_reducible refine LeO.ite ?_ ?_)
      | (with_reducible refine LeO.bind ?_ (fun _ => ?_))
      | exact ih0 _ _ _
      | exact ih1 _ _ _ _
      | exact ih2 _ _ _ _ _ _ _ _ _ _
      | exact ih3 _ _ _ _ _ _ _ _ _ _ _ _ _ _
      | exact ih4 _ _ _ _ _ _ _ _ _ _ _ _ _ _ _
      | exact lz_Sequences.mono _ _
      | exact LeO.none _
      | refine LeO.ite ?_ ?_
      | refine LeO.bind ?_ (fun _ => ?_)
theorem garretlaw12_LzSums.mono : ∀ a0 a1 k, LeO (garretlaw12_LzSums.f k a0 a1) (garretlaw12_LzSums.f (k + 1) a0 a1) := by
  intro a0 a1 k
  obtain ⟨ih0, ih1, ih2, ih3, ih4⟩ := garretlaw12_LzSums.mono_l k
  unfold garretlaw12_LzSums.f
  repeat' first
      | (with_reducible exact ih0 _ _ _)
      | (with_reducible exact ih1 _ _ _ _)
      | (with_reducible exact ih2 _ _ _ _ _ _ _ _ _ _)
      | (with_reducible exact ih3 _ _ _ _ _ _ _ _ _ _ _ _ _ _)
      | (with_reducible exact ih4 _ _ _ _ _ _ _ _ _ _ _ _ _ _ _)
      | (with_reducible exact lz_Sequences.mono _ _)
      | (with_reducible exact LeO.refl _)
      | (with_reducible exact LeO.none _)
      | (with_reducible refine LeO.ite ?_ ?_)
      | (with_reducible refine LeO.bind ?_ (fun _ => ?_))
      | exact ih0 _ _ _
      | exact ih1 _ _ _ _
      | exact ih2 _ _ _ _ _ _ _ _ _ _
      | exact ih3 _ _ _ _ _ _ _ _ _ _ _ _ _ _
      | exact ih4 _ _ _ _ _ _ _ _ _ _ _ _ _ _ _
      | exact lz_Sequences.mono _ _
      | exact LeO.none _
      | refine LeO.ite ?_ ?_
      | refine LeO.bind ?_ (fun _ => ?_)
set_option maxHeartbeats 8000000 in
set_option maxRecDepth 100000 in
theorem garretlaw12_LzSums.calls (k : Nat) (a0 : ByteArray) (a1 : ByteArray) (r : Bool) (w : World) (h : garretlaw12_LzSums.f k a0 a1 = some r) :
    Calls Try.prog 7 #[.string a0, .string a1] w fun e w' => e = .returned (.bool r) ∧ Below w.heap.size w w' := by
  have hu35 := Try.underlying35
  have HB := Aside0.mk (Below.refl w.heap.size w)
  have H : ((garretlaw12_works.f).bind fun t256 => (if t256 = true then (if (a0.size : Int) > 1000 then (garretlaw12_LzSums.j0 k a0 a1 true) else (garretlaw12_LzSums.j0 k a0 a1 (decide ((a1.size : Int) > 1000)))) else (some false))) = some r := h
  clear h
  replace H := Option.bind_eq_some_iff.mp H
  obtain ⟨t256, A30, H⟩ := H
  replace H : (if t256 = true then (if (a0.size : Int) > 1000 then (garretlaw12_LzSums.j0 k a0 a1 true) else (garretlaw12_LzSums.j0 k a0 a1 (decide ((a1.size : Int) > 1000)))) else (some false)) = some r := H
  have A3 := Aside0.mk A30
  clear A30
  by_cases c4 : t256 = true
  · subst c4
    have H1 : (if (a0.size : Int) > 1000 then (garretlaw12_LzSums.j0 k a0 a1 true) else (garretlaw12_LzSums.j0 k a0 a1 (decide ((a1.size : Int) > 1000)))) = some r := by rw [if_pos rfl] at H; exact H
    clear H
    have H := H1
    clear H1
    have HC5 := Aside0.mk H
    clear H
    go_enter Try.func7, Try.ntmps7
    go_upto_region 3 with (first | ((with_reducible refine gate_callee (f := 8) rfl ?_); refine goesL_ (some 16) rfl rfl Try.func8 (by kernel_rfl) rfl #[] rfl (by (try simp only [List.map_toArray, List.map_cons, List.map_nil]); first | done | rfl | (simp only [List.length_drop, List.length_take]; rfl)) ?_; (with_reducible refine (garretlaw12_works.calls  true _ A3.out).mono ?_); rintro e w6 ⟨rfl, hb⟩; refine ⟨_, rfl, ?_⟩; have n0_ := Aside0.mk (below_step (by repeat (first | (with_reducible first | exact HB.out | apply below_alloc | apply pw_below_drewN | apply below_drew1) | exact HB.out)) hb); clear HB; have HB := n0_; clear n0_; (try clear hb); (try clear hb2); (try clear hk); (try clear hi)))
    (try simp only [Act.put, List.setIfInBounds_toArray, List.set_cons_zero, List.set_cons_succ])
    go_cut [25] (fun v25 wc => ∃ (kq : Nat) (x25_4 : Bool), v25 = .bool x25_4 ∧ Aside0 (garretlaw12_LzSums.j0 kq a0 a1 x25_4 = some r) ∧ Aside0 (kq ≤ k) ∧ Aside0 (Below w.heap.size w wc))
    case first =>
      have H := HC5.out
      clear HC5
      by_cases c7 : (a0.size : Int) > 1000
      · rw [if_pos c7] at H
        have c7b0 : decide (1000 < (a0.size : Int)) = true := decide_eq_true c7
        have c7b1 : decide (1000 < a0.size) = true := decide_eq_true (by omega)
        clear c7
        (first | rw [c7b0] | (simp only [i64_w, i32_w]; rw [c7b0]) | skip)
        have H' := Aside0.mk H
        clear H
        go_wp2
        go_meet
        case rel => exact ⟨_, (true), (by first | rfl | (simp; done) | (simp [*]; done)), H', ⟨by first | omega | exact Nat.le_refl _⟩, ⟨by repeat (first | (with_reducible first | exact HB.out | apply below_alloc | apply pw_below_drewN | apply below_drew1) | exact HB.out)⟩⟩
      · rw [if_neg c7] at H
        have c7b0 : decide (1000 < (a0.size : Int)) = false := decide_eq_false c7
        have c7b1 : decide (1000 < a0.size) = false := decide_eq_false (by omega)
        clear c7
        (first | rw [c7b0] | (simp only [i64_w, i32_w]; rw [c7b0]) | skip)
        have H' := Aside0.mk H
        clear H
        go_wp2
        go_meet
        case rel => exact ⟨_, (decide ((a1.size : Int) > 1000)), (by first | rfl | (simp; done) | (simp [*]; done)), H', ⟨by first | omega | exact Nat.le_refl _⟩, ⟨by repeat (first | (with_reducible first | exact HB.out | apply below_alloc | apply pw_below_drewN | apply below_drew1) | exact HB.out)⟩⟩
    case rest =>
      clear HC5
      try clear p2
      try clear c4
      try clear c7
      try clear c7b0
      try clear c7b1
      obtain ⟨kq, x25_4, rfl, HA, HJ4, HB⟩ := hcut
      cases kq with
      | zero => exact absurd HA.out (by simp [garretlaw12_LzSums.j0])
      | succ kj4 =>
        have H := HA.out
        clear HA
        simp only [garretlaw12_LzSums.j0] at H
        by_cases c8 : x25_4 = true
        · subst c8
          have H1 : (some true) = some r := by rw [if_pos rfl] at H; exact H
          clear H
          have H := H1
          clear H1
          obtain rfl := Option.some.inj H
          go_wp2
          go_ret
          exact ⟨by first | rfl | (simp [errW_none, errW_some] <;> rfl) | (simp [*, errW_none, errW_some] <;> rfl), by repeat (first | (with_reducible first | exact HB.out | apply below_alloc | apply pw_below_drewN | apply below_drew1) | exact HB.out)⟩
        · replace c8 := Bool.eq_false_iff.mpr c8
          subst c8
          have H1 : ((lz_Pack.f a0).bind fun bt257 => (if bt257.2 = 0 then ((some (([bt257.1, a1] : List ByteArray) : List ByteArray)).bind fun y259 => (garretlaw12_LzSums.l0 kj4 bt257.1 y259 (y259.length : Int) 0)) else (some false))) = some r := by rw [if_neg (show ¬ (false = true) by decide)] at H; exact H
          clear H
          have H := H1
          clear H1
          replace H := Option.bind_eq_some_iff.mp H
          obtain ⟨⟨t257, t258⟩, A90, H⟩ := H
          replace H : (if t258 = 0 then ((some (([t257, a1] : List ByteArray) : List ByteArray)).bind fun y259 => (garretlaw12_LzSums.l0 kj4 t257 y259 (y259.length : Int) 0)) else (some false)) = some r := H
          have A9 := Aside0.mk A90
          clear A90
          by_cases c10 : t258 = 0
          · rw [if_pos c10] at H
            have c10b0 : (t258 == 0) = true := beq_iff_eq.mpr c10
            have c10b1 : (t258 != 0) = false := bne_eq_false_iff_eq.mpr c10
            clear c10
            obtain ⟨y259, hy259⟩ : ∃ y_ : List ByteArray, y_ = (([t257, a1] : List ByteArray)) := ⟨_, rfl⟩
            replace H : (garretlaw12_LzSums.l0 kj4 t257 y259 (y259.length : Int) 0) = some r := by first | (rw [hy259]; with_reducible exact H) | (have H2_ := (Option.bind_some _ _).symm.trans H; rw [hy259]; with_reducible exact H2_) | (have H2_ := (Option.bind_some _ _).symm.trans H; with_reducible exact H2_) | with_reducible exact H | (rw [hy259]; exact H) | exact H
            have Ny259 := Aside0.mk hy259
            clear hy259
            have H' := Aside0.mk H
            clear H
            go_wp2_with (first | ((with_reducible refine gate_callee (f := 15) rfl ?_); refine goesL_ (some 28) rfl rfl Try.func15 (by kernel_rfl) rfl #[.string a0] rfl (by (try simp only [List.map_toArray, List.map_cons, List.map_nil]); first | done | rfl | (simp only [List.length_drop, List.length_take]; rfl)) ?_; (with_reducible refine (lz_Pack.calls a0 t257 t258 _ A9.out).mono ?_); rintro e w11 ⟨rfl, hb⟩; refine ⟨_, rfl, ?_⟩; have n0_ := Aside0.mk (below_step (by repeat (first | (with_reducible first | exact HB.out | apply below_alloc | apply pw_below_drewN | apply below_drew1) | exact HB.out)) hb); clear HB; have HB := n0_; clear n0_; (try clear hb); (try clear hb2); (try clear hk); (try clear hi)) | ((with_reducible refine gate_dst (N := 35) rfl ?_); (try (refine gate_guard (by rfl) ?_; dsimp only)); refine Kd.R_lit Kd.string _ 9 ?hg (N := 35) ?hd (xs := ([t257, a1] : List ByteArray)) (inner := [.string t257, .string a1]) (ok := fun _ => True) (okp := fun _ => True) ?hr ?hp (fun _ hk => hk) trivial (Below.refl _ _) (Nat.le_refl _) (by simp) ?_; (case hd => rfl); (case hg => rfl); (case hr => first | (go_simp; done) | (go_simp; rfl)); (case hp => exact (Reps.one (show Kd.M Kd.string _ _ _ t257 [.string t257] from rfl) (Reps.one (show Kd.M Kd.string _ _ _ a1 [.string a1] from rfl) (Reps.none _ _)))); intro v260 w12 ho13 hb hg_ hnew_; clear hg_ hnew_; (first | rw [← Ny259.out] at ho13 | (simp only [Int.reduceToNat] at ho13; rw [← Ny259.out] at ho13)); have n0_ := Aside0.mk (Kd.R_lower ho13 (below_size (by repeat (first | (with_reducible first | exact HB.out | apply below_alloc | apply pw_below_drewN | apply below_drew1) | exact HB.out)))); have n1_ := Aside0.mk (below_step (by repeat (first | (with_reducible first | exact HB.out | apply below_alloc | apply pw_below_drewN | apply below_drew1) | exact HB.out)) hb); clear HB; have HO261 := n0_; have HB := n1_; clear n0_ n1_; clear hb ho13; obtain ⟨Ao14, co14, eo14⟩ := Kd.R_slice HO261.out; subst eo14))
            go_loopg [37] kj4 (fun kq v37 w' => ∃ (x37_2 : Int), v37 = .int .i64 x37_2 ∧ Aside0 (garretlaw12_LzSums.l0 kq t257 y259 (y259.length : Int) x37_2 = some r) ∧ Aside0 (kq ≤ kj4) ∧ Aside0 (Kd.R Kd.string 9 w' w.heap.size (fun _ => True) (.slice Ao14 y259.length co14) y259) ∧ Aside0 (Below w.heap.size w w'))
            case atStart => exact ⟨(0), (by first | rfl | (simp; done) | (simp [*]; done)), H', ⟨Nat.le_refl _⟩, ⟨by (with_reducible repeat (first | apply Kd.R_alloc | apply Kd.R_drewN | apply Kd.R_drew)); exact HO261.out⟩, ⟨by repeat (first | (with_reducible first | exact HB.out | apply below_alloc | apply pw_below_drewN | apply below_drew1) | exact HB.out)⟩⟩
            case round =>
              clear H'
              try clear c1
              try clear p2
              try clear c4
              try clear c7
              try clear c7b0
              try clear c7b1
              try clear c8
              try clear c10
              try clear c10b0
              try clear c10b1
              try clear p2
              obtain ⟨x37_2, rfl, HA, HK2, HO_35, HB⟩ := hrel
              cases gk with
              | zero => exact absurd HA.out (by simp [garretlaw12_LzSums.l0])
              | succ k2 =>
                have H := HA.out
                clear HA
                simp only [garretlaw12_LzSums.l0] at H
                by_cases c15 : x37_2 < (y259.length : Int)
                · rw [if_pos c15] at H
                  have c15b0 : decide (x37_2 < (y259.length : Int)) = true := decide_eq_true c15
                  clear c15
                  by_cases c16 : 0 ≤ x37_2
                  · rw [if_pos c16] at H
                    have c16b0 : decide (0 ≤ x37_2) = true := decide_eq_true c16
                    clear c16
                    by_cases c17 : x37_2 < (y259.length : Int)
                    · rw [if_pos c17] at H
                      have c17b0 : decide (x37_2 < (y259.length : Int)) = true := decide_eq_true c17
                      clear c17
                      replace H := Option.bind_eq_some_iff.mp H
                      obtain ⟨⟨t263, t264⟩, A180, H⟩ := H
                      replace H : (if t264 = 0 then (garretlaw12_LzSums.l1 k2 t257 (rdOf ByteArray.empty y259 x37_2) t263 ([] : List Int) y259 (y259.length : Int) x37_2 t263 (t263.length : Int) 0) else (if (rdOf ByteArray.empty y259 x37_2).toList = t257.toList then (some false) else (garretlaw12_LzSums.l0 k2 t257 y259 (y259.length : Int) (wrap64 (x37_2 + 1))))) = some r := H
                      have A18 := Aside0.mk A180
                      clear A180
                      by_cases c19 : t264 = 0
                      · rw [if_pos c19] at H
                        have c19b0 : (t264 == 0) = true := beq_iff_eq.mpr c19
                        have c19b1 : (t264 != 0) = false := bne_eq_false_iff_eq.mpr c19
                        clear c19
                        have H' := Aside0.mk H
                        clear H
                        have p262 : 0 ≤ (x37_2 : Int) := of_decide_eq_true (by first | (with_reducible assumption) | assumption)
                        have q262 : x37_2 < (y259.length : Int) := of_decide_eq_true (by first | (with_reducible assumption) | assumption)
                        obtain ⟨ad262, e262, hx262_0⟩ := Kd.at_string (Kd.R_reads' HO_35.out).2.2 x37_2 p262 q262
                        cases e262
                        replace p262 := eq_true p262
                        replace q262 := eq_true q262
                        go_wp2_with (first | ((with_reducible refine gate_callee (f := 12) rfl ?_); refine goesL_ (some 43) rfl rfl Try.func12 (by kernel_rfl) rfl #[.string (rdOf ByteArray.empty y259 x37_2)] rfl (by (try simp only [List.map_toArray, List.map_cons, List.map_nil]); first | done | rfl | (simp only [List.length_drop, List.length_take]; rfl)) ?_; (with_reducible refine (lz_Sequences.calls k2 (rdOf ByteArray.empty y259 x37_2) t263 t264 _ A18.out).mono ?_); rintro e w20 ⟨v265, rfl, ho0, hb⟩; refine ⟨_, rfl, ?_⟩; have n0_ := Aside0.mk (Kd.R_below (by (with_reducible repeat (first | apply Kd.R_alloc | apply Kd.R_drewN | apply Kd.R_drew)); exact HO_35.out) hb); have n1_ := Aside0.mk (Kd.R_lower ho0 (below_size (by repeat (first | (with_reducible first | exact HB.out | apply below_alloc | apply pw_below_drewN | apply below_drew1) | exact HB.out)))); have n2_ := Aside0.mk (below_step (by repeat (first | (with_reducible first | exact HB.out | apply below_alloc | apply pw_below_drewN | apply below_drew1) | exact HB.out)) hb); clear HO_35; clear HB; have HO_35 := n0_; have HO266 := n1_; have HB := n2_; clear n0_ n1_ n2_; (try clear hb); (try clear hb2); (try clear hk); (try clear hi); (try clear ho0); obtain ⟨Ao21, co21, eo21⟩ := Kd.R_slice HO266.out; subst eo21))
                        go_loopg [11, 53] k2 (fun kq v11 v53 w' => ∃ (x11_3 : List Int) (x53_3 : Int), v53 = .int .i64 x53_3 ∧ Aside0 (garretlaw12_LzSums.l1 kq t257 (rdOf ByteArray.empty y259 x37_2) t263 x11_3 y259 (y259.length : Int) x37_2 t263 (t263.length : Int) x53_3 = some r) ∧ Aside0 (kq ≤ k2) ∧ Aside0 (Kd.R k35 35 w' w.heap.size (fun _ => True) (.slice Ao21 t263.length co21) t263) ∧ Aside0 (Kd.R (Kd.int .u8) 5 w' w.heap.size (fun _ => True) v11 x11_3) ∧ Aside0 (Kd.R Kd.string 9 w' w.heap.size (fun _ => True) (.slice (some ad262) y259.length co14) y259) ∧ Aside0 (Kd.R k35 35 w' w.heap.size (fun _ => True) (.slice Ao21 t263.length co21) t263) ∧ Aside0 (Below w.heap.size w w'))
                        case atStart => exact ⟨(([] : List Int)), (0), (by first | rfl | (simp; done) | (simp [*]; done)), H', ⟨Nat.le_refl _⟩, ⟨by (with_reducible repeat (first | apply Kd.R_alloc | apply Kd.R_drewN | apply Kd.R_drew)); exact HO266.out⟩, ⟨by first | exact Kd.R_nil _ _ _ _ _ | exact Kd.N_nil _ _ _ _ _ | exact Kd.V_nil _ _ _ _ _ | exact Kd.Q_nil _ _ _ _ _ | exact Kd.S_nil _ _ _ _ _⟩, ⟨by (with_reducible repeat (first | apply Kd.R_alloc | apply Kd.R_drewN | apply Kd.R_drew)); exact HO_35.out⟩, ⟨by (with_reducible repeat (first | apply Kd.R_alloc | apply Kd.R_drewN | apply Kd.R_drew)); exact HO266.out⟩, ⟨by repeat (first | (with_reducible first | exact HB.out | apply below_alloc | apply pw_below_drewN | apply below_drew1) | exact HB.out)⟩⟩
                        case round =>
                          clear H'
                          try clear c1
                          try clear p2
                          try clear q2
                          try clear hx2
                          try clear c4
                          try clear p6
                          try clear c7
                          try clear c7b0
                          try clear c7b1
                          try clear c8
                          try clear c10
                          try clear c10b0
                          try clear c10b1
                          try clear c12
                          try clear c15
                          try clear c15b0
                          try clear c16
                          try clear c16b0
                          try clear c17
                          try clear c17b0
                          try clear c19
                          try clear c19b0
                          try clear c19b1
                          try clear hx262_0
                          try clear p2
                          try clear p262
                          try clear q262
                          obtain ⟨x11_3, x53_3, rfl, HA, HK3, HO_9, HO_11, HO_35, HO_51, HB⟩ := hrel
                          cases gk with
                          | zero => exact absurd HA.out (by simp [garretlaw12_LzSums.l1])
                          | succ k3 =>
                            have H := HA.out
                            clear HA
                            simp only [garretlaw12_LzSums.l1] at H
                            by_cases c22 : x53_3 < (t263.length : Int)
                            · rw [if_pos c22] at H
                              have c22b0 : decide (x53_3 < (t263.length : Int)) = true := decide_eq_true c22
                              clear c22
                              by_cases c23 : 0 ≤ x53_3
                              · rw [if_pos c23] at H
                                have c23b0 : decide (0 ≤ x53_3) = true := decide_eq_true c23
                                clear c23
                                by_cases c24 : x53_3 < (t263.length : Int)
                                · rw [if_pos c24] at H
                                  have c24b0 : decide (x53_3 < (t263.length : Int)) = true := decide_eq_true c24
                                  clear c24
                                  by_cases c25 : x11_3.length + ((rd_T35 t263 x53_3).f0).size < 140737488355328
                                  · rw [if_pos c25] at H
                                    have LMc25 := Aside0.mk c25
                                    clear c25
                                    obtain ⟨y271, hy271⟩ : ∃ y_ : List Int, y_ = (x11_3 ++ bytesOf ((rd_T35 t263 x53_3).f0)) := ⟨_, rfl⟩
                                    replace H : (if ((((rd_T35 t263 x53_3).f1) == 0) != (x53_3 == (wrap64 ((t263.length : Int) - 1)))) = true then (garretlaw12_LzSums.j3 k3 t257 (rdOf ByteArray.empty y259 x37_2) t263 y271 y259 (y259.length : Int) x37_2 t263 (t263.length : Int) x53_3 true ((rd_T35 t263 x53_3).f0) ((rd_T35 t263 x53_3).f1) ((rd_T35 t263 x53_3).f2)) else (if ((((rd_T35 t263 x53_3).f2) == 0) != (((rd_T35 t263 x53_3).f1) == 0)) = true then (garretlaw12_LzSums.j3 k3 t257 (rdOf ByteArray.empty y259 x37_2) t263 y271 y259 (y259.length : Int) x37_2 t263 (t263.length : Int) x53_3 true ((rd_T35 t263 x53_3).f0) ((rd_T35 t263 x53_3).f1) ((rd_T35 t263 x53_3).f2)) else (if ((rd_T35 t263 x53_3).f1) < 0 then (garretlaw12_LzSums.j3 k3 t257 (rdOf ByteArray.empty y259 x37_2) t263 y271 y259 (y259.length : Int) x37_2 t263 (t263.length : Int) x53_3 true ((rd_T35 t263 x53_3).f0) ((rd_T35 t263 x53_3).f1) ((rd_T35 t263 x53_3).f2)) else (if ((rd_T35 t263 x53_3).f1) > (y271.length : Int) then (garretlaw12_LzSums.j3 k3 t257 (rdOf ByteArray.empty y259 x37_2) t263 y271 y259 (y259.length : Int) x37_2 t263 (t263.length : Int) x53_3 true ((rd_T35 t263 x53_3).f0) ((rd_T35 t263 x53_3).f1) ((rd_T35 t263 x53_3).f2)) else (garretlaw12_LzSums.j3 k3 t257 (rdOf ByteArray.empty y259 x37_2) t263 y271 y259 (y259.length : Int) x37_2 t263 (t263.length : Int) x53_3 (decide (((rd_T35 t263 x53_3).f2) > 131072)) ((rd_T35 t263 x53_3).f0) ((rd_T35 t263 x53_3).f1) ((rd_T35 t263 x53_3).f2)))))) = some r := by first | (rw [hy271]; with_reducible exact H) | (have H2_ := (Option.bind_some _ _).symm.trans H; rw [hy271]; with_reducible exact H2_) | (have H2_ := (Option.bind_some _ _).symm.trans H; with_reducible exact H2_) | with_reducible exact H | (rw [hy271]; exact H) | exact H
                                    have Ny271 := Aside0.mk hy271
                                    clear hy271
                                    have HC26 := Aside0.mk H
                                    clear H
                                    have p269 : 0 ≤ (x53_3 : Int) := of_decide_eq_true (by first | (with_reducible assumption) | assumption)
                                    have q269 : x53_3 < (t263.length : Int) := of_decide_eq_true (by first | (with_reducible assumption) | assumption)
                                    obtain ⟨ad269, e269, hx269_0, hx269_1, hx269_2⟩ := at_T35 (Kd.R_reads' HO_51.out).2.2 x53_3 p269 q269
                                    cases e269
                                    replace p269 := eq_true p269
                                    replace q269 := eq_true q269
                                    go_upto_region 20 with (first | ((with_reducible refine gate_dst (N := 13) rfl ?_); (try (refine gate_guard (by rfl) ?_; dsimp only)); refine box_event ?hg (N := 13) ?hd (cs := #[.string (⟨#[]⟩ : ByteArray), .int .i64 0, .int .i64 0]) (t := 35) ?hr ?_; (case hd => rfl); (case hg => rfl); (case hr => first | (go_simp; done) | (go_simp; rfl)); intro gb270 hg w27 hbox hb; have n0_ := Aside0.mk (Kd.R_below (Kd.R_elderB (by (with_reducible repeat (first | apply Kd.R_alloc | apply Kd.R_drewN | apply Kd.R_drew)); exact HO_9.out) gb270 (Nat.le_of_eq hg.symm)) hb); have n1_ := Aside0.mk (Kd.R_below (by (with_reducible repeat (first | apply Kd.R_alloc | apply Kd.R_drewN | apply Kd.R_drew)); exact HO_11.out) hb); have n2_ := Aside0.mk (Kd.R_below (by (with_reducible repeat (first | apply Kd.R_alloc | apply Kd.R_drewN | apply Kd.R_drew)); exact HO_35.out) hb); have n3_ := Aside0.mk (Kd.R_below (Kd.R_elderB (by (with_reducible repeat (first | apply Kd.R_alloc | apply Kd.R_drewN | apply Kd.R_drew)); exact HO_51.out) gb270 (Nat.le_of_eq hg.symm)) hb); have n4_ := Aside0.mk (below_step (by repeat (first | (with_reducible first | exact HB.out | apply below_alloc | apply pw_below_drewN | apply below_drew1) | exact HB.out)) hb); have n5_ := Aside0.mk (hbox); have n6_ := Aside0.mk ((by rw [hg]; exact (below_size (by repeat (first | (with_reducible first | exact HB.out | apply below_alloc | apply pw_below_drewN | apply below_drew1) | exact HB.out))) : w.heap.size ≤ gb270)); have n7_ := Aside0.mk ((by rw [hg]; exact (below_size (by repeat (first | (with_reducible first | exact HB.out | apply below_alloc | apply pw_below_drewN | apply below_drew1) | exact HB.out))) : w.heap.size ≤ gb270)); clear HO_9; clear HO_11; clear HO_35; clear HO_51; clear HB; have HO_9 := n0_; have HO_11 := n1_; have HO_35 := n2_; have HO_51 := n3_; have HB := n4_; have BK270 := n5_; have GW270 := n6_; have GE270 := n7_; clear n0_ n1_ n2_ n3_ n4_ n5_ n6_ n7_; clear hb hbox hg; have hcz28_0 : w27.cell? ⟨gb270, 0, none⟩ = some (.string (⟨#[]⟩ : ByteArray)) := (blk_cell BK270.out 0).trans rfl; have hcz28_1 : w27.cell? ⟨gb270, 1, none⟩ = some (.int .i64 0) := (blk_cell BK270.out 1).trans rfl; have hcz28_2 : w27.cell? ⟨gb270, 2, none⟩ = some (.int .i64 0) := (blk_cell BK270.out 2).trans rfl; have hfz28_0 := blk_frozen BK270.out 0; have hfz28_1 := blk_frozen BK270.out 1; have hfz28_2 := blk_frozen BK270.out 2) | (at_builtin; refine print_append_str (w0 := w) w.heap.size rfl (.tmp 58) _ 41 9 5 rfl Try.underlying41 Try.underlying9 info5 u11 x11_3 ((rd_T35 t263 x53_3).f0) rfl rfl ?aO ?aB ?aS ?aL ?_; (case aB => exact (by repeat (first | (with_reducible first | exact HB.out | apply below_alloc | apply pw_below_drewN | apply below_drew1 | refine below_set ?_ GE270.out) | exact HB.out))); (case aO => exact (Kd.own_of_R (by (with_reducible repeat (first | apply Kd.R_alloc | apply Kd.R_drewN | apply Kd.R_drew)); exact Kd.R_mono (Kd.R_far (p := ⟨gb270, 2, none⟩) (Kd.R_far (p := ⟨gb270, 1, none⟩) (Kd.R_far (p := ⟨gb270, 0, none⟩) (Kd.R_types HO_11.out BK270.out (by decide)) (fun _ hk => hk.2) (.string ((rd_T35 t263 x53_3).f0))) (fun _ hk => hk.2) (.int .i64 ((rd_T35 t263 x53_3).f1))) (fun _ hk => hk.2) (.int .i64 ((rd_T35 t263 x53_3).f2))) (fun _ hk => trivial)))); (case aS => exact (below_size (by repeat (first | (with_reducible first | exact HB.out | apply below_alloc | apply pw_below_drewN | apply below_drew1 | refine below_set ?_ GE270.out) | exact HB.out)))); (case aL => have := LMc25.out; omega); intro v272 w29 ho0 hb hg; have ho := Kd.R_of_own (h1 := fun _ => rfl) (ok := fun _ => True) ho0 (fun _ _ => trivial); clear ho0; have hat := True.intro; rw [← Ny271.out] at ho; change Kd.R (Kd.int .u8) 5 w29 w.heap.size (fun _ => True) v272 y271 at ho; have n0_ := Aside0.mk (Kd.R_over' (by (with_reducible repeat (first | apply Kd.R_alloc | apply Kd.R_drewN | apply Kd.R_drew)); exact (Kd.R_mono (Kd.R_far (p := ⟨gb270, 2, none⟩) (Kd.R_far (p := ⟨gb270, 1, none⟩) (Kd.R_far (p := ⟨gb270, 0, none⟩) (Kd.R_mono HO_9.out (fun k_ hk => (⟨hk, hk.2⟩ : _ ∧ k_ ≠ gb270))) (fun _ hk => hk.2) (.string ((rd_T35 t263 x53_3).f0))) (fun _ hk => hk.2) (.int .i64 ((rd_T35 t263 x53_3).f1))) (fun _ hk => hk.2) (.int .i64 ((rd_T35 t263 x53_3).f2))) (fun _ h_ => h_.1))) (Kd.R_typed (by (with_reducible repeat (first | apply Kd.R_alloc | apply Kd.R_drewN | apply Kd.R_drew)); exact (Kd.R_mono (Kd.R_far (p := ⟨gb270, 2, none⟩) (Kd.R_far (p := ⟨gb270, 1, none⟩) (Kd.R_far (p := ⟨gb270, 0, none⟩) (Kd.R_types HO_11.out BK270.out (by decide)) (fun _ hk => hk.2) (.string ((rd_T35 t263 x53_3).f0))) (fun _ hk => hk.2) (.int .i64 ((rd_T35 t263 x53_3).f1))) (fun _ hk => hk.2) (.int .i64 ((rd_T35 t263 x53_3).f2))) (fun _ h_ => h_.1)))) (by decide) hg); have n1_ := Aside0.mk (Kd.R_over' (by (with_reducible repeat (first | apply Kd.R_alloc | apply Kd.R_drewN | apply Kd.R_drew)); exact (Kd.R_mono (Kd.R_far (p := ⟨gb270, 2, none⟩) (Kd.R_far (p := ⟨gb270, 1, none⟩) (Kd.R_far (p := ⟨gb270, 0, none⟩) (Kd.R_types HO_35.out BK270.out (by decide)) (fun _ hk => hk.2) (.string ((rd_T35 t263 x53_3).f0))) (fun _ hk => hk.2) (.int .i64 ((rd_T35 t263 x53_3).f1))) (fun _ hk => hk.2) (.int .i64 ((rd_T35 t263 x53_3).f2))) (fun _ h_ => h_.1))) (Kd.R_typed (by (with_reducible repeat (first | apply Kd.R_alloc | apply Kd.R_drewN | apply Kd.R_drew)); exact (Kd.R_mono (Kd.R_far (p := ⟨gb270, 2, none⟩) (Kd.R_far (p := ⟨gb270, 1, none⟩) (Kd.R_far (p := ⟨gb270, 0, none⟩) (Kd.R_types HO_11.out BK270.out (by decide)) (fun _ hk => hk.2) (.string ((rd_T35 t263 x53_3).f0))) (fun _ hk => hk.2) (.int .i64 ((rd_T35 t263 x53_3).f1))) (fun _ hk => hk.2) (.int .i64 ((rd_T35 t263 x53_3).f2))) (fun _ h_ => h_.1)))) (by decide) hg); have n2_ := Aside0.mk (Kd.R_over' (by (with_reducible repeat (first | apply Kd.R_alloc | apply Kd.R_drewN | apply Kd.R_drew)); exact (Kd.R_mono (Kd.R_far (p := ⟨gb270, 2, none⟩) (Kd.R_far (p := ⟨gb270, 1, none⟩) (Kd.R_far (p := ⟨gb270, 0, none⟩) (Kd.R_mono HO_51.out (fun k_ hk => (⟨hk, hk.2⟩ : _ ∧ k_ ≠ gb270))) (fun _ hk => hk.2) (.string ((rd_T35 t263 x53_3).f0))) (fun _ hk => hk.2) (.int .i64 ((rd_T35 t263 x53_3).f1))) (fun _ hk => hk.2) (.int .i64 ((rd_T35 t263 x53_3).f2))) (fun _ h_ => h_.1))) (Kd.R_typed (by (with_reducible repeat (first | apply Kd.R_alloc | apply Kd.R_drewN | apply Kd.R_drew)); exact (Kd.R_mono (Kd.R_far (p := ⟨gb270, 2, none⟩) (Kd.R_far (p := ⟨gb270, 1, none⟩) (Kd.R_far (p := ⟨gb270, 0, none⟩) (Kd.R_types HO_11.out BK270.out (by decide)) (fun _ hk => hk.2) (.string ((rd_T35 t263 x53_3).f0))) (fun _ hk => hk.2) (.int .i64 ((rd_T35 t263 x53_3).f1))) (fun _ hk => hk.2) (.int .i64 ((rd_T35 t263 x53_3).f2))) (fun _ h_ => h_.1)))) (by decide) hg); have n3_ := Aside0.mk (blk_grown (g := gb270) (o := .cells #[.string ((rd_T35 t263 x53_3).f0), .int .i64 ((rd_T35 t263 x53_3).f1), .int .i64 ((rd_T35 t263 x53_3).f2)] 35 (0, 0)) (by (with_reducible repeat (first | refine blk_drewN ?_ _ | refine blk_drew ?_ | refine blk_alloc ?_ _)); refine blk_put (cs := #[.string ((rd_T35 t263 x53_3).f0), .int .i64 ((rd_T35 t263 x53_3).f1), .int .i64 0]) ?_ 2 _ rfl; (with_reducible repeat (first | refine blk_drewN ?_ _ | refine blk_drew ?_ | refine blk_alloc ?_ _)); refine blk_put (cs := #[.string ((rd_T35 t263 x53_3).f0), .int .i64 0, .int .i64 0]) ?_ 1 _ rfl; (with_reducible repeat (first | refine blk_drewN ?_ _ | refine blk_drew ?_ | refine blk_alloc ?_ _)); refine blk_put (cs := #[.string (⟨#[]⟩ : ByteArray), .int .i64 0, .int .i64 0]) ?_ 0 _ rfl; (with_reducible repeat (first | refine blk_drewN ?_ _ | refine blk_drew ?_ | refine blk_alloc ?_ _)); exact BK270.out) hg (Kd.R_ne HO_11.out BK270.out (by decide))); have n4_ := Aside0.mk (hb); have n5_ := Aside0.mk (ho); clear HO_9; clear HO_35; clear HO_51; clear BK270; clear HB; clear HO_11; have HO_9 := n0_; have HO_35 := n1_; have HO_51 := n2_; have BK270 := n3_; have HB := n4_; have HO273 := n5_; clear n0_ n1_ n2_ n3_ n4_ n5_; clear ho hb hg hat))
                                    (try simp only [Act.put, List.setIfInBounds_toArray, List.set_cons_zero, List.set_cons_succ])
                                    go_cut [96] (fun v96 wc => ∃ (kq : Nat) (x96_25 : Bool), v96 = .bool x96_25 ∧ Aside0 (garretlaw12_LzSums.j3 kq t257 (rdOf ByteArray.empty y259 x37_2) t263 y271 y259 (y259.length : Int) x37_2 t263 (t263.length : Int) x53_3 x96_25 ((rd_T35 t263 x53_3).f0) ((rd_T35 t263 x53_3).f1) ((rd_T35 t263 x53_3).f2) = some r) ∧ Aside0 (kq ≤ k3) ∧ Aside0 (Kd.R k35 35 wc w.heap.size (fun k_ => k_ ≠ gb270) (.slice (some ad269) t263.length co21) t263) ∧ Aside0 (Kd.R (Kd.int .u8) 5 wc w.heap.size (fun _ => True) v272 y271) ∧ Aside0 (Kd.R Kd.string 9 wc w.heap.size (fun _ => True) (.slice (some ad262) y259.length co14) y259) ∧ Aside0 (Kd.R k35 35 wc w.heap.size (fun k_ => k_ ≠ gb270) (.slice (some ad269) t263.length co21) t263) ∧ Aside0 (wc.heap[gb270]? = some (.cells #[.string ((rd_T35 t263 x53_3).f0), .int .i64 ((rd_T35 t263 x53_3).f1), .int .i64 ((rd_T35 t263 x53_3).f2)] 35 (0, 0))) ∧ Aside0 (Below w.heap.size w wc))
                                    case first =>
                                      have H := HC26.out
                                      clear HC26
                                      by_cases c30 : ((((rd_T35 t263 x53_3).f1) == 0) != (x53_3 == (wrap64 ((t263.length : Int) - 1)))) = true
                                      · rw [if_pos c30] at H
                                        have c30b0 : ((((rd_T35 t263 x53_3).f1) == 0) != (x53_3 == (wrap64 ((t263.length : Int) - 1)))) = true := c30
                                        (try (have c30b1 : decide ((((rd_T35 t263 x53_3).f1) == 0) = (x53_3 == (wrap64 ((t263.length : Int) - 1)))) = false := by simpa using c30))
                                        (try (have c30b2 : ((((rd_T35 t263 x53_3).f1) == 0) == (x53_3 == (wrap64 ((t263.length : Int) - 1)))) = false := by simpa using c30))
                                        (try (have c30b3 : ¬ ((((rd_T35 t263 x53_3).f1) == 0) = (x53_3 == (wrap64 ((t263.length : Int) - 1)))) := by simpa using c30))
                                        clear c30
                                        (first | rw [c30b0] | (simp only [i64_w, i32_w]; rw [c30b0]) | skip)
                                        have H' := Aside0.mk H
                                        clear H
                                        have hcz31_0 : w29.cell? ⟨gb270, 0, none⟩ = some (.string ((rd_T35 t263 x53_3).f0)) := (blk_cell BK270.out 0).trans rfl
                                        have hcz31_1 : w29.cell? ⟨gb270, 1, none⟩ = some (.int .i64 ((rd_T35 t263 x53_3).f1)) := (blk_cell BK270.out 1).trans rfl
                                        have hcz31_2 : w29.cell? ⟨gb270, 2, none⟩ = some (.int .i64 ((rd_T35 t263 x53_3).f2)) := (blk_cell BK270.out 2).trans rfl
                                        have hfz31_0 := blk_frozen BK270.out 0
                                        have hfz31_1 := blk_frozen BK270.out 1
                                        have hfz31_2 := blk_frozen BK270.out 2
                                        go_wp2
                                        go_meet
                                        case rel => exact ⟨_, (true), (by first | rfl | (simp; done) | (simp [*]; done)), H', ⟨by have := HJ4.out; have := HK2.out; have := HK3.out; first | omega | exact Nat.le_refl _⟩, ⟨by (with_reducible repeat (first | apply Kd.R_alloc | apply Kd.R_drewN | apply Kd.R_drew)); exact Kd.R_mono HO_9.out (fun _ hk => hk.2)⟩, ⟨by (with_reducible repeat (first | apply Kd.R_alloc | apply Kd.R_drewN | apply Kd.R_drew)); exact HO273.out⟩, ⟨by (with_reducible repeat (first | apply Kd.R_alloc | apply Kd.R_drewN | apply Kd.R_drew)); exact HO_35.out⟩, ⟨by (with_reducible repeat (first | apply Kd.R_alloc | apply Kd.R_drewN | apply Kd.R_drew)); exact Kd.R_mono HO_51.out (fun _ hk => hk.2)⟩, ⟨by (with_reducible repeat (first | refine blk_drewN ?_ _ | refine blk_drew ?_ | refine blk_alloc ?_ _)); exact BK270.out⟩, ⟨by repeat (first | (with_reducible first | exact HB.out | apply below_alloc | apply pw_below_drewN | apply below_drew1 | refine below_set ?_ GE270.out) | exact HB.out)⟩⟩
                                      · rw [if_neg c30] at H
                                        have c30b0 : ((((rd_T35 t263 x53_3).f1) == 0) != (x53_3 == (wrap64 ((t263.length : Int) - 1)))) = false := by simpa using c30
                                        (try (have c30b1 : decide ((((rd_T35 t263 x53_3).f1) == 0) = (x53_3 == (wrap64 ((t263.length : Int) - 1)))) = true := by simpa using c30))
                                        (try (have c30b2 : ((((rd_T35 t263 x53_3).f1) == 0) == (x53_3 == (wrap64 ((t263.length : Int) - 1)))) = true := by simpa using c30))
                                        clear c30
                                        (first | rw [c30b0] | (simp only [i64_w, i32_w]; rw [c30b0]) | skip)
                                        by_cases c32 : ((((rd_T35 t263 x53_3).f2) == 0) != (((rd_T35 t263 x53_3).f1) == 0)) = true
                                        · rw [if_pos c32] at H
                                          have c32b0 : ((((rd_T35 t263 x53_3).f2) == 0) != (((rd_T35 t263 x53_3).f1) == 0)) = true := c32
                                          (try (have c32b1 : decide ((((rd_T35 t263 x53_3).f2) == 0) = (((rd_T35 t263 x53_3).f1) == 0)) = false := by simpa using c32))
                                          (try (have c32b2 : ((((rd_T35 t263 x53_3).f2) == 0) == (((rd_T35 t263 x53_3).f1) == 0)) = false := by simpa using c32))
                                          (try (have c32b3 : ¬ ((((rd_T35 t263 x53_3).f2) == 0) = (((rd_T35 t263 x53_3).f1) == 0)) := by simpa using c32))
                                          clear c32
                                          have H' := Aside0.mk H
                                          clear H
                                          have hcz33_0 : w29.cell? ⟨gb270, 0, none⟩ = some (.string ((rd_T35 t263 x53_3).f0)) := (blk_cell BK270.out 0).trans rfl
                                          have hcz33_1 : w29.cell? ⟨gb270, 1, none⟩ = some (.int .i64 ((rd_T35 t263 x53_3).f1)) := (blk_cell BK270.out 1).trans rfl
                                          have hcz33_2 : w29.cell? ⟨gb270, 2, none⟩ = some (.int .i64 ((rd_T35 t263 x53_3).f2)) := (blk_cell BK270.out 2).trans rfl
                                          have hfz33_0 := blk_frozen BK270.out 0
                                          have hfz33_1 := blk_frozen BK270.out 1
                                          have hfz33_2 := blk_frozen BK270.out 2
                                          go_wp2
                                          go_meet
                                          case rel => exact ⟨_, (true), (by first | rfl | (simp; done) | (simp [*]; done)), H', ⟨by have := HJ4.out; have := HK2.out; have := HK3.out; first | omega | exact Nat.le_refl _⟩, ⟨by (with_reducible repeat (first | apply Kd.R_alloc | apply Kd.R_drewN | apply Kd.R_drew)); exact Kd.R_mono HO_9.out (fun _ hk => hk.2)⟩, ⟨by (with_reducible repeat (first | apply Kd.R_alloc | apply Kd.R_drewN | apply Kd.R_drew)); exact HO273.out⟩, ⟨by (with_reducible repeat (first | apply Kd.R_alloc | apply Kd.R_drewN | apply Kd.R_drew)); exact HO_35.out⟩, ⟨by (with_reducible repeat (first | apply Kd.R_alloc | apply Kd.R_drewN | apply Kd.R_drew)); exact Kd.R_mono HO_51.out (fun _ hk => hk.2)⟩, ⟨by (with_reducible repeat (first | refine blk_drewN ?_ _ | refine blk_drew ?_ | refine blk_alloc ?_ _)); exact BK270.out⟩, ⟨by repeat (first | (with_reducible first | exact HB.out | apply below_alloc | apply pw_below_drewN | apply below_drew1 | refine below_set ?_ GE270.out) | exact HB.out)⟩⟩
                                        · rw [if_neg c32] at H
                                          have c32b0 : ((((rd_T35 t263 x53_3).f2) == 0) != (((rd_T35 t263 x53_3).f1) == 0)) = false := by simpa using c32
                                          (try (have c32b1 : decide ((((rd_T35 t263 x53_3).f2) == 0) = (((rd_T35 t263 x53_3).f1) == 0)) = true := by simpa using c32))
                                          (try (have c32b2 : ((((rd_T35 t263 x53_3).f2) == 0) == (((rd_T35 t263 x53_3).f1) == 0)) = true := by simpa using c32))
                                          clear c32
                                          by_cases c34 : ((rd_T35 t263 x53_3).f1) < 0
                                          · rw [if_pos c34] at H
                                            have c34b0 : decide (((rd_T35 t263 x53_3).f1) < 0) = true := decide_eq_true c34
                                            clear c34
                                            have H' := Aside0.mk H
                                            clear H
                                            have hcz35_0 : w29.cell? ⟨gb270, 0, none⟩ = some (.string ((rd_T35 t263 x53_3).f0)) := (blk_cell BK270.out 0).trans rfl
                                            have hcz35_1 : w29.cell? ⟨gb270, 1, none⟩ = some (.int .i64 ((rd_T35 t263 x53_3).f1)) := (blk_cell BK270.out 1).trans rfl
                                            have hcz35_2 : w29.cell? ⟨gb270, 2, none⟩ = some (.int .i64 ((rd_T35 t263 x53_3).f2)) := (blk_cell BK270.out 2).trans rfl
                                            have hfz35_0 := blk_frozen BK270.out 0
                                            have hfz35_1 := blk_frozen BK270.out 1
                                            have hfz35_2 := blk_frozen BK270.out 2
                                            go_wp2
                                            go_meet
                                            case rel => exact ⟨_, (true), (by first | rfl | (simp; done) | (simp [*]; done)), H', ⟨by have := HJ4.out; have := HK2.out; have := HK3.out; first | omega | exact Nat.le_refl _⟩, ⟨by (with_reducible repeat (first | apply Kd.R_alloc | apply Kd.R_drewN | apply Kd.R_drew)); exact Kd.R_mono HO_9.out (fun _ hk => hk.2)⟩, ⟨by (with_reducible repeat (first | apply Kd.R_alloc | apply Kd.R_drewN | apply Kd.R_drew)); exact HO273.out⟩, ⟨by (with_reducible repeat (first | apply Kd.R_alloc | apply Kd.R_drewN | apply Kd.R_drew)); exact HO_35.out⟩, ⟨by (with_reducible repeat (first | apply Kd.R_alloc | apply Kd.R_drewN | apply Kd.R_drew)); exact Kd.R_mono HO_51.out (fun _ hk => hk.2)⟩, ⟨by (with_reducible repeat (first | refine blk_drewN ?_ _ | refine blk_drew ?_ | refine blk_alloc ?_ _)); exact BK270.out⟩, ⟨by repeat (first | (with_reducible first | exact HB.out | apply below_alloc | apply pw_below_drewN | apply below_drew1 | refine below_set ?_ GE270.out) | exact HB.out)⟩⟩
                                          · rw [if_neg c34] at H
                                            have c34b0 : decide (((rd_T35 t263 x53_3).f1) < 0) = false := decide_eq_false c34
                                            clear c34
                                            by_cases c36 : ((rd_T35 t263 x53_3).f1) > (y271.length : Int)
                                            · rw [if_pos c36] at H
                                              have c36b0 : decide ((y271.length : Int) < ((rd_T35 t263 x53_3).f1)) = true := decide_eq_true c36
                                              clear c36
                                              have H' := Aside0.mk H
                                              clear H
                                              have hcz37_0 : w29.cell? ⟨gb270, 0, none⟩ = some (.string ((rd_T35 t263 x53_3).f0)) := (blk_cell BK270.out 0).trans rfl
                                              have hcz37_1 : w29.cell? ⟨gb270, 1, none⟩ = some (.int .i64 ((rd_T35 t263 x53_3).f1)) := (blk_cell BK270.out 1).trans rfl
                                              have hcz37_2 : w29.cell? ⟨gb270, 2, none⟩ = some (.int .i64 ((rd_T35 t263 x53_3).f2)) := (blk_cell BK270.out 2).trans rfl
                                              have hfz37_0 := blk_frozen BK270.out 0
                                              have hfz37_1 := blk_frozen BK270.out 1
                                              have hfz37_2 := blk_frozen BK270.out 2
                                              obtain ⟨Ao38, co38, eo38⟩ := Kd.R_slice HO273.out
                                              subst eo38
                                              go_wp2
                                              go_meet
                                              case rel => exact ⟨_, (true), (by first | rfl | (simp; done) | (simp [*]; done)), H', ⟨by have := HJ4.out; have := HK2.out; have := HK3.out; first | omega | exact Nat.le_refl _⟩, ⟨by (with_reducible repeat (first | apply Kd.R_alloc | apply Kd.R_drewN | apply Kd.R_drew)); exact Kd.R_mono HO_9.out (fun _ hk => hk.2)⟩, ⟨by (with_reducible repeat (first | apply Kd.R_alloc | apply Kd.R_drewN | apply Kd.R_drew)); exact HO273.out⟩, ⟨by (with_reducible repeat (first | apply Kd.R_alloc | apply Kd.R_drewN | apply Kd.R_drew)); exact HO_35.out⟩, ⟨by (with_reducible repeat (first | apply Kd.R_alloc | apply Kd.R_drewN | apply Kd.R_drew)); exact Kd.R_mono HO_51.out (fun _ hk => hk.2)⟩, ⟨by (with_reducible repeat (first | refine blk_drewN ?_ _ | refine blk_drew ?_ | refine blk_alloc ?_ _)); exact BK270.out⟩, ⟨by repeat (first | (with_reducible first | exact HB.out | apply below_alloc | apply pw_below_drewN | apply below_drew1 | refine below_set ?_ GE270.out) | exact HB.out)⟩⟩
                                            · rw [if_neg c36] at H
                                              have c36b0 : decide ((y271.length : Int) < ((rd_T35 t263 x53_3).f1)) = false := decide_eq_false c36
                                              clear c36
                                              have H' := Aside0.mk H
                                              clear H
                                              have hcz39_0 : w29.cell? ⟨gb270, 0, none⟩ = some (.string ((rd_T35 t263 x53_3).f0)) := (blk_cell BK270.out 0).trans rfl
                                              have hcz39_1 : w29.cell? ⟨gb270, 1, none⟩ = some (.int .i64 ((rd_T35 t263 x53_3).f1)) := (blk_cell BK270.out 1).trans rfl
                                              have hcz39_2 : w29.cell? ⟨gb270, 2, none⟩ = some (.int .i64 ((rd_T35 t263 x53_3).f2)) := (blk_cell BK270.out 2).trans rfl
                                              have hfz39_0 := blk_frozen BK270.out 0
                                              have hfz39_1 := blk_frozen BK270.out 1
                                              have hfz39_2 := blk_frozen BK270.out 2
                                              obtain ⟨Ao40, co40, eo40⟩ := Kd.R_slice HO273.out
                                              subst eo40
                                              go_wp2
                                              go_meet
                                              case rel => exact ⟨_, (decide (((rd_T35 t263 x53_3).f2) > 131072)), (by first | rfl | (simp; done) | (simp [*]; done)), H', ⟨by have := HJ4.out; have := HK2.out; have := HK3.out; first | omega | exact Nat.le_refl _⟩, ⟨by (with_reducible repeat (first | apply Kd.R_alloc | apply Kd.R_drewN | apply Kd.R_drew)); exact Kd.R_mono HO_9.out (fun _ hk => hk.2)⟩, ⟨by (with_reducible repeat (first | apply Kd.R_alloc | apply Kd.R_drewN | apply Kd.R_drew)); exact HO273.out⟩, ⟨by (with_reducible repeat (first | apply Kd.R_alloc | apply Kd.R_drewN | apply Kd.R_drew)); exact HO_35.out⟩, ⟨by (with_reducible repeat (first | apply Kd.R_alloc | apply Kd.R_drewN | apply Kd.R_drew)); exact Kd.R_mono HO_51.out (fun _ hk => hk.2)⟩, ⟨by (with_reducible repeat (first | refine blk_drewN ?_ _ | refine blk_drew ?_ | refine blk_alloc ?_ _)); exact BK270.out⟩, ⟨by repeat (first | (with_reducible first | exact HB.out | apply below_alloc | apply pw_below_drewN | apply below_drew1 | refine below_set ?_ GE270.out) | exact HB.out)⟩⟩
                                    case rest =>
                                      clear HC26
                                      try clear c1
                                      try clear c2
                                      try clear p2
                                      try clear q2
                                      try clear hx2
                                      try clear c3
                                      try clear c4
                                      try clear p6
                                      try clear c7
                                      try clear c7b0
                                      try clear c7b1
                                      try clear c8
                                      try clear c10
                                      try clear c10b0
                                      try clear c10b1
                                      try clear c12
                                      try clear c15
                                      try clear c15b0
                                      try clear c16
                                      try clear c16b0
                                      try clear c17
                                      try clear c17b0
                                      try clear c19
                                      try clear c19b0
                                      try clear c19b1
                                      try clear c22
                                      try clear c22b0
                                      try clear c23
                                      try clear c23b0
                                      try clear c24
                                      try clear c24b0
                                      try clear c25
                                      try clear p26
                                      try clear q26
                                      try clear hx26
                                      try clear c30
                                      try clear c30b0
                                      try clear c30b1
                                      try clear c30b2
                                      try clear c32
                                      try clear c32b0
                                      try clear c32b1
                                      try clear c32b2
                                      try clear c34
                                      try clear c34b0
                                      try clear c36
                                      try clear c36b0
                                      try clear hcz28_0
                                      try clear hcz28_1
                                      try clear hcz28_2
                                      try clear hcz31_0
                                      try clear hcz31_1
                                      try clear hcz31_2
                                      try clear hcz33_0
                                      try clear hcz33_1
                                      try clear hcz33_2
                                      try clear hcz35_0
                                      try clear hcz35_1
                                      try clear hcz35_2
                                      try clear hcz37_0
                                      try clear hcz37_1
                                      try clear hcz37_2
                                      try clear hcz39_0
                                      try clear hcz39_1
                                      try clear hcz39_2
                                      try clear hfz28_0
                                      try clear hfz28_1
                                      try clear hfz28_2
                                      try clear hfz31_0
                                      try clear hfz31_1
                                      try clear hfz31_2
                                      try clear hfz33_0
                                      try clear hfz33_1
                                      try clear hfz33_2
                                      try clear hfz35_0
                                      try clear hfz35_1
                                      try clear hfz35_2
                                      try clear hfz37_0
                                      try clear hfz37_1
                                      try clear hfz37_2
                                      try clear hfz39_0
                                      try clear hfz39_1
                                      try clear hfz39_2
                                      try clear hx262_0
                                      try clear hx269_0
                                      try clear hx269_1
                                      try clear hx269_2
                                      try clear p2
                                      try clear p262
                                      try clear p269
                                      try clear p6
                                      try clear q2
                                      try clear q262
                                      try clear q269
                                      obtain ⟨kq, x96_25, rfl, HA, HJ25, HO_9, HO_11, HO_35, HO_51, BK270, HB⟩ := hcut
                                      cases kq with
                                      | zero => exact absurd HA.out (by simp [garretlaw12_LzSums.j3])
                                      | succ kj25 =>
                                        have H := HA.out
                                        clear HA
                                        simp only [garretlaw12_LzSums.j3] at H
                                        by_cases c41 : x96_25 = true
                                        · subst c41
                                          have H1 : (some (decide (((rd_T35 t263 x53_3).f2) > 131072))) = some r := by rw [if_pos rfl] at H; exact H
                                          clear H
                                          have H := H1
                                          clear H1
                                          obtain rfl := Option.some.inj H
                                          have hcz42_0 : wc.cell? ⟨gb270, 0, none⟩ = some (.string ((rd_T35 t263 x53_3).f0)) := (blk_cell BK270.out 0).trans rfl
                                          have hcz42_1 : wc.cell? ⟨gb270, 1, none⟩ = some (.int .i64 ((rd_T35 t263 x53_3).f1)) := (blk_cell BK270.out 1).trans rfl
                                          have hcz42_2 : wc.cell? ⟨gb270, 2, none⟩ = some (.int .i64 ((rd_T35 t263 x53_3).f2)) := (blk_cell BK270.out 2).trans rfl
                                          have hfz42_0 := blk_frozen BK270.out 0
                                          have hfz42_1 := blk_frozen BK270.out 1
                                          have hfz42_2 := blk_frozen BK270.out 2
                                          go_wp2
                                          go_ret
                                          exact ⟨by first | rfl | (simp [errW_none, errW_some] <;> rfl) | (simp [*, errW_none, errW_some] <;> rfl), by repeat (first | (with_reducible first | exact HB.out | apply below_alloc | apply pw_below_drewN | apply below_drew1 | refine below_set ?_ GE270.out) | exact HB.out)⟩
                                        · replace c41 := Bool.eq_false_iff.mpr c41
                                          subst c41
                                          have H1 : (garretlaw12_LzSums.l2 kj25 t257 (rdOf ByteArray.empty y259 x37_2) t263 y271 y259 (y259.length : Int) x37_2 t263 (t263.length : Int) x53_3 ((rd_T35 t263 x53_3).f2) 0 ((rd_T35 t263 x53_3).f0) ((rd_T35 t263 x53_3).f1) ((rd_T35 t263 x53_3).f2)) = some r := by rw [if_neg (show ¬ (false = true) by decide)] at H; exact H
                                          clear H
                                          have H := H1
                                          clear H1
                                          have H' := Aside0.mk H
                                          clear H
                                          have hcz43_0 : wc.cell? ⟨gb270, 0, none⟩ = some (.string ((rd_T35 t263 x53_3).f0)) := (blk_cell BK270.out 0).trans rfl
                                          have hcz43_1 : wc.cell? ⟨gb270, 1, none⟩ = some (.int .i64 ((rd_T35 t263 x53_3).f1)) := (blk_cell BK270.out 1).trans rfl
                                          have hcz43_2 : wc.cell? ⟨gb270, 2, none⟩ = some (.int .i64 ((rd_T35 t263 x53_3).f2)) := (blk_cell BK270.out 2).trans rfl
                                          have hfz43_0 := blk_frozen BK270.out 0
                                          have hfz43_1 := blk_frozen BK270.out 1
                                          have hfz43_2 := blk_frozen BK270.out 2
                                          go_wp2
                                          go_loopg [11, 102] kj25 (fun kq v11 v102 w' => ∃ (x11_5 : List Int) (x102_5 : Int), v102 = .int .i64 x102_5 ∧ Aside0 (garretlaw12_LzSums.l2 kq t257 (rdOf ByteArray.empty y259 x37_2) t263 x11_5 y259 (y259.length : Int) x37_2 t263 (t263.length : Int) x53_3 ((rd_T35 t263 x53_3).f2) x102_5 ((rd_T35 t263 x53_3).f0) ((rd_T35 t263 x53_3).f1) ((rd_T35 t263 x53_3).f2) = some r) ∧ Aside0 (kq ≤ kj25) ∧ Aside0 (Kd.R k35 35 w' w.heap.size (fun k_ => k_ ≠ gb270) (.slice (some ad269) t263.length co21) t263) ∧ Aside0 (Kd.R (Kd.int .u8) 5 w' w.heap.size (fun _ => True) v11 x11_5) ∧ Aside0 (Kd.R Kd.string 9 w' w.heap.size (fun _ => True) (.slice (some ad262) y259.length co14) y259) ∧ Aside0 (Kd.R k35 35 w' w.heap.size (fun k_ => k_ ≠ gb270) (.slice (some ad269) t263.length co21) t263) ∧ Aside0 (w'.heap[gb270]? = some (.cells #[.string ((rd_T35 t263 x53_3).f0), .int .i64 ((rd_T35 t263 x53_3).f1), .int .i64 ((rd_T35 t263 x53_3).f2)] 35 (0, 0))) ∧ Aside0 (Below w.heap.size w w'))
                                          case atStart => exact ⟨(y271), (0), (by first | rfl | (simp; done) | (simp [*]; done)), H', ⟨Nat.le_refl _⟩, ⟨by (with_reducible repeat (first | apply Kd.R_alloc | apply Kd.R_drewN | apply Kd.R_drew)); exact HO_9.out⟩, ⟨by (with_reducible repeat (first | apply Kd.R_alloc | apply Kd.R_drewN | apply Kd.R_drew)); exact HO_11.out⟩, ⟨by (with_reducible repeat (first | apply Kd.R_alloc | apply Kd.R_drewN | apply Kd.R_drew)); exact HO_35.out⟩, ⟨by (with_reducible repeat (first | apply Kd.R_alloc | apply Kd.R_drewN | apply Kd.R_drew)); exact HO_51.out⟩, ⟨by (with_reducible repeat (first | refine blk_drewN ?_ _ | refine blk_drew ?_ | refine blk_alloc ?_ _)); exact BK270.out⟩, ⟨by repeat (first | (with_reducible first | exact HB.out | apply below_alloc | apply pw_below_drewN | apply below_drew1 | refine below_set ?_ GE270.out) | exact HB.out)⟩⟩
                                          case round =>
                                            clear H'
                                            try clear c1
                                            try clear c2
                                            try clear p2
                                            try clear q2
                                            try clear hx2
                                            try clear c3
                                            try clear c4
                                            try clear p6
                                            try clear c7
                                            try clear c7b0
                                            try clear c7b1
                                            try clear c8
                                            try clear c10
                                            try clear c10b0
                                            try clear c10b1
                                            try clear c12
                                            try clear c15
                                            try clear c15b0
                                            try clear c16
                                            try clear c16b0
                                            try clear c17
                                            try clear c17b0
                                            try clear c19
                                            try clear c19b0
                                            try clear c19b1
                                            try clear c22
                                            try clear c22b0
                                            try clear c23
                                            try clear c23b0
                                            try clear c24
                                            try clear c24b0
                                            try clear c25
                                            try clear p26
                                            try clear q26
                                            try clear hx26
                                            try clear c30
                                            try clear c30b0
                                            try clear c30b1
                                            try clear c30b2
                                            try clear c32
                                            try clear c32b0
                                            try clear c32b1
                                            try clear c32b2
                                            try clear c34
                                            try clear c34b0
                                            try clear c36
                                            try clear c36b0
                                            try clear c41
                                            try clear hcz28_0
                                            try clear hcz28_1
                                            try clear hcz28_2
                                            try clear hcz31_0
                                            try clear hcz31_1
                                            try clear hcz31_2
                                            try clear hcz33_0
                                            try clear hcz33_1
                                            try clear hcz33_2
                                            try clear hcz35_0
                                            try clear hcz35_1
                                            try clear hcz35_2
                                            try clear hcz37_0
                                            try clear hcz37_1
                                            try clear hcz37_2
                                            try clear hcz39_0
                                            try clear hcz39_1
                                            try clear hcz39_2
                                            try clear hcz42_0
                                            try clear hcz42_1
                                            try clear hcz42_2
                                            try clear hcz43_0
                                            try clear hcz43_1
                                            try clear hcz43_2
                                            try clear hfz28_0
                                            try clear hfz28_1
                                            try clear hfz28_2
                                            try clear hfz31_0
                                            try clear hfz31_1
                                            try clear hfz31_2
                                            try clear hfz33_0
                                            try clear hfz33_1
                                            try clear hfz33_2
                                            try clear hfz35_0
                                            try clear hfz35_1
                                            try clear hfz35_2
                                            try clear hfz37_0
                                            try clear hfz37_1
                                            try clear hfz37_2
                                            try clear hfz39_0
                                            try clear hfz39_1
                                            try clear hfz39_2
                                            try clear hfz42_0
                                            try clear hfz42_1
                                            try clear hfz42_2
                                            try clear hfz43_0
                                            try clear hfz43_1
                                            try clear hfz43_2
                                            try clear hx262_0
                                            try clear hx269_0
                                            try clear hx269_1
                                            try clear hx269_2
                                            try clear p2
                                            try clear p26
                                            try clear p262
                                            try clear p269
                                            try clear p6
                                            try clear q2
                                            try clear q26
                                            try clear q262
                                            try clear q269
                                            obtain ⟨x11_5, x102_5, rfl, HA, HK5, HO_9, HO_11, HO_35, HO_51, BK270, HB⟩ := hrel
                                            cases gk with
                                            | zero => exact absurd HA.out (by simp [garretlaw12_LzSums.l2])
                                            | succ k5 =>
                                              have H := HA.out
                                              clear HA
                                              simp only [garretlaw12_LzSums.l2] at H
                                              by_cases c44 : x102_5 < ((rd_T35 t263 x53_3).f2)
                                              · rw [if_pos c44] at H
                                                have c44b0 : decide (x102_5 < ((rd_T35 t263 x53_3).f2)) = true := decide_eq_true c44
                                                clear c44
                                                obtain ⟨ji45, hji45⟩ : ∃ j_ : Int, (wrap64 ((x11_5.length : Int) - ((rd_T35 t263 x53_3).f1))) = j_ := ⟨_, rfl⟩
                                                replace H : (if 0 ≤ (ji45) then (if (ji45) < (x11_5.length : Int) then (if x11_5.length < 140737488355328 then (garretlaw12_LzSums.l2 k5 t257 (rdOf ByteArray.empty y259 x37_2) t263 (x11_5 ++ [rd x11_5 (ji45)]) y259 (y259.length : Int) x37_2 t263 (t263.length : Int) x53_3 ((rd_T35 t263 x53_3).f2) (wrap64 (x102_5 + 1)) ((rd_T35 t263 x53_3).f0) ((rd_T35 t263 x53_3).f1) ((rd_T35 t263 x53_3).f2)) else (none)) else (none)) else (none)) = some r := by first | (rw [hji45] at H; exact H) | (simp only [hji45] at H ⊢; exact H)
                                                have hji45w : (IntKind.i64.wrap ((x11_5.length : Int) - ((rd_T35 t263 x53_3).f1))) = ji45 := (i64_w _).trans hji45
                                                by_cases c46 : 0 ≤ (ji45)
                                                · rw [if_pos c46] at H
                                                  have c46b0 : decide (0 ≤ (ji45)) = true := decide_eq_true c46
                                                  clear c46
                                                  by_cases c47 : (ji45) < (x11_5.length : Int)
                                                  · rw [if_pos c47] at H
                                                    have c47b0 : decide ((ji45) < (x11_5.length : Int)) = true := decide_eq_true c47
                                                    clear c47
                                                    by_cases c48 : x11_5.length < 140737488355328
                                                    · rw [if_pos c48] at H
                                                      have LMc48 := Aside0.mk c48
                                                      clear c48
                                                      obtain ⟨y275, hy275⟩ : ∃ y_ : List Int, y_ = (x11_5 ++ [rd x11_5 (ji45)]) := ⟨_, rfl⟩
                                                      replace H : (garretlaw12_LzSums.l2 k5 t257 (rdOf ByteArray.empty y259 x37_2) t263 y275 y259 (y259.length : Int) x37_2 t263 (t263.length : Int) x53_3 ((rd_T35 t263 x53_3).f2) (wrap64 (x102_5 + 1)) ((rd_T35 t263 x53_3).f0) ((rd_T35 t263 x53_3).f1) ((rd_T35 t263 x53_3).f2)) = some r := by first | (rw [hy275]; with_reducible exact H) | (have H2_ := (Option.bind_some _ _).symm.trans H; rw [hy275]; with_reducible exact H2_) | (have H2_ := (Option.bind_some _ _).symm.trans H; with_reducible exact H2_) | with_reducible exact H | (rw [hy275]; exact H) | exact H
                                                      have Ny275 := Aside0.mk hy275
                                                      clear hy275
                                                      have H' := Aside0.mk H
                                                      clear H
                                                      obtain ⟨Ao49, co49, eo49⟩ := Kd.R_slice HO_11.out
                                                      subst eo49
                                                      have hcz50_0 : wr.cell? ⟨gb270, 0, none⟩ = some (.string ((rd_T35 t263 x53_3).f0)) := (blk_cell BK270.out 0).trans rfl
                                                      have hcz50_1 : wr.cell? ⟨gb270, 1, none⟩ = some (.int .i64 ((rd_T35 t263 x53_3).f1)) := (blk_cell BK270.out 1).trans rfl
                                                      have hcz50_2 : wr.cell? ⟨gb270, 2, none⟩ = some (.int .i64 ((rd_T35 t263 x53_3).f2)) := (blk_cell BK270.out 2).trans rfl
                                                      have hfz50_0 := blk_frozen BK270.out 0
                                                      have hfz50_1 := blk_frozen BK270.out 1
                                                      have hfz50_2 := blk_frozen BK270.out 2
                                                      have p274 : 0 ≤ ((ji45) : Int) := of_decide_eq_true (by first | (with_reducible assumption) | assumption)
                                                      have q274 : (ji45) < (x11_5.length : Int) := of_decide_eq_true (by first | (with_reducible assumption) | assumption)
                                                      obtain ⟨ad274, e274, hx274_0⟩ := Kd.at_int (Kd.R_reads' HO_11.out).2.2 (ji45) p274 q274
                                                      cases e274
                                                      replace p274 := eq_true p274
                                                      replace q274 := eq_true q274
                                                      go_wp2_with (first | ((with_reducible refine gate_builtin (b := .append) (xs := #[.tmp 104, .tmp 113]) rfl ?_); (try (refine gate_guard (by rfl) ?_; dsimp only)); at_builtin; refine Kd.R_append (Kd.int .u8) (w0 := w) w.heap.size rfl (.tmp 104) (.tmp 113) 41 5 (.int .u8 0) 1 rfl Try.underlying41 info5 rfl (by decide) (by omega) (.slice (some ad274) x11_5.length co49) x11_5 (rd x11_5 (ji45)) [.int .u8 (rd x11_5 (ji45))] (fun _ => True) (fun _ => False) rfl rfl ?aP (fun _ hk => hk.elim) ?aF ?aO ?aB ?aS ?aL ?_; (case aP => exact rfl); (case aB => exact (by repeat (first | (with_reducible first | exact HB.out | apply below_alloc | apply pw_below_drewN | apply below_drew1 | refine below_set ?_ GE270.out) | exact HB.out))); (case aF => exact (fun _ _ => trivial)); (case aO => exact (by (with_reducible repeat (first | apply Kd.R_alloc | apply Kd.R_drewN | apply Kd.R_drew)); exact HO_11.out)); (case aS => exact (below_size (by repeat (first | (with_reducible first | exact HB.out | apply below_alloc | apply pw_below_drewN | apply below_drew1 | refine below_set ?_ GE270.out) | exact HB.out)))); (case aL => have := LMc48.out; omega); intro v276 w51 ho hb hg hat; rw [← Ny275.out] at ho; have n0_ := Aside0.mk (Kd.R_over' (by (with_reducible repeat (first | apply Kd.R_alloc | apply Kd.R_drewN | apply Kd.R_drew)); exact HO_9.out) (Kd.R_typed (by (with_reducible repeat (first | apply Kd.R_alloc | apply Kd.R_drewN | apply Kd.R_drew)); exact HO_11.out)) (by decide) hg); have n1_ := Aside0.mk (Kd.R_over' (by (with_reducible repeat (first | apply Kd.R_alloc | apply Kd.R_drewN | apply Kd.R_drew)); exact HO_35.out) (Kd.R_typed (by (with_reducible repeat (first | apply Kd.R_alloc | apply Kd.R_drewN | apply Kd.R_drew)); exact HO_11.out)) (by decide) hg); have n2_ := Aside0.mk (Kd.R_over' (by (with_reducible repeat (first | apply Kd.R_alloc | apply Kd.R_drewN | apply Kd.R_drew)); exact HO_51.out) (Kd.R_typed (by (with_reducible repeat (first | apply Kd.R_alloc | apply Kd.R_drewN | apply Kd.R_drew)); exact HO_11.out)) (by decide) hg); have n3_ := Aside0.mk (blk_grown (g := gb270) (o := .cells #[.string ((rd_T35 t263 x53_3).f0), .int .i64 ((rd_T35 t263 x53_3).f1), .int .i64 ((rd_T35 t263 x53_3).f2)] 35 (0, 0)) (by (with_reducible repeat (first | refine blk_drewN ?_ _ | refine blk_drew ?_ | refine blk_alloc ?_ _)); exact BK270.out) hg (Kd.R_ne HO_11.out BK270.out (by decide))); have n4_ := Aside0.mk (hb); have n5_ := Aside0.mk (ho); clear HO_9; clear HO_35; clear HO_51; clear BK270; clear HB; clear HO_11; have HO_9 := n0_; have HO_35 := n1_; have HO_51 := n2_; have BK270 := n3_; have HB := n4_; have HO277 := n5_; clear n0_ n1_ n2_ n3_ n4_ n5_; clear ho hb hg hat))
                                                      go_roundg k5
                                                      case measure => have := HJ4.out; have := HK2.out; have := HK3.out; have := HJ25.out; have := HK5.out; omega
                                                      case rel => exact ⟨(y275), (wrap64 (x102_5 + 1)), (by first | rfl | (simp; done) | (simp [*]; done)), H', ⟨by have := HJ4.out; have := HK2.out; have := HK3.out; have := HJ25.out; have := HK5.out; omega⟩, ⟨by (with_reducible repeat (first | apply Kd.R_alloc | apply Kd.R_drewN | apply Kd.R_drew)); exact HO_9.out⟩, ⟨by (with_reducible repeat (first | apply Kd.R_alloc | apply Kd.R_drewN | apply Kd.R_drew)); exact HO277.out⟩, ⟨by (with_reducible repeat (first | apply Kd.R_alloc | apply Kd.R_drewN | apply Kd.R_drew)); exact HO_35.out⟩, ⟨by (with_reducible repeat (first | apply Kd.R_alloc | apply Kd.R_drewN | apply Kd.R_drew)); exact HO_51.out⟩, ⟨by (with_reducible repeat (first | refine blk_drewN ?_ _ | refine blk_drew ?_ | refine blk_alloc ?_ _)); exact BK270.out⟩, ⟨by repeat (first | (with_reducible first | exact HB.out | apply below_alloc | apply pw_below_drewN | apply below_drew1 | refine below_set ?_ GE270.out) | exact HB.out)⟩⟩
                                                    · rw [if_neg c48] at H
                                                      exact absurd H (by simp)
                                                  · rw [if_neg c47] at H
                                                    exact absurd H (by simp)
                                                · rw [if_neg c46] at H
                                                  exact absurd H (by simp)
                                              · rw [if_neg c44] at H
                                                have c44b0 : decide (x102_5 < ((rd_T35 t263 x53_3).f2)) = false := decide_eq_false c44
                                                clear c44
                                                by_cases c52 : (x11_5.length : Int) > 131072
                                                · rw [if_pos c52] at H
                                                  have c52b0 : decide (131072 < (x11_5.length : Int)) = true := decide_eq_true c52
                                                  have c52b1 : decide (131072 < x11_5.length) = true := decide_eq_true (by omega)
                                                  clear c52
                                                  obtain rfl := Option.some.inj H
                                                  obtain ⟨Ao53, co53, eo53⟩ := Kd.R_slice HO_11.out
                                                  subst eo53
                                                  go_wp2
                                                  go_ret
                                                  exact ⟨by first | rfl | (simp [errW_none, errW_some] <;> rfl) | (simp [*, errW_none, errW_some] <;> rfl), by repeat (first | (with_reducible first | exact HB.out | apply below_alloc | apply pw_below_drewN | apply below_drew1 | refine below_set ?_ GE270.out) | exact HB.out)⟩
                                                · rw [if_neg c52] at H
                                                  have c52b0 : decide (131072 < (x11_5.length : Int)) = false := decide_eq_false c52
                                                  have c52b1 : decide (131072 < x11_5.length) = false := decide_eq_false (by omega)
                                                  clear c52
                                                  have H' := Aside0.mk H
                                                  clear H
                                                  obtain ⟨Ao54, co54, eo54⟩ := Kd.R_slice HO_11.out
                                                  subst eo54
                                                  go_wp2
                                                  go_roundg k5
                                                  case measure => have := HJ4.out; have := HK2.out; have := HK3.out; have := HJ25.out; have := HK5.out; omega
                                                  case rel => exact ⟨(x11_5), (wrap64 (x53_3 + 1)), (by first | rfl | (simp; done) | (simp [*]; done)), H', ⟨by have := HJ4.out; have := HK2.out; have := HK3.out; have := HJ25.out; have := HK5.out; omega⟩, ⟨by (with_reducible repeat (first | apply Kd.R_alloc | apply Kd.R_drewN | apply Kd.R_drew)); exact Kd.R_mono HO_9.out (fun _ hk => trivial)⟩, ⟨by (with_reducible repeat (first | apply Kd.R_alloc | apply Kd.R_drewN | apply Kd.R_drew)); exact HO_11.out⟩, ⟨by (with_reducible repeat (first | apply Kd.R_alloc | apply Kd.R_drewN | apply Kd.R_drew)); exact HO_35.out⟩, ⟨by (with_reducible repeat (first | apply Kd.R_alloc | apply Kd.R_drewN | apply Kd.R_drew)); exact Kd.R_mono HO_51.out (fun _ hk => trivial)⟩, ⟨by repeat (first | (with_reducible first | exact HB.out | apply below_alloc | apply pw_below_drewN | apply below_drew1 | refine below_set ?_ GE270.out) | exact HB.out)⟩⟩
                                  · rw [if_neg c25] at H
                                    exact absurd H (by simp)
                                · rw [if_neg c24] at H
                                  exact absurd H (by simp)
                              · rw [if_neg c23] at H
                                exact absurd H (by simp)
                            · rw [if_neg c22] at H
                              have c22b0 : decide (x53_3 < (t263.length : Int)) = false := decide_eq_false c22
                              clear c22
                              replace H := Option.bind_eq_some_iff.mp H
                              obtain ⟨⟨t267, t268⟩, A550, H⟩ := H
                              replace H : (if t268 = 0 then (if t267.toList = (strOfNums x11_3).toList then (garretlaw12_LzSums.l0 k3 t257 y259 (y259.length : Int) (wrap64 (x37_2 + 1))) else (some false)) else (some false)) = some r := H
                              have A55 := Aside0.mk A550
                              clear A550
                              by_cases c56 : t268 = 0
                              · rw [if_pos c56] at H
                                have c56b0 : (t268 == 0) = true := beq_iff_eq.mpr c56
                                have c56b1 : (t268 != 0) = false := bne_eq_false_iff_eq.mpr c56
                                clear c56
                                by_cases c57 : t267.toList = (strOfNums x11_3).toList
                                · rw [if_pos c57] at H
                                  have c57b0 : (t267.toList == (strOfNums x11_3).toList) = true := beq_iff_eq.mpr c57
                                  have c57b1 : (t267.toList != (strOfNums x11_3).toList) = false := bne_eq_false_iff_eq.mpr c57
                                  clear c57
                                  have H' := Aside0.mk H
                                  clear H
                                  obtain ⟨Ao58, co58, eo58⟩ := Kd.R_slice HO_11.out
                                  subst eo58
                                  go_wp2_with (first | ((with_reducible refine gate_callee (f := 10) rfl ?_); refine goesL_ (some 124) rfl rfl Try.func10 (by kernel_rfl) rfl #[.string (rdOf ByteArray.empty y259 x37_2), .int .i64 (x11_3.length : Int)] rfl (by (try simp only [List.map_toArray, List.map_cons, List.map_nil]); first | done | rfl | (simp only [List.length_drop, List.length_take]; rfl)) ?_; (with_reducible refine (lz_Unpack.calls (rdOf ByteArray.empty y259 x37_2) (x11_3.length : Int) t267 t268 _ A55.out).mono ?_); rintro e w59 ⟨rfl, hb⟩; refine ⟨_, rfl, ?_⟩; have n0_ := Aside0.mk (Kd.R_below (by (with_reducible repeat (first | apply Kd.R_alloc | apply Kd.R_drewN | apply Kd.R_drew)); exact HO_9.out) hb); have n1_ := Aside0.mk (Kd.R_below (by (with_reducible repeat (first | apply Kd.R_alloc | apply Kd.R_drewN | apply Kd.R_drew)); exact HO_11.out) hb); have n2_ := Aside0.mk (Kd.R_below (by (with_reducible repeat (first | apply Kd.R_alloc | apply Kd.R_drewN | apply Kd.R_drew)); exact HO_35.out) hb); have n3_ := Aside0.mk (Kd.R_below (by (with_reducible repeat (first | apply Kd.R_alloc | apply Kd.R_drewN | apply Kd.R_drew)); exact HO_51.out) hb); have n4_ := Aside0.mk (below_step (by repeat (first | (with_reducible first | exact HB.out | apply below_alloc | apply pw_below_drewN | apply below_drew1) | exact HB.out)) hb); clear HO_9; clear HO_11; clear HO_35; clear HO_51; clear HB; have HO_9 := n0_; have HO_11 := n1_; have HO_35 := n2_; have HO_51 := n3_; have HB := n4_; clear n0_ n1_ n2_ n3_ n4_; (try clear hb); (try clear hb2); (try clear hk); (try clear hi); have hcv60 := own_string (P := Try.prog) Try.underlying41 Try.underlying5 Try.underlying9 (Kd.own_of_R HO_11.out)))
                                  go_roundg k3
                                  case measure => have := HJ4.out; have := HK2.out; have := HK3.out; omega
                                  case rel => exact ⟨(wrap64 (x37_2 + 1)), (by first | rfl | (simp; done) | (simp [*]; done)), H', ⟨by have := HJ4.out; have := HK2.out; have := HK3.out; omega⟩, ⟨by (with_reducible repeat (first | apply Kd.R_alloc | apply Kd.R_drewN | apply Kd.R_drew)); exact HO_35.out⟩, ⟨by repeat (first | (with_reducible first | exact HB.out | apply below_alloc | apply pw_below_drewN | apply below_drew1) | exact HB.out)⟩⟩
                                · rw [if_neg c57] at H
                                  have c57b0 : (t267.toList == (strOfNums x11_3).toList) = false := beq_eq_false_iff_ne.mpr c57
                                  have c57b1 : (t267.toList != (strOfNums x11_3).toList) = true := bne_iff_ne.mpr c57
                                  obtain rfl := Option.some.inj H
                                  obtain ⟨Ao61, co61, eo61⟩ := Kd.R_slice HO_11.out
                                  subst eo61
                                  go_wp2_with (first | ((with_reducible refine gate_callee (f := 10) rfl ?_); refine goesL_ (some 124) rfl rfl Try.func10 (by kernel_rfl) rfl #[.string (rdOf ByteArray.empty y259 x37_2), .int .i64 (x11_3.length : Int)] rfl (by (try simp only [List.map_toArray, List.map_cons, List.map_nil]); first | done | rfl | (simp only [List.length_drop, List.length_take]; rfl)) ?_; (with_reducible refine (lz_Unpack.calls (rdOf ByteArray.empty y259 x37_2) (x11_3.length : Int) t267 t268 _ A55.out).mono ?_); rintro e w62 ⟨rfl, hb⟩; refine ⟨_, rfl, ?_⟩; have n0_ := Aside0.mk (Kd.R_below (by (with_reducible repeat (first | apply Kd.R_alloc | apply Kd.R_drewN | apply Kd.R_drew)); exact HO_9.out) hb); have n1_ := Aside0.mk (Kd.R_below (by (with_reducible repeat (first | apply Kd.R_alloc | apply Kd.R_drewN | apply Kd.R_drew)); exact HO_11.out) hb); have n2_ := Aside0.mk (Kd.R_below (by (with_reducible repeat (first | apply Kd.R_alloc | apply Kd.R_drewN | apply Kd.R_drew)); exact HO_35.out) hb); have n3_ := Aside0.mk (Kd.R_below (by (with_reducible repeat (first | apply Kd.R_alloc | apply Kd.R_drewN | apply Kd.R_drew)); exact HO_51.out) hb); have n4_ := Aside0.mk (below_step (by repeat (first | (with_reducible first | exact HB.out | apply below_alloc | apply pw_below_drewN | apply below_drew1) | exact HB.out)) hb); clear HO_9; clear HO_11; clear HO_35; clear HO_51; clear HB; have HO_9 := n0_; have HO_11 := n1_; have HO_35 := n2_; have HO_51 := n3_; have HB := n4_; clear n0_ n1_ n2_ n3_ n4_; (try clear hb); (try clear hb2); (try clear hk); (try clear hi); have hcv63 := own_string (P := Try.prog) Try.underlying41 Try.underlying5 Try.underlying9 (Kd.own_of_R HO_11.out)))
                                  go_ret
                                  exact ⟨by first | rfl | (simp [errW_none, errW_some] <;> rfl) | (simp [*, errW_none, errW_some] <;> rfl), by repeat (first | (with_reducible first | exact HB.out | apply below_alloc | apply pw_below_drewN | apply below_drew1) | exact HB.out)⟩
                              · rw [if_neg c56] at H
                                have c56b0 : (t268 == 0) = false := beq_eq_false_iff_ne.mpr c56
                                have c56b1 : (t268 != 0) = true := bne_iff_ne.mpr c56
                                obtain rfl := Option.some.inj H
                                obtain ⟨Ao64, co64, eo64⟩ := Kd.R_slice HO_11.out
                                subst eo64
                                go_wp2_with (first | ((with_reducible refine gate_callee (f := 10) rfl ?_); refine goesL_ (some 124) rfl rfl Try.func10 (by kernel_rfl) rfl #[.string (rdOf ByteArray.empty y259 x37_2), .int .i64 (x11_3.length : Int)] rfl (by (try simp only [List.map_toArray, List.map_cons, List.map_nil]); first | done | rfl | (simp only [List.length_drop, List.length_take]; rfl)) ?_; (with_reducible refine (lz_Unpack.calls (rdOf ByteArray.empty y259 x37_2) (x11_3.length : Int) t267 t268 _ A55.out).mono ?_); rintro e w65 ⟨rfl, hb⟩; refine ⟨_, rfl, ?_⟩; have n0_ := Aside0.mk (Kd.R_below (by (with_reducible repeat (first | apply Kd.R_alloc | apply Kd.R_drewN | apply Kd.R_drew)); exact HO_9.out) hb); have n1_ := Aside0.mk (Kd.R_below (by (with_reducible repeat (first | apply Kd.R_alloc | apply Kd.R_drewN | apply Kd.R_drew)); exact HO_11.out) hb); have n2_ := Aside0.mk (Kd.R_below (by (with_reducible repeat (first | apply Kd.R_alloc | apply Kd.R_drewN | apply Kd.R_drew)); exact HO_35.out) hb); have n3_ := Aside0.mk (Kd.R_below (by (with_reducible repeat (first | apply Kd.R_alloc | apply Kd.R_drewN | apply Kd.R_drew)); exact HO_51.out) hb); have n4_ := Aside0.mk (below_step (by repeat (first | (with_reducible first | exact HB.out | apply below_alloc | apply pw_below_drewN | apply below_drew1) | exact HB.out)) hb); clear HO_9; clear HO_11; clear HO_35; clear HO_51; clear HB; have HO_9 := n0_; have HO_11 := n1_; have HO_35 := n2_; have HO_51 := n3_; have HB := n4_; clear n0_ n1_ n2_ n3_ n4_; (try clear hb); (try clear hb2); (try clear hk); (try clear hi)))
                                go_ret
                                exact ⟨by first | rfl | (simp [errW_none, errW_some] <;> rfl) | (simp [*, errW_none, errW_some] <;> rfl), by repeat (first | (with_reducible first | exact HB.out | apply below_alloc | apply pw_below_drewN | apply below_drew1) | exact HB.out)⟩
                      · rw [if_neg c19] at H
                        have c19b0 : (t264 == 0) = false := beq_eq_false_iff_ne.mpr c19
                        have c19b1 : (t264 != 0) = true := bne_iff_ne.mpr c19
                        by_cases c66 : (rdOf ByteArray.empty y259 x37_2).toList = t257.toList
                        · rw [if_pos c66] at H
                          have c66b0 : ((rdOf ByteArray.empty y259 x37_2).toList == t257.toList) = true := beq_iff_eq.mpr c66
                          have c66b1 : ((rdOf ByteArray.empty y259 x37_2).toList != t257.toList) = false := bne_eq_false_iff_eq.mpr c66
                          clear c66
                          obtain rfl := Option.some.inj H
                          have p262 : 0 ≤ (x37_2 : Int) := of_decide_eq_true (by first | (with_reducible assumption) | assumption)
                          have q262 : x37_2 < (y259.length : Int) := of_decide_eq_true (by first | (with_reducible assumption) | assumption)
                          obtain ⟨ad262, e262, hx262_0⟩ := Kd.at_string (Kd.R_reads' HO_35.out).2.2 x37_2 p262 q262
                          cases e262
                          replace p262 := eq_true p262
                          replace q262 := eq_true q262
                          go_wp2_with (first | ((with_reducible refine gate_callee (f := 12) rfl ?_); refine goesL_ (some 43) rfl rfl Try.func12 (by kernel_rfl) rfl #[.string (rdOf ByteArray.empty y259 x37_2)] rfl (by (try simp only [List.map_toArray, List.map_cons, List.map_nil]); first | done | rfl | (simp only [List.length_drop, List.length_take]; rfl)) ?_; (with_reducible refine (lz_Sequences.calls k2 (rdOf ByteArray.empty y259 x37_2) t263 t264 _ A18.out).mono ?_); rintro e w67 ⟨v265, rfl, ho0, hb⟩; refine ⟨_, rfl, ?_⟩; have n0_ := Aside0.mk (Kd.R_below (by (with_reducible repeat (first | apply Kd.R_alloc | apply Kd.R_drewN | apply Kd.R_drew)); exact HO_35.out) hb); have n1_ := Aside0.mk (Kd.R_lower ho0 (below_size (by repeat (first | (with_reducible first | exact HB.out | apply below_alloc | apply pw_below_drewN | apply below_drew1) | exact HB.out)))); have n2_ := Aside0.mk (below_step (by repeat (first | (with_reducible first | exact HB.out | apply below_alloc | apply pw_below_drewN | apply below_drew1) | exact HB.out)) hb); clear HO_35; clear HB; have HO_35 := n0_; have HO266 := n1_; have HB := n2_; clear n0_ n1_ n2_; (try clear hb); (try clear hb2); (try clear hk); (try clear hi); (try clear ho0)))
                          go_ret
                          exact ⟨by first | rfl | (simp [errW_none, errW_some] <;> rfl) | (simp [*, errW_none, errW_some] <;> rfl), by repeat (first | (with_reducible first | exact HB.out | apply below_alloc | apply pw_below_drewN | apply below_drew1) | exact HB.out)⟩
                        · rw [if_neg c66] at H
                          have c66b0 : ((rdOf ByteArray.empty y259 x37_2).toList == t257.toList) = false := beq_eq_false_iff_ne.mpr c66
                          have c66b1 : ((rdOf ByteArray.empty y259 x37_2).toList != t257.toList) = true := bne_iff_ne.mpr c66
                          have H' := Aside0.mk H
                          clear H
                          have p262 : 0 ≤ (x37_2 : Int) := of_decide_eq_true (by first | (with_reducible assumption) | assumption)
                          have q262 : x37_2 < (y259.length : Int) := of_decide_eq_true (by first | (with_reducible assumption) | assumption)
                          obtain ⟨ad262, e262, hx262_0⟩ := Kd.at_string (Kd.R_reads' HO_35.out).2.2 x37_2 p262 q262
                          cases e262
                          replace p262 := eq_true p262
                          replace q262 := eq_true q262
                          go_wp2_with (first | ((with_reducible refine gate_callee (f := 12) rfl ?_); refine goesL_ (some 43) rfl rfl Try.func12 (by kernel_rfl) rfl #[.string (rdOf ByteArray.empty y259 x37_2)] rfl (by (try simp only [List.map_toArray, List.map_cons, List.map_nil]); first | done | rfl | (simp only [List.length_drop, List.length_take]; rfl)) ?_; (with_reducible refine (lz_Sequences.calls k2 (rdOf ByteArray.empty y259 x37_2) t263 t264 _ A18.out).mono ?_); rintro e w68 ⟨v265, rfl, ho0, hb⟩; refine ⟨_, rfl, ?_⟩; have n0_ := Aside0.mk (Kd.R_below (by (with_reducible repeat (first | apply Kd.R_alloc | apply Kd.R_drewN | apply Kd.R_drew)); exact HO_35.out) hb); have n1_ := Aside0.mk (Kd.R_lower ho0 (below_size (by repeat (first | (with_reducible first | exact HB.out | apply below_alloc | apply pw_below_drewN | apply below_drew1) | exact HB.out)))); have n2_ := Aside0.mk (below_step (by repeat (first | (with_reducible first | exact HB.out | apply below_alloc | apply pw_below_drewN | apply below_drew1) | exact HB.out)) hb); clear HO_35; clear HB; have HO_35 := n0_; have HO266 := n1_; have HB := n2_; clear n0_ n1_ n2_; (try clear hb); (try clear hb2); (try clear hk); (try clear hi); (try clear ho0)))
                          go_roundg k2
                          case measure => have := HJ4.out; have := HK2.out; omega
                          case rel => exact ⟨(wrap64 (x37_2 + 1)), (by first | rfl | (simp; done) | (simp [*]; done)), H', ⟨by have := HJ4.out; have := HK2.out; omega⟩, ⟨by (with_reducible repeat (first | apply Kd.R_alloc | apply Kd.R_drewN | apply Kd.R_drew)); exact HO_35.out⟩, ⟨by repeat (first | (with_reducible first | exact HB.out | apply below_alloc | apply pw_below_drewN | apply below_drew1) | exact HB.out)⟩⟩
                    · rw [if_neg c17] at H
                      exact absurd H (by simp)
                  · rw [if_neg c16] at H
                    exact absurd H (by simp)
                · rw [if_neg c15] at H
                  have c15b0 : decide (x37_2 < (y259.length : Int)) = false := decide_eq_false c15
                  clear c15
                  obtain rfl := Option.some.inj H
                  go_wp2
                  go_ret
                  exact ⟨by first | rfl | (simp [errW_none, errW_some] <;> rfl) | (simp [*, errW_none, errW_some] <;> rfl), by repeat (first | (with_reducible first | exact HB.out | apply below_alloc | apply pw_below_drewN | apply below_drew1) | exact HB.out)⟩
          · rw [if_neg c10] at H
            have c10b0 : (t258 == 0) = false := beq_eq_false_iff_ne.mpr c10
            have c10b1 : (t258 != 0) = true := bne_iff_ne.mpr c10
            obtain rfl := Option.some.inj H
            go_wp2_with (first | ((with_reducible refine gate_callee (f := 15) rfl ?_); refine goesL_ (some 28) rfl rfl Try.func15 (by kernel_rfl) rfl #[.string a0] rfl (by (try simp only [List.map_toArray, List.map_cons, List.map_nil]); first | done | rfl | (simp only [List.length_drop, List.length_take]; rfl)) ?_; (with_reducible refine (lz_Pack.calls a0 t257 t258 _ A9.out).mono ?_); rintro e w69 ⟨rfl, hb⟩; refine ⟨_, rfl, ?_⟩; have n0_ := Aside0.mk (below_step (by repeat (first | (with_reducible first | exact HB.out | apply below_alloc | apply pw_below_drewN | apply below_drew1) | exact HB.out)) hb); clear HB; have HB := n0_; clear n0_; (try clear hb); (try clear hb2); (try clear hk); (try clear hi)))
            go_ret
            exact ⟨by first | rfl | (simp [errW_none, errW_some] <;> rfl) | (simp [*, errW_none, errW_some] <;> rfl), by repeat (first | (with_reducible first | exact HB.out | apply below_alloc | apply pw_below_drewN | apply below_drew1) | exact HB.out)⟩
  · replace c4 := Bool.eq_false_iff.mpr c4
    subst c4
    have H1 : (some false) = some r := by rw [if_neg (show ¬ (false = true) by decide)] at H; exact H
    clear H
    have H := H1
    clear H1
    obtain rfl := Option.some.inj H
    go_enter Try.func7, Try.ntmps7
    go_wp2_with (first | ((with_reducible refine gate_callee (f := 8) rfl ?_); refine goesL_ (some 16) rfl rfl Try.func8 (by kernel_rfl) rfl #[] rfl (by (try simp only [List.map_toArray, List.map_cons, List.map_nil]); first | done | rfl | (simp only [List.length_drop, List.length_take]; rfl)) ?_; (with_reducible refine (garretlaw12_works.calls  false _ A3.out).mono ?_); rintro e w70 ⟨rfl, hb⟩; refine ⟨_, rfl, ?_⟩; have n0_ := Aside0.mk (below_step (by repeat (first | (with_reducible first | exact HB.out | apply below_alloc | apply pw_below_drewN | apply below_drew1) | exact HB.out)) hb); clear HB; have HB := n0_; clear n0_; (try clear hb); (try clear hb2); (try clear hk); (try clear hi)))
    go_ret
    exact ⟨by first | rfl | (simp [errW_none, errW_some] <;> rfl) | (simp [*, errW_none, errW_some] <;> rfl), by repeat (first | (with_reducible first | exact HB.out | apply below_alloc | apply pw_below_drewN | apply below_drew1) | exact HB.out)⟩

/-- THE ONE PURE STATEMENT of garretlaw12_LzSums: yours. -/
def garretlaw12_LzSums.Pure : Prop := ∀ (a0 : ByteArray) (a1 : ByteArray), a0.size ≤ 140737488351232 → a1.size ≤ 140737488351232 → ∃ k, garretlaw12_LzSums.f k a0 a1 = some true
theorem garretlaw12_LzSums.walk (P : garretlaw12_LzSums.Pure) (a0 : ByteArray) (a1 : ByteArray) (w : World) (w0 : a0.size ≤ 140737488351232) (w1 : a1.size ≤ 140737488351232) :
    Calls Try.prog 7 #[.string a0, .string a1] w fun e w' => e = .returned (.bool true) ∧ Below w.heap.size w w' := by
  obtain ⟨k, h⟩ := P a0 a1 w0 w1
  refine (garretlaw12_LzSums.calls k a0 a1 true w h).mono ?_
  rintro e w' ⟨rfl, hd⟩
  exact ⟨rfl, hd⟩

end Go.Proofs.Ytflkjofafgoapaa.Q
