-- Made by wip/qprint.sh (a patched copy of the kit's print program) out of the translation. Lean checks it.
import Derived.Test.YtflkjofafgoapaaQx0
import Derived.Test.YtflkjofafgoapaaQx5
import Derived.Test.YtflkjofafgoapaaQx18
import Derived.Test.YtflkjofafgoapaaHPack
import Derived.Test.YtflkjofafgoapaaHUnpack
namespace Go.Proofs.Ytflkjofafgoapaa.Q
open Go.RowKit Go.Proofs.YtflkjofafgoapaaW.PrintWords Go.Proofs.YtflkjofafgoapaaW.PrintLast Go.Proofs.YtflkjofafgoapaaW.PrintMore
attribute [local go_sem] max2_int min2_int max_two min_two max_three min_three max_four min_four   -- for this text's walks alone
set_option linter.unusedVariables false
set_option linter.unusedSimpArgs false

/-! ### garretlaw12_LzBack: function 4 -/
def garretlaw12_LzBack.j0 : Nat → ByteArray → Int → Int → ByteArray → Bool → Option (Bool)
  | 0, _, _, _, _, _ => none
  | k + 1, x0, x1, x2, x7, x60 => if x60 = true then (some false) else ((garretbook_Among.f x1 (x7.size : Int)).bind fun t215 => (if 0 ≤ t215 then (if t215 ≤ (x7.size : Int) then ((lz_Unpack.f (x7.extract 0 (t215 : Int).toNat) (x0.size : Int)).bind fun bt216 => (if bt216.2 = 0 then (if bt216.1.toList = x0.toList then (if x0.toList = ([] : List UInt8) then ((some (([x2] : List Int) : List Int)).bind fun y218 => (if x7.size + (strOfNums y218).size ≤ 9223372036854775807 then ((lz_Unpack.f (x7 ++ (strOfNums y218)) (x0.size : Int)).bind fun bt221 => (if bt221.2 = 0 then (if bt221.1.toList = x0.toList then (some (x0.toList == ([] : List UInt8))) else (some true)) else (some true))) else (none))) else (some false)) else ((some (([x2] : List Int) : List Int)).bind fun y223 => (if x7.size + (strOfNums y223).size ≤ 9223372036854775807 then ((lz_Unpack.f (x7 ++ (strOfNums y223)) (x0.size : Int)).bind fun bt226 => (if bt226.2 = 0 then (if bt226.1.toList = x0.toList then (some (x0.toList == ([] : List UInt8))) else (some true)) else (some true))) else (none)))) else ((some (([x2] : List Int) : List Int)).bind fun y228 => (if x7.size + (strOfNums y228).size ≤ 9223372036854775807 then ((lz_Unpack.f (x7 ++ (strOfNums y228)) (x0.size : Int)).bind fun bt231 => (if bt231.2 = 0 then (if bt231.1.toList = x0.toList then (some (x0.toList == ([] : List UInt8))) else (some true)) else (some true))) else (none))))) else (none)) else (none)))
def garretlaw12_LzBack.f (k : Nat) (a0 : ByteArray) (a1 : Int) (a2 : Int) : Option (Bool) := (garretlaw12_works.f).bind fun t208 => (if t208 = true then (if (a0.size : Int) > 2000 then (some true) else ((lz_Pack.f a0).bind fun bt209 => ((lz_Unpack.f bt209.1 (a0.size : Int)).bind fun bt211 => ((lz_Unpack.f bt209.1 (wrap64 ((a0.size : Int) + 1))).bind fun bt213 => (if bt209.2 = 0 then (if bt211.2 = 0 then (if bt211.1.toList = a0.toList then (if bt213.2 = 120 then (garretlaw12_LzBack.j0 k a0 a1 a2 bt209.1 (bt209.1.toList == ([] : List UInt8))) else (garretlaw12_LzBack.j0 k a0 a1 a2 bt209.1 true)) else (garretlaw12_LzBack.j0 k a0 a1 a2 bt209.1 true)) else (garretlaw12_LzBack.j0 k a0 a1 a2 bt209.1 true)) else (garretlaw12_LzBack.j0 k a0 a1 a2 bt209.1 true)))))) else (some false))
theorem garretlaw12_LzBack.mono_l : ∀ k, (∀ y0 y1 y2 y3 y4, LeO (garretlaw12_LzBack.j0 k y0 y1 y2 y3 y4) (garretlaw12_LzBack.j0 (k + 1) y0 y1 y2 y3 y4))
  | 0 => fun _ _ _ _ _ r h => by simp [garretlaw12_LzBack.j0] at h
  | k + 1 => by
    have ih0 := garretlaw12_LzBack.mono_l k
    · intro y0 y1 y2 y3 y4
      unfold garretlaw12_LzBack.j0
      repeat' first
      | (with_reducible exact ih0 _ _ _ _ _)
      | (with_reducible exact LeO.refl _)
      | (with_reducible exact LeO.none _)
      | (with_reducible refine LeO.ite ?_ ?_)
      | (with_reducible refine LeO.bind ?_ (fun _ => ?_))
      | exact ih0 _ _ _ _ _
      | exact LeO.none _
      | refine LeO.ite ?_ ?_
      | refine LeO.bind ?_ (fun _ => ?_)
theorem garretlaw12_LzBack.mono : ∀ a0 a1 a2 k, LeO (garretlaw12_LzBack.f k a0 a1 a2) (garretlaw12_LzBack.f (k + 1) a0 a1 a2) := by
  intro a0 a1 a2 k
  have ih0 := garretlaw12_LzBack.mono_l k
  unfold garretlaw12_LzBack.f
  repeat' first
      | (with_reducible exact ih0 _ _ _ _ _)
      | (with_reducible exact LeO.refl _)
      | (with_reducible exact LeO.none _)
      | (with_reducible refine LeO.ite ?_ ?_)
      | (with_reducible refine LeO.bind ?_ (fun _ => ?_))
      | exact ih0 _ _ _ _ _
      | exact LeO.none _
      | refine LeO.ite ?_ ?_
      | refine LeO.bind ?_ (fun _ => ?_)
set_option maxHeartbeats 8000000 in
set_option maxRecDepth 100000 in
theorem garretlaw12_LzBack.calls (k : Nat) (a0 : ByteArray) (a1 : Int) (a2 : Int) (r : Bool) (w : World) (h : garretlaw12_LzBack.f k a0 a1 a2 = some r) :
    Calls Try.prog 4 #[.string a0, .int .i64 a1, .int .u8 a2] w fun e w' => e = .returned (.bool r) ∧ Below w.heap.size w w' := by
  have HB := Aside0.mk (Below.refl w.heap.size w)
  have H : ((garretlaw12_works.f).bind fun t208 => (if t208 = true then (if (a0.size : Int) > 2000 then (some true) else ((lz_Pack.f a0).bind fun bt209 => ((lz_Unpack.f bt209.1 (a0.size : Int)).bind fun bt211 => ((lz_Unpack.f bt209.1 (wrap64 ((a0.size : Int) + 1))).bind fun bt213 => (if bt209.2 = 0 then (if bt211.2 = 0 then (if bt211.1.toList = a0.toList then (if bt213.2 = 120 then (garretlaw12_LzBack.j0 k a0 a1 a2 bt209.1 (bt209.1.toList == ([] : List UInt8))) else (garretlaw12_LzBack.j0 k a0 a1 a2 bt209.1 true)) else (garretlaw12_LzBack.j0 k a0 a1 a2 bt209.1 true)) else (garretlaw12_LzBack.j0 k a0 a1 a2 bt209.1 true)) else (garretlaw12_LzBack.j0 k a0 a1 a2 bt209.1 true)))))) else (some false))) = some r := h
  clear h
  replace H := Option.bind_eq_some_iff.mp H
  obtain ⟨t208, A40, H⟩ := H
  replace H : (if t208 = true then (if (a0.size : Int) > 2000 then (some true) else ((lz_Pack.f a0).bind fun bt209 => ((lz_Unpack.f bt209.1 (a0.size : Int)).bind fun bt211 => ((lz_Unpack.f bt209.1 (wrap64 ((a0.size : Int) + 1))).bind fun bt213 => (if bt209.2 = 0 then (if bt211.2 = 0 then (if bt211.1.toList = a0.toList then (if bt213.2 = 120 then (garretlaw12_LzBack.j0 k a0 a1 a2 bt209.1 (bt209.1.toList == ([] : List UInt8))) else (garretlaw12_LzBack.j0 k a0 a1 a2 bt209.1 true)) else (garretlaw12_LzBack.j0 k a0 a1 a2 bt209.1 true)) else (garretlaw12_LzBack.j0 k a0 a1 a2 bt209.1 true)) else (garretlaw12_LzBack.j0 k a0 a1 a2 bt209.1 true)))))) else (some false)) = some r := H
  have A4 := Aside0.mk A40
  clear A40
  by_cases c5 : t208 = true
  · subst c5
    have H1 : (if (a0.size : Int) > 2000 then (some true) else ((lz_Pack.f a0).bind fun bt209 => ((lz_Unpack.f bt209.1 (a0.size : Int)).bind fun bt211 => ((lz_Unpack.f bt209.1 (wrap64 ((a0.size : Int) + 1))).bind fun bt213 => (if bt209.2 = 0 then (if bt211.2 = 0 then (if bt211.1.toList = a0.toList then (if bt213.2 = 120 then (garretlaw12_LzBack.j0 k a0 a1 a2 bt209.1 (bt209.1.toList == ([] : List UInt8))) else (garretlaw12_LzBack.j0 k a0 a1 a2 bt209.1 true)) else (garretlaw12_LzBack.j0 k a0 a1 a2 bt209.1 true)) else (garretlaw12_LzBack.j0 k a0 a1 a2 bt209.1 true)) else (garretlaw12_LzBack.j0 k a0 a1 a2 bt209.1 true)))))) = some r := by rw [if_pos rfl] at H; exact H
    clear H
    have H := H1
    clear H1
    by_cases c6 : (a0.size : Int) > 2000
    · rw [if_pos c6] at H
      have c6b0 : decide (2000 < (a0.size : Int)) = true := decide_eq_true c6
      have c6b1 : decide (2000 < a0.size) = true := decide_eq_true (by omega)
      clear c6
      obtain rfl := Option.some.inj H
      go_enter Try.func4, Try.ntmps4
      go_wp2_with (first | ((with_reducible refine gate_callee (f := 8) rfl ?_); refine goesL_ (some 17) rfl rfl Try.func8 (by kernel_rfl) rfl #[] rfl (by (try simp only [List.map_toArray, List.map_cons, List.map_nil]); first | done | rfl | (simp only [List.length_drop, List.length_take]; rfl)) ?_; (with_reducible refine (garretlaw12_works.calls  true _ A4.out).mono ?_); rintro e w7 ⟨rfl, hb⟩; refine ⟨_, rfl, ?_⟩; have n0_ := Aside0.mk (below_step (by repeat (first | (with_reducible first | exact HB.out | apply below_alloc | apply pw_below_drewN | apply below_drew1) | exact HB.out)) hb); clear HB; have HB := n0_; clear n0_; (try clear hb); (try clear hb2); (try clear hk); (try clear hi)))
      go_ret
      exact ⟨by first | rfl | (simp [errW_none, errW_some] <;> rfl) | (simp [*, errW_none, errW_some] <;> rfl), by repeat (first | (with_reducible first | exact HB.out | apply below_alloc | apply pw_below_drewN | apply below_drew1) | exact HB.out)⟩
    · rw [if_neg c6] at H
      have c6b0 : decide (2000 < (a0.size : Int)) = false := decide_eq_false c6
      have c6b1 : decide (2000 < a0.size) = false := decide_eq_false (by omega)
      clear c6
      replace H := Option.bind_eq_some_iff.mp H
      obtain ⟨⟨t209, t210⟩, A80, H⟩ := H
      replace H : ((lz_Unpack.f t209 (a0.size : Int)).bind fun bt211 => ((lz_Unpack.f t209 (wrap64 ((a0.size : Int) + 1))).bind fun bt213 => (if t210 = 0 then (if bt211.2 = 0 then (if bt211.1.toList = a0.toList then (if bt213.2 = 120 then (garretlaw12_LzBack.j0 k a0 a1 a2 t209 (t209.toList == ([] : List UInt8))) else (garretlaw12_LzBack.j0 k a0 a1 a2 t209 true)) else (garretlaw12_LzBack.j0 k a0 a1 a2 t209 true)) else (garretlaw12_LzBack.j0 k a0 a1 a2 t209 true)) else (garretlaw12_LzBack.j0 k a0 a1 a2 t209 true)))) = some r := H
      have A8 := Aside0.mk A80
      clear A80
      replace H := Option.bind_eq_some_iff.mp H
      obtain ⟨⟨t211, t212⟩, A90, H⟩ := H
      replace H : ((lz_Unpack.f t209 (wrap64 ((a0.size : Int) + 1))).bind fun bt213 => (if t210 = 0 then (if t212 = 0 then (if t211.toList = a0.toList then (if bt213.2 = 120 then (garretlaw12_LzBack.j0 k a0 a1 a2 t209 (t209.toList == ([] : List UInt8))) else (garretlaw12_LzBack.j0 k a0 a1 a2 t209 true)) else (garretlaw12_LzBack.j0 k a0 a1 a2 t209 true)) else (garretlaw12_LzBack.j0 k a0 a1 a2 t209 true)) else (garretlaw12_LzBack.j0 k a0 a1 a2 t209 true))) = some r := H
      have A9 := Aside0.mk A90
      clear A90
      replace H := Option.bind_eq_some_iff.mp H
      obtain ⟨⟨t213, t214⟩, A100, H⟩ := H
      replace H : (if t210 = 0 then (if t212 = 0 then (if t211.toList = a0.toList then (if t214 = 120 then (garretlaw12_LzBack.j0 k a0 a1 a2 t209 (t209.toList == ([] : List UInt8))) else (garretlaw12_LzBack.j0 k a0 a1 a2 t209 true)) else (garretlaw12_LzBack.j0 k a0 a1 a2 t209 true)) else (garretlaw12_LzBack.j0 k a0 a1 a2 t209 true)) else (garretlaw12_LzBack.j0 k a0 a1 a2 t209 true)) = some r := H
      have A10 := Aside0.mk A100
      clear A100
      have HC11 := Aside0.mk H
      clear H
      go_enter Try.func4, Try.ntmps4
      go_upto_region 8 with (first | ((with_reducible refine gate_callee (f := 8) rfl ?_); refine goesL_ (some 17) rfl rfl Try.func8 (by kernel_rfl) rfl #[] rfl (by (try simp only [List.map_toArray, List.map_cons, List.map_nil]); first | done | rfl | (simp only [List.length_drop, List.length_take]; rfl)) ?_; (with_reducible refine (garretlaw12_works.calls  true _ A4.out).mono ?_); rintro e w12 ⟨rfl, hb⟩; refine ⟨_, rfl, ?_⟩; have n0_ := Aside0.mk (below_step (by repeat (first | (with_reducible first | exact HB.out | apply below_alloc | apply pw_below_drewN | apply below_drew1) | exact HB.out)) hb); clear HB; have HB := n0_; clear n0_; (try clear hb); (try clear hb2); (try clear hk); (try clear hi)) | ((with_reducible refine gate_callee (f := 15) rfl ?_); refine goesL_ (some 24) rfl rfl Try.func15 (by kernel_rfl) rfl #[.string a0] rfl (by (try simp only [List.map_toArray, List.map_cons, List.map_nil]); first | done | rfl | (simp only [List.length_drop, List.length_take]; rfl)) ?_; (with_reducible refine (lz_Pack.calls a0 t209 t210 _ A8.out).mono ?_); rintro e w13 ⟨rfl, hb⟩; refine ⟨_, rfl, ?_⟩; have n0_ := Aside0.mk (below_step (by repeat (first | (with_reducible first | exact HB.out | apply below_alloc | apply pw_below_drewN | apply below_drew1) | exact HB.out)) hb); clear HB; have HB := n0_; clear n0_; (try clear hb); (try clear hb2); (try clear hk); (try clear hi)) | ((with_reducible refine gate_callee (f := 10) rfl ?_); refine goesL_ (some 31) rfl rfl Try.func10 (by kernel_rfl) rfl #[.string t209, .int .i64 (a0.size : Int)] rfl (by (try simp only [List.map_toArray, List.map_cons, List.map_nil]); first | done | rfl | (simp only [List.length_drop, List.length_take]; rfl)) ?_; (with_reducible refine (lz_Unpack.calls t209 (a0.size : Int) t211 t212 _ A9.out).mono ?_); rintro e w14 ⟨rfl, hb⟩; refine ⟨_, rfl, ?_⟩; have n0_ := Aside0.mk (below_step (by repeat (first | (with_reducible first | exact HB.out | apply below_alloc | apply pw_below_drewN | apply below_drew1) | exact HB.out)) hb); clear HB; have HB := n0_; clear n0_; (try clear hb); (try clear hb2); (try clear hk); (try clear hi)) | ((with_reducible refine gate_callee (f := 10) rfl ?_); refine goesL_ (some 39) rfl rfl Try.func10 (by kernel_rfl) rfl #[.string t209, .int .i64 (wrap64 ((a0.size : Int) + 1))] rfl (by (try simp only [List.map_toArray, List.map_cons, List.map_nil]); first | done | rfl | (simp only [List.length_drop, List.length_take]; rfl)) ?_; (with_reducible refine (lz_Unpack.calls t209 (wrap64 ((a0.size : Int) + 1)) t213 t214 _ A10.out).mono ?_); rintro e w15 ⟨rfl, hb⟩; refine ⟨_, rfl, ?_⟩; have n0_ := Aside0.mk (below_step (by repeat (first | (with_reducible first | exact HB.out | apply below_alloc | apply pw_below_drewN | apply below_drew1) | exact HB.out)) hb); clear HB; have HB := n0_; clear n0_; (try clear hb); (try clear hb2); (try clear hk); (try clear hi)))
      (try simp only [Act.put, List.setIfInBounds_toArray, List.set_cons_zero, List.set_cons_succ])
      go_cut [60] (fun v60 wc => ∃ (kq : Nat) (x60_10 : Bool), v60 = .bool x60_10 ∧ Aside0 (garretlaw12_LzBack.j0 kq a0 a1 a2 t209 x60_10 = some r) ∧ Aside0 (kq ≤ k) ∧ Aside0 (Below w.heap.size w wc))
      case first =>
        have H := HC11.out
        clear HC11
        by_cases c16 : t210 = 0
        · rw [if_pos c16] at H
          have c16b0 : (t210 == 0) = true := beq_iff_eq.mpr c16
          have c16b1 : (t210 != 0) = false := bne_eq_false_iff_eq.mpr c16
          clear c16
          (first | rw [c16b0] | (simp only [i64_w, i32_w]; rw [c16b0]) | skip)
          by_cases c17 : t212 = 0
          · rw [if_pos c17] at H
            have c17b0 : (t212 == 0) = true := beq_iff_eq.mpr c17
            have c17b1 : (t212 != 0) = false := bne_eq_false_iff_eq.mpr c17
            clear c17
            by_cases c18 : t211.toList = a0.toList
            · rw [if_pos c18] at H
              have c18b0 : (t211.toList == a0.toList) = true := beq_iff_eq.mpr c18
              have c18b1 : (t211.toList != a0.toList) = false := bne_eq_false_iff_eq.mpr c18
              clear c18
              by_cases c19 : t214 = 120
              · rw [if_pos c19] at H
                have c19b0 : (t214 == 120) = true := beq_iff_eq.mpr c19
                have c19b1 : (t214 != 120) = false := bne_eq_false_iff_eq.mpr c19
                clear c19
                have H' := Aside0.mk H
                clear H
                go_wp2
                go_meet
                case rel => exact ⟨_, ((t209.toList == ([] : List UInt8))), (by first | rfl | (simp; done) | (simp [*]; done)), H', ⟨by first | omega | exact Nat.le_refl _⟩, ⟨by repeat (first | (with_reducible first | exact HB.out | apply below_alloc | apply pw_below_drewN | apply below_drew1) | exact HB.out)⟩⟩
              · rw [if_neg c19] at H
                have c19b0 : (t214 == 120) = false := beq_eq_false_iff_ne.mpr c19
                have c19b1 : (t214 != 120) = true := bne_iff_ne.mpr c19
                have H' := Aside0.mk H
                clear H
                go_wp2
                go_meet
                case rel => exact ⟨_, (true), (by first | rfl | (simp; done) | (simp [*]; done)), H', ⟨by first | omega | exact Nat.le_refl _⟩, ⟨by repeat (first | (with_reducible first | exact HB.out | apply below_alloc | apply pw_below_drewN | apply below_drew1) | exact HB.out)⟩⟩
            · rw [if_neg c18] at H
              have c18b0 : (t211.toList == a0.toList) = false := beq_eq_false_iff_ne.mpr c18
              have c18b1 : (t211.toList != a0.toList) = true := bne_iff_ne.mpr c18
              have H' := Aside0.mk H
              clear H
              go_wp2
              go_meet
              case rel => exact ⟨_, (true), (by first | rfl | (simp; done) | (simp [*]; done)), H', ⟨by first | omega | exact Nat.le_refl _⟩, ⟨by repeat (first | (with_reducible first | exact HB.out | apply below_alloc | apply pw_below_drewN | apply below_drew1) | exact HB.out)⟩⟩
          · rw [if_neg c17] at H
            have c17b0 : (t212 == 0) = false := beq_eq_false_iff_ne.mpr c17
            have c17b1 : (t212 != 0) = true := bne_iff_ne.mpr c17
            have H' := Aside0.mk H
            clear H
            go_wp2
            go_meet
            case rel => exact ⟨_, (true), (by first | rfl | (simp; done) | (simp [*]; done)), H', ⟨by first | omega | exact Nat.le_refl _⟩, ⟨by repeat (first | (with_reducible first | exact HB.out | apply below_alloc | apply pw_below_drewN | apply below_drew1) | exact HB.out)⟩⟩
        · rw [if_neg c16] at H
          have c16b0 : (t210 == 0) = false := beq_eq_false_iff_ne.mpr c16
          have c16b1 : (t210 != 0) = true := bne_iff_ne.mpr c16
          (first | rw [c16b0] | (simp only [i64_w, i32_w]; rw [c16b0]) | skip)
          have H' := Aside0.mk H
          clear H
          go_wp2
          go_meet
          case rel => exact ⟨_, (true), (by first | rfl | (simp; done) | (simp [*]; done)), H', ⟨by first | omega | exact Nat.le_refl _⟩, ⟨by repeat (first | (with_reducible first | exact HB.out | apply below_alloc | apply pw_below_drewN | apply below_drew1) | exact HB.out)⟩⟩
      case rest =>
        clear HC11
        try clear c1
        try clear p2
        try clear c4
        try clear c5
        try clear c6
        try clear c6b0
        try clear c6b1
        try clear p6
        try clear c8
        try clear c10
        try clear c15
        try clear c16
        try clear c16b0
        try clear c16b1
        try clear c17
        try clear c17b0
        try clear c17b1
        try clear c18
        try clear c18b0
        try clear c18b1
        try clear c19
        try clear c19b0
        try clear c19b1
        obtain ⟨kq, x60_10, rfl, HA, HJ10, HB⟩ := hcut
        cases kq with
        | zero => exact absurd HA.out (by simp [garretlaw12_LzBack.j0])
        | succ kj10 =>
          have H := HA.out
          clear HA
          simp only [garretlaw12_LzBack.j0] at H
          by_cases c20 : x60_10 = true
          · subst c20
            have H1 : (some false) = some r := by rw [if_pos rfl] at H; exact H
            clear H
            have H := H1
            clear H1
            obtain rfl := Option.some.inj H
            go_wp2
            go_ret
            exact ⟨by first | rfl | (simp [errW_none, errW_some] <;> rfl) | (simp [*, errW_none, errW_some] <;> rfl), by repeat (first | (with_reducible first | exact HB.out | apply below_alloc | apply pw_below_drewN | apply below_drew1) | exact HB.out)⟩
          · replace c20 := Bool.eq_false_iff.mpr c20
            subst c20
            have H1 : ((garretbook_Among.f a1 (t209.size : Int)).bind fun t215 => (if 0 ≤ t215 then (if t215 ≤ (t209.size : Int) then ((lz_Unpack.f (t209.extract 0 (t215 : Int).toNat) (a0.size : Int)).bind fun bt216 => (if bt216.2 = 0 then (if bt216.1.toList = a0.toList then (if a0.toList = ([] : List UInt8) then ((some (([a2] : List Int) : List Int)).bind fun y218 => (if t209.size + (strOfNums y218).size ≤ 9223372036854775807 then ((lz_Unpack.f (t209 ++ (strOfNums y218)) (a0.size : Int)).bind fun bt221 => (if bt221.2 = 0 then (if bt221.1.toList = a0.toList then (some (a0.toList == ([] : List UInt8))) else (some true)) else (some true))) else (none))) else (some false)) else ((some (([a2] : List Int) : List Int)).bind fun y223 => (if t209.size + (strOfNums y223).size ≤ 9223372036854775807 then ((lz_Unpack.f (t209 ++ (strOfNums y223)) (a0.size : Int)).bind fun bt226 => (if bt226.2 = 0 then (if bt226.1.toList = a0.toList then (some (a0.toList == ([] : List UInt8))) else (some true)) else (some true))) else (none)))) else ((some (([a2] : List Int) : List Int)).bind fun y228 => (if t209.size + (strOfNums y228).size ≤ 9223372036854775807 then ((lz_Unpack.f (t209 ++ (strOfNums y228)) (a0.size : Int)).bind fun bt231 => (if bt231.2 = 0 then (if bt231.1.toList = a0.toList then (some (a0.toList == ([] : List UInt8))) else (some true)) else (some true))) else (none))))) else (none)) else (none))) = some r := by rw [if_neg (show ¬ (false = true) by decide)] at H; exact H
            clear H
            have H := H1
            clear H1
            replace H := Option.bind_eq_some_iff.mp H
            obtain ⟨t215, A210, H⟩ := H
            replace H : (if 0 ≤ t215 then (if t215 ≤ (t209.size : Int) then ((lz_Unpack.f (t209.extract 0 (t215 : Int).toNat) (a0.size : Int)).bind fun bt216 => (if bt216.2 = 0 then (if bt216.1.toList = a0.toList then (if a0.toList = ([] : List UInt8) then ((some (([a2] : List Int) : List Int)).bind fun y218 => (if t209.size + (strOfNums y218).size ≤ 9223372036854775807 then ((lz_Unpack.f (t209 ++ (strOfNums y218)) (a0.size : Int)).bind fun bt221 => (if bt221.2 = 0 then (if bt221.1.toList = a0.toList then (some (a0.toList == ([] : List UInt8))) else (some true)) else (some true))) else (none))) else (some false)) else ((some (([a2] : List Int) : List Int)).bind fun y223 => (if t209.size + (strOfNums y223).size ≤ 9223372036854775807 then ((lz_Unpack.f (t209 ++ (strOfNums y223)) (a0.size : Int)).bind fun bt226 => (if bt226.2 = 0 then (if bt226.1.toList = a0.toList then (some (a0.toList == ([] : List UInt8))) else (some true)) else (some true))) else (none)))) else ((some (([a2] : List Int) : List Int)).bind fun y228 => (if t209.size + (strOfNums y228).size ≤ 9223372036854775807 then ((lz_Unpack.f (t209 ++ (strOfNums y228)) (a0.size : Int)).bind fun bt231 => (if bt231.2 = 0 then (if bt231.1.toList = a0.toList then (some (a0.toList == ([] : List UInt8))) else (some true)) else (some true))) else (none))))) else (none)) else (none)) = some r := H
            have A21 := Aside0.mk A210
            clear A210
            by_cases c22 : 0 ≤ t215
            · rw [if_pos c22] at H
              have c22b0 := eq_true c22
              have c22b1 : decide (0 ≤ t215) = true := decide_eq_true c22
              clear c22
              by_cases c23 : t215 ≤ (t209.size : Int)
              · rw [if_pos c23] at H
                have c23b0 := eq_true c23
                have c23b1 : decide (t215 ≤ (t209.size : Int)) = true := decide_eq_true c23
                clear c23
                replace H := Option.bind_eq_some_iff.mp H
                obtain ⟨⟨t216, t217⟩, A240, H⟩ := H
                replace H : (if t217 = 0 then (if t216.toList = a0.toList then (if a0.toList = ([] : List UInt8) then ((some (([a2] : List Int) : List Int)).bind fun y218 => (if t209.size + (strOfNums y218).size ≤ 9223372036854775807 then ((lz_Unpack.f (t209 ++ (strOfNums y218)) (a0.size : Int)).bind fun bt221 => (if bt221.2 = 0 then (if bt221.1.toList = a0.toList then (some (a0.toList == ([] : List UInt8))) else (some true)) else (some true))) else (none))) else (some false)) else ((some (([a2] : List Int) : List Int)).bind fun y223 => (if t209.size + (strOfNums y223).size ≤ 9223372036854775807 then ((lz_Unpack.f (t209 ++ (strOfNums y223)) (a0.size : Int)).bind fun bt226 => (if bt226.2 = 0 then (if bt226.1.toList = a0.toList then (some (a0.toList == ([] : List UInt8))) else (some true)) else (some true))) else (none)))) else ((some (([a2] : List Int) : List Int)).bind fun y228 => (if t209.size + (strOfNums y228).size ≤ 9223372036854775807 then ((lz_Unpack.f (t209 ++ (strOfNums y228)) (a0.size : Int)).bind fun bt231 => (if bt231.2 = 0 then (if bt231.1.toList = a0.toList then (some (a0.toList == ([] : List UInt8))) else (some true)) else (some true))) else (none)))) = some r := H
                have A24 := Aside0.mk A240
                clear A240
                by_cases c25 : t217 = 0
                · rw [if_pos c25] at H
                  have c25b0 : (t217 == 0) = true := beq_iff_eq.mpr c25
                  have c25b1 : (t217 != 0) = false := bne_eq_false_iff_eq.mpr c25
                  clear c25
                  by_cases c26 : t216.toList = a0.toList
                  · rw [if_pos c26] at H
                    have c26b0 : (t216.toList == a0.toList) = true := beq_iff_eq.mpr c26
                    have c26b1 : (t216.toList != a0.toList) = false := bne_eq_false_iff_eq.mpr c26
                    clear c26
                    by_cases c27 : a0.toList = ([] : List UInt8)
                    · rw [if_pos c27] at H
                      have c27b0 : (a0.toList == ([] : List UInt8)) = true := beq_iff_eq.mpr c27
                      have c27b1 : (a0.toList != ([] : List UInt8)) = false := bne_eq_false_iff_eq.mpr c27
                      clear c27
                      obtain ⟨y218, hy218⟩ : ∃ y_ : List Int, y_ = (([a2] : List Int)) := ⟨_, rfl⟩
                      replace H : (if t209.size + (strOfNums y218).size ≤ 9223372036854775807 then ((lz_Unpack.f (t209 ++ (strOfNums y218)) (a0.size : Int)).bind fun bt221 => (if bt221.2 = 0 then (if bt221.1.toList = a0.toList then (some (a0.toList == ([] : List UInt8))) else (some true)) else (some true))) else (none)) = some r := by first | (rw [hy218]; with_reducible exact H) | (have H2_ := (Option.bind_some _ _).symm.trans H; rw [hy218]; with_reducible exact H2_) | (have H2_ := (Option.bind_some _ _).symm.trans H; with_reducible exact H2_) | with_reducible exact H | (rw [hy218]; exact H) | exact H
                      have Ny218 := Aside0.mk hy218
                      clear hy218
                      by_cases c28 : t209.size + (strOfNums y218).size ≤ 9223372036854775807
                      · rw [if_pos c28] at H
                        have c28b0 := eq_true c28
                        have c28b1 : decide (t209.size + (strOfNums y218).size ≤ 9223372036854775807) = true := decide_eq_true c28
                        try have c28b2 : (9223372036854775807 < t209.size + (strOfNums y218).size) = False := eq_false (Nat.not_lt.2 c28)
                        replace H := Option.bind_eq_some_iff.mp H
                        obtain ⟨⟨t221, t222⟩, A290, H⟩ := H
                        replace H : (if t222 = 0 then (if t221.toList = a0.toList then (some (a0.toList == ([] : List UInt8))) else (some true)) else (some true)) = some r := H
                        have A29 := Aside0.mk A290
                        clear A290
                        by_cases c30 : t222 = 0
                        · rw [if_pos c30] at H
                          have c30b0 : (t222 == 0) = true := beq_iff_eq.mpr c30
                          have c30b1 : (t222 != 0) = false := bne_eq_false_iff_eq.mpr c30
                          clear c30
                          by_cases c31 : t221.toList = a0.toList
                          · rw [if_pos c31] at H
                            have c31b0 : (t221.toList == a0.toList) = true := beq_iff_eq.mpr c31
                            have c31b1 : (t221.toList != a0.toList) = false := bne_eq_false_iff_eq.mpr c31
                            clear c31
                            obtain rfl := Option.some.inj H
                            go_wp2_with (first | ((with_reducible refine gate_callee (f := 16) rfl ?_); refine goesL_ (some 66) rfl rfl Try.func16 (by kernel_rfl) rfl #[.int .i64 a1, .int .i64 (t209.size : Int)] rfl (by (try simp only [List.map_toArray, List.map_cons, List.map_nil]); first | done | rfl | (simp only [List.length_drop, List.length_take]; rfl)) ?_; (with_reducible refine (garretbook_Among.calls a1 (t209.size : Int) t215 _ A21.out).mono ?_); rintro e w' ⟨rfl, ⟨nd, rfl⟩⟩; refine ⟨_, rfl, ?_⟩) | ((with_reducible refine gate_callee (f := 10) rfl ?_); refine goesL_ (some 70) rfl rfl Try.func10 (by kernel_rfl) rfl #[.string (t209.extract 0 (t215 : Int).toNat), .int .i64 (a0.size : Int)] rfl (by (try simp only [List.map_toArray, List.map_cons, List.map_nil]); first | done | rfl | (simp only [List.length_drop, List.length_take]; rfl)) ?_; (with_reducible refine (lz_Unpack.calls (t209.extract 0 (t215 : Int).toNat) (a0.size : Int) t216 t217 _ A24.out).mono ?_); rintro e w32 ⟨rfl, hb⟩; refine ⟨_, rfl, ?_⟩; have n0_ := Aside0.mk (below_step (by repeat (first | (with_reducible first | exact HB.out | apply below_alloc | apply pw_below_drewN | apply below_drew1) | exact HB.out)) hb); clear HB; have HB := n0_; clear n0_; (try clear hb); (try clear hb2); (try clear hk); (try clear hi)) | ((with_reducible refine gate_dst (N := 87) rfl ?_); refine Kd.R_lit (Kd.int .u8) _ 5 ?hg (N := 87) ?hd (xs := ([a2] : List Int)) (inner := [.int .u8 a2]) (ok := fun _ => True) (okp := fun _ => True) ?hr ?hp (fun _ hk => hk) trivial (Below.refl _ _) (Nat.le_refl _) (by simp) ?_; (case hd => rfl); (case hg => rfl); (case hr => first | (go_simp; done) | (go_simp; rfl)); (case hp => exact (Reps.one (show Kd.M (Kd.int .u8) _ _ _ a2 [.int .u8 a2] from rfl) (Reps.none _ _))); intro v219 w33 ho34 hb hg_ hnew_; clear hg_ hnew_; (first | rw [← Ny218.out] at ho34 | (simp only [Int.reduceToNat] at ho34; rw [← Ny218.out] at ho34)); have n0_ := Aside0.mk (Kd.R_lower ho34 (below_size (by repeat (first | (with_reducible first | exact HB.out | apply below_alloc | apply pw_below_drewN | apply below_drew1) | exact HB.out)))); have n1_ := Aside0.mk (below_step (by repeat (first | (with_reducible first | exact HB.out | apply below_alloc | apply pw_below_drewN | apply below_drew1) | exact HB.out)) hb); clear HB; have HO220 := n0_; have HB := n1_; clear n0_ n1_; clear hb ho34; have hcv35 := own_string (P := Try.prog) Try.underlying41 Try.underlying5 Try.underlying9 (Kd.own_of_R HO220.out)) | ((with_reducible refine gate_callee (f := 10) rfl ?_); refine goesL_ (some 92) rfl rfl Try.func10 (by kernel_rfl) rfl #[.string (t209 ++ (strOfNums y218)), .int .i64 (a0.size : Int)] rfl (by (try simp only [List.map_toArray, List.map_cons, List.map_nil]); first | done | rfl | (simp only [List.length_drop, List.length_take]; rfl)) ?_; (with_reducible refine (lz_Unpack.calls (t209 ++ (strOfNums y218)) (a0.size : Int) t221 t222 _ A29.out).mono ?_); rintro e w36 ⟨rfl, hb⟩; refine ⟨_, rfl, ?_⟩; have n0_ := Aside0.mk (Kd.R_below (by (with_reducible repeat (first | apply Kd.R_alloc | apply Kd.R_drewN | apply Kd.R_drew)); exact HO220.out) hb); have n1_ := Aside0.mk (below_step (by repeat (first | (with_reducible first | exact HB.out | apply below_alloc | apply pw_below_drewN | apply below_drew1) | exact HB.out)) hb); clear HO220; clear HB; have HO220 := n0_; have HB := n1_; clear n0_ n1_; (try clear hb); (try clear hb2); (try clear hk); (try clear hi)))
                            go_ret
                            exact ⟨by first | rfl | (simp [errW_none, errW_some] <;> rfl) | (simp [*, errW_none, errW_some] <;> rfl), by repeat (first | (with_reducible first | exact HB.out | apply below_alloc | apply pw_below_drewN | apply below_drew1) | exact HB.out)⟩
                          · rw [if_neg c31] at H
                            have c31b0 : (t221.toList == a0.toList) = false := beq_eq_false_iff_ne.mpr c31
                            have c31b1 : (t221.toList != a0.toList) = true := bne_iff_ne.mpr c31
                            obtain rfl := Option.some.inj H
                            go_wp2_with (first | ((with_reducible refine gate_callee (f := 16) rfl ?_); refine goesL_ (some 66) rfl rfl Try.func16 (by kernel_rfl) rfl #[.int .i64 a1, .int .i64 (t209.size : Int)] rfl (by (try simp only [List.map_toArray, List.map_cons, List.map_nil]); first | done | rfl | (simp only [List.length_drop, List.length_take]; rfl)) ?_; (with_reducible refine (garretbook_Among.calls a1 (t209.size : Int) t215 _ A21.out).mono ?_); rintro e w' ⟨rfl, ⟨nd, rfl⟩⟩; refine ⟨_, rfl, ?_⟩) | ((with_reducible refine gate_callee (f := 10) rfl ?_); refine goesL_ (some 70) rfl rfl Try.func10 (by kernel_rfl) rfl #[.string (t209.extract 0 (t215 : Int).toNat), .int .i64 (a0.size : Int)] rfl (by (try simp only [List.map_toArray, List.map_cons, List.map_nil]); first | done | rfl | (simp only [List.length_drop, List.length_take]; rfl)) ?_; (with_reducible refine (lz_Unpack.calls (t209.extract 0 (t215 : Int).toNat) (a0.size : Int) t216 t217 _ A24.out).mono ?_); rintro e w37 ⟨rfl, hb⟩; refine ⟨_, rfl, ?_⟩; have n0_ := Aside0.mk (below_step (by repeat (first | (with_reducible first | exact HB.out | apply below_alloc | apply pw_below_drewN | apply below_drew1) | exact HB.out)) hb); clear HB; have HB := n0_; clear n0_; (try clear hb); (try clear hb2); (try clear hk); (try clear hi)) | ((with_reducible refine gate_dst (N := 87) rfl ?_); refine Kd.R_lit (Kd.int .u8) _ 5 ?hg (N := 87) ?hd (xs := ([a2] : List Int)) (inner := [.int .u8 a2]) (ok := fun _ => True) (okp := fun _ => True) ?hr ?hp (fun _ hk => hk) trivial (Below.refl _ _) (Nat.le_refl _) (by simp) ?_; (case hd => rfl); (case hg => rfl); (case hr => first | (go_simp; done) | (go_simp; rfl)); (case hp => exact (Reps.one (show Kd.M (Kd.int .u8) _ _ _ a2 [.int .u8 a2] from rfl) (Reps.none _ _))); intro v219 w38 ho39 hb hg_ hnew_; clear hg_ hnew_; (first | rw [← Ny218.out] at ho39 | (simp only [Int.reduceToNat] at ho39; rw [← Ny218.out] at ho39)); have n0_ := Aside0.mk (Kd.R_lower ho39 (below_size (by repeat (first | (with_reducible first | exact HB.out | apply below_alloc | apply pw_below_drewN | apply below_drew1) | exact HB.out)))); have n1_ := Aside0.mk (below_step (by repeat (first | (with_reducible first | exact HB.out | apply below_alloc | apply pw_below_drewN | apply below_drew1) | exact HB.out)) hb); clear HB; have HO220 := n0_; have HB := n1_; clear n0_ n1_; clear hb ho39; have hcv40 := own_string (P := Try.prog) Try.underlying41 Try.underlying5 Try.underlying9 (Kd.own_of_R HO220.out)) | ((with_reducible refine gate_callee (f := 10) rfl ?_); refine goesL_ (some 92) rfl rfl Try.func10 (by kernel_rfl) rfl #[.string (t209 ++ (strOfNums y218)), .int .i64 (a0.size : Int)] rfl (by (try simp only [List.map_toArray, List.map_cons, List.map_nil]); first | done | rfl | (simp only [List.length_drop, List.length_take]; rfl)) ?_; (with_reducible refine (lz_Unpack.calls (t209 ++ (strOfNums y218)) (a0.size : Int) t221 t222 _ A29.out).mono ?_); rintro e w41 ⟨rfl, hb⟩; refine ⟨_, rfl, ?_⟩; have n0_ := Aside0.mk (Kd.R_below (by (with_reducible repeat (first | apply Kd.R_alloc | apply Kd.R_drewN | apply Kd.R_drew)); exact HO220.out) hb); have n1_ := Aside0.mk (below_step (by repeat (first | (with_reducible first | exact HB.out | apply below_alloc | apply pw_below_drewN | apply below_drew1) | exact HB.out)) hb); clear HO220; clear HB; have HO220 := n0_; have HB := n1_; clear n0_ n1_; (try clear hb); (try clear hb2); (try clear hk); (try clear hi)))
                            go_ret
                            exact ⟨by first | rfl | (simp [errW_none, errW_some] <;> rfl) | (simp [*, errW_none, errW_some] <;> rfl), by repeat (first | (with_reducible first | exact HB.out | apply below_alloc | apply pw_below_drewN | apply below_drew1) | exact HB.out)⟩
                        · rw [if_neg c30] at H
                          have c30b0 : (t222 == 0) = false := beq_eq_false_iff_ne.mpr c30
                          have c30b1 : (t222 != 0) = true := bne_iff_ne.mpr c30
                          obtain rfl := Option.some.inj H
                          go_wp2_with (first | ((with_reducible refine gate_callee (f := 16) rfl ?_); refine goesL_ (some 66) rfl rfl Try.func16 (by kernel_rfl) rfl #[.int .i64 a1, .int .i64 (t209.size : Int)] rfl (by (try simp only [List.map_toArray, List.map_cons, List.map_nil]); first | done | rfl | (simp only [List.length_drop, List.length_take]; rfl)) ?_; (with_reducible refine (garretbook_Among.calls a1 (t209.size : Int) t215 _ A21.out).mono ?_); rintro e w' ⟨rfl, ⟨nd, rfl⟩⟩; refine ⟨_, rfl, ?_⟩) | ((with_reducible refine gate_callee (f := 10) rfl ?_); refine goesL_ (some 70) rfl rfl Try.func10 (by kernel_rfl) rfl #[.string (t209.extract 0 (t215 : Int).toNat), .int .i64 (a0.size : Int)] rfl (by (try simp only [List.map_toArray, List.map_cons, List.map_nil]); first | done | rfl | (simp only [List.length_drop, List.length_take]; rfl)) ?_; (with_reducible refine (lz_Unpack.calls (t209.extract 0 (t215 : Int).toNat) (a0.size : Int) t216 t217 _ A24.out).mono ?_); rintro e w42 ⟨rfl, hb⟩; refine ⟨_, rfl, ?_⟩; have n0_ := Aside0.mk (below_step (by repeat (first | (with_reducible first | exact HB.out | apply below_alloc | apply pw_below_drewN | apply below_drew1) | exact HB.out)) hb); clear HB; have HB := n0_; clear n0_; (try clear hb); (try clear hb2); (try clear hk); (try clear hi)) | ((with_reducible refine gate_dst (N := 87) rfl ?_); refine Kd.R_lit (Kd.int .u8) _ 5 ?hg (N := 87) ?hd (xs := ([a2] : List Int)) (inner := [.int .u8 a2]) (ok := fun _ => True) (okp := fun _ => True) ?hr ?hp (fun _ hk => hk) trivial (Below.refl _ _) (Nat.le_refl _) (by simp) ?_; (case hd => rfl); (case hg => rfl); (case hr => first | (go_simp; done) | (go_simp; rfl)); (case hp => exact (Reps.one (show Kd.M (Kd.int .u8) _ _ _ a2 [.int .u8 a2] from rfl) (Reps.none _ _))); intro v219 w43 ho44 hb hg_ hnew_; clear hg_ hnew_; (first | rw [← Ny218.out] at ho44 | (simp only [Int.reduceToNat] at ho44; rw [← Ny218.out] at ho44)); have n0_ := Aside0.mk (Kd.R_lower ho44 (below_size (by repeat (first | (with_reducible first | exact HB.out | apply below_alloc | apply pw_below_drewN | apply below_drew1) | exact HB.out)))); have n1_ := Aside0.mk (below_step (by repeat (first | (with_reducible first | exact HB.out | apply below_alloc | apply pw_below_drewN | apply below_drew1) | exact HB.out)) hb); clear HB; have HO220 := n0_; have HB := n1_; clear n0_ n1_; clear hb ho44; have hcv45 := own_string (P := Try.prog) Try.underlying41 Try.underlying5 Try.underlying9 (Kd.own_of_R HO220.out)) | ((with_reducible refine gate_callee (f := 10) rfl ?_); refine goesL_ (some 92) rfl rfl Try.func10 (by kernel_rfl) rfl #[.string (t209 ++ (strOfNums y218)), .int .i64 (a0.size : Int)] rfl (by (try simp only [List.map_toArray, List.map_cons, List.map_nil]); first | done | rfl | (simp only [List.length_drop, List.length_take]; rfl)) ?_; (with_reducible refine (lz_Unpack.calls (t209 ++ (strOfNums y218)) (a0.size : Int) t221 t222 _ A29.out).mono ?_); rintro e w46 ⟨rfl, hb⟩; refine ⟨_, rfl, ?_⟩; have n0_ := Aside0.mk (Kd.R_below (by (with_reducible repeat (first | apply Kd.R_alloc | apply Kd.R_drewN | apply Kd.R_drew)); exact HO220.out) hb); have n1_ := Aside0.mk (below_step (by repeat (first | (with_reducible first | exact HB.out | apply below_alloc | apply pw_below_drewN | apply below_drew1) | exact HB.out)) hb); clear HO220; clear HB; have HO220 := n0_; have HB := n1_; clear n0_ n1_; (try clear hb); (try clear hb2); (try clear hk); (try clear hi)))
                          go_ret
                          exact ⟨by first | rfl | (simp [errW_none, errW_some] <;> rfl) | (simp [*, errW_none, errW_some] <;> rfl), by repeat (first | (with_reducible first | exact HB.out | apply below_alloc | apply pw_below_drewN | apply below_drew1) | exact HB.out)⟩
                      · rw [if_neg c28] at H
                        exact absurd H (by simp)
                    · rw [if_neg c27] at H
                      have c27b0 : (a0.toList == ([] : List UInt8)) = false := beq_eq_false_iff_ne.mpr c27
                      have c27b1 : (a0.toList != ([] : List UInt8)) = true := bne_iff_ne.mpr c27
                      obtain rfl := Option.some.inj H
                      go_wp2_with (first | ((with_reducible refine gate_callee (f := 16) rfl ?_); refine goesL_ (some 66) rfl rfl Try.func16 (by kernel_rfl) rfl #[.int .i64 a1, .int .i64 (t209.size : Int)] rfl (by (try simp only [List.map_toArray, List.map_cons, List.map_nil]); first | done | rfl | (simp only [List.length_drop, List.length_take]; rfl)) ?_; (with_reducible refine (garretbook_Among.calls a1 (t209.size : Int) t215 _ A21.out).mono ?_); rintro e w' ⟨rfl, ⟨nd, rfl⟩⟩; refine ⟨_, rfl, ?_⟩) | ((with_reducible refine gate_callee (f := 10) rfl ?_); refine goesL_ (some 70) rfl rfl Try.func10 (by kernel_rfl) rfl #[.string (t209.extract 0 (t215 : Int).toNat), .int .i64 (a0.size : Int)] rfl (by (try simp only [List.map_toArray, List.map_cons, List.map_nil]); first | done | rfl | (simp only [List.length_drop, List.length_take]; rfl)) ?_; (with_reducible refine (lz_Unpack.calls (t209.extract 0 (t215 : Int).toNat) (a0.size : Int) t216 t217 _ A24.out).mono ?_); rintro e w47 ⟨rfl, hb⟩; refine ⟨_, rfl, ?_⟩; have n0_ := Aside0.mk (below_step (by repeat (first | (with_reducible first | exact HB.out | apply below_alloc | apply pw_below_drewN | apply below_drew1) | exact HB.out)) hb); clear HB; have HB := n0_; clear n0_; (try clear hb); (try clear hb2); (try clear hk); (try clear hi)))
                      go_ret
                      exact ⟨by first | rfl | (simp [errW_none, errW_some] <;> rfl) | (simp [*, errW_none, errW_some] <;> rfl), by repeat (first | (with_reducible first | exact HB.out | apply below_alloc | apply pw_below_drewN | apply below_drew1) | exact HB.out)⟩
                  · rw [if_neg c26] at H
                    have c26b0 : (t216.toList == a0.toList) = false := beq_eq_false_iff_ne.mpr c26
                    have c26b1 : (t216.toList != a0.toList) = true := bne_iff_ne.mpr c26
                    obtain ⟨y223, hy223⟩ : ∃ y_ : List Int, y_ = (([a2] : List Int)) := ⟨_, rfl⟩
                    replace H : (if t209.size + (strOfNums y223).size ≤ 9223372036854775807 then ((lz_Unpack.f (t209 ++ (strOfNums y223)) (a0.size : Int)).bind fun bt226 => (if bt226.2 = 0 then (if bt226.1.toList = a0.toList then (some (a0.toList == ([] : List UInt8))) else (some true)) else (some true))) else (none)) = some r := by first | (rw [hy223]; with_reducible exact H) | (have H2_ := (Option.bind_some _ _).symm.trans H; rw [hy223]; with_reducible exact H2_) | (have H2_ := (Option.bind_some _ _).symm.trans H; with_reducible exact H2_) | with_reducible exact H | (rw [hy223]; exact H) | exact H
                    have Ny223 := Aside0.mk hy223
                    clear hy223
                    by_cases c48 : t209.size + (strOfNums y223).size ≤ 9223372036854775807
                    · rw [if_pos c48] at H
                      have c48b0 := eq_true c48
                      have c48b1 : decide (t209.size + (strOfNums y223).size ≤ 9223372036854775807) = true := decide_eq_true c48
                      try have c48b2 : (9223372036854775807 < t209.size + (strOfNums y223).size) = False := eq_false (Nat.not_lt.2 c48)
                      replace H := Option.bind_eq_some_iff.mp H
                      obtain ⟨⟨t226, t227⟩, A490, H⟩ := H
                      replace H : (if t227 = 0 then (if t226.toList = a0.toList then (some (a0.toList == ([] : List UInt8))) else (some true)) else (some true)) = some r := H
                      have A49 := Aside0.mk A490
                      clear A490
                      by_cases c50 : t227 = 0
                      · rw [if_pos c50] at H
                        have c50b0 : (t227 == 0) = true := beq_iff_eq.mpr c50
                        have c50b1 : (t227 != 0) = false := bne_eq_false_iff_eq.mpr c50
                        clear c50
                        by_cases c51 : t226.toList = a0.toList
                        · rw [if_pos c51] at H
                          have c51b0 : (t226.toList == a0.toList) = true := beq_iff_eq.mpr c51
                          have c51b1 : (t226.toList != a0.toList) = false := bne_eq_false_iff_eq.mpr c51
                          clear c51
                          obtain rfl := Option.some.inj H
                          go_wp2_with (first | ((with_reducible refine gate_callee (f := 16) rfl ?_); refine goesL_ (some 66) rfl rfl Try.func16 (by kernel_rfl) rfl #[.int .i64 a1, .int .i64 (t209.size : Int)] rfl (by (try simp only [List.map_toArray, List.map_cons, List.map_nil]); first | done | rfl | (simp only [List.length_drop, List.length_take]; rfl)) ?_; (with_reducible refine (garretbook_Among.calls a1 (t209.size : Int) t215 _ A21.out).mono ?_); rintro e w' ⟨rfl, ⟨nd, rfl⟩⟩; refine ⟨_, rfl, ?_⟩) | ((with_reducible refine gate_callee (f := 10) rfl ?_); refine goesL_ (some 70) rfl rfl Try.func10 (by kernel_rfl) rfl #[.string (t209.extract 0 (t215 : Int).toNat), .int .i64 (a0.size : Int)] rfl (by (try simp only [List.map_toArray, List.map_cons, List.map_nil]); first | done | rfl | (simp only [List.length_drop, List.length_take]; rfl)) ?_; (with_reducible refine (lz_Unpack.calls (t209.extract 0 (t215 : Int).toNat) (a0.size : Int) t216 t217 _ A24.out).mono ?_); rintro e w52 ⟨rfl, hb⟩; refine ⟨_, rfl, ?_⟩; have n0_ := Aside0.mk (below_step (by repeat (first | (with_reducible first | exact HB.out | apply below_alloc | apply pw_below_drewN | apply below_drew1) | exact HB.out)) hb); clear HB; have HB := n0_; clear n0_; (try clear hb); (try clear hb2); (try clear hk); (try clear hi)) | ((with_reducible refine gate_dst (N := 87) rfl ?_); refine Kd.R_lit (Kd.int .u8) _ 5 ?hg (N := 87) ?hd (xs := ([a2] : List Int)) (inner := [.int .u8 a2]) (ok := fun _ => True) (okp := fun _ => True) ?hr ?hp (fun _ hk => hk) trivial (Below.refl _ _) (Nat.le_refl _) (by simp) ?_; (case hd => rfl); (case hg => rfl); (case hr => first | (go_simp; done) | (go_simp; rfl)); (case hp => exact (Reps.one (show Kd.M (Kd.int .u8) _ _ _ a2 [.int .u8 a2] from rfl) (Reps.none _ _))); intro v224 w53 ho54 hb hg_ hnew_; clear hg_ hnew_; (first | rw [← Ny223.out] at ho54 | (simp only [Int.reduceToNat] at ho54; rw [← Ny223.out] at ho54)); have n0_ := Aside0.mk (Kd.R_lower ho54 (below_size (by repeat (first | (with_reducible first | exact HB.out | apply below_alloc | apply pw_below_drewN | apply below_drew1) | exact HB.out)))); have n1_ := Aside0.mk (below_step (by repeat (first | (with_reducible first | exact HB.out | apply below_alloc | apply pw_below_drewN | apply below_drew1) | exact HB.out)) hb); clear HB; have HO225 := n0_; have HB := n1_; clear n0_ n1_; clear hb ho54; have hcv55 := own_string (P := Try.prog) Try.underlying41 Try.underlying5 Try.underlying9 (Kd.own_of_R HO225.out)) | ((with_reducible refine gate_callee (f := 10) rfl ?_); refine goesL_ (some 92) rfl rfl Try.func10 (by kernel_rfl) rfl #[.string (t209 ++ (strOfNums y223)), .int .i64 (a0.size : Int)] rfl (by (try simp only [List.map_toArray, List.map_cons, List.map_nil]); first | done | rfl | (simp only [List.length_drop, List.length_take]; rfl)) ?_; (with_reducible refine (lz_Unpack.calls (t209 ++ (strOfNums y223)) (a0.size : Int) t226 t227 _ A49.out).mono ?_); rintro e w56 ⟨rfl, hb⟩; refine ⟨_, rfl, ?_⟩; have n0_ := Aside0.mk (Kd.R_below (by (with_reducible repeat (first | apply Kd.R_alloc | apply Kd.R_drewN | apply Kd.R_drew)); exact HO225.out) hb); have n1_ := Aside0.mk (below_step (by repeat (first | (with_reducible first | exact HB.out | apply below_alloc | apply pw_below_drewN | apply below_drew1) | exact HB.out)) hb); clear HO225; clear HB; have HO225 := n0_; have HB := n1_; clear n0_ n1_; (try clear hb); (try clear hb2); (try clear hk); (try clear hi)))
                          go_ret
                          exact ⟨by first | rfl | (simp [errW_none, errW_some] <;> rfl) | (simp [*, errW_none, errW_some] <;> rfl), by repeat (first | (with_reducible first | exact HB.out | apply below_alloc | apply pw_below_drewN | apply below_drew1) | exact HB.out)⟩
                        · rw [if_neg c51] at H
                          have c51b0 : (t226.toList == a0.toList) = false := beq_eq_false_iff_ne.mpr c51
                          have c51b1 : (t226.toList != a0.toList) = true := bne_iff_ne.mpr c51
                          obtain rfl := Option.some.inj H
                          go_wp2_with (first | ((with_reducible refine gate_callee (f := 16) rfl ?_); refine goesL_ (some 66) rfl rfl Try.func16 (by kernel_rfl) rfl #[.int .i64 a1, .int .i64 (t209.size : Int)] rfl (by (try simp only [List.map_toArray, List.map_cons, List.map_nil]); first | done | rfl | (simp only [List.length_drop, List.length_take]; rfl)) ?_; (with_reducible refine (garretbook_Among.calls a1 (t209.size : Int) t215 _ A21.out).mono ?_); rintro e w' ⟨rfl, ⟨nd, rfl⟩⟩; refine ⟨_, rfl, ?_⟩) | ((with_reducible refine gate_callee (f := 10) rfl ?_); refine goesL_ (some 70) rfl rfl Try.func10 (by kernel_rfl) rfl #[.string (t209.extract 0 (t215 : Int).toNat), .int .i64 (a0.size : Int)] rfl (by (try simp only [List.map_toArray, List.map_cons, List.map_nil]); first | done | rfl | (simp only [List.length_drop, List.length_take]; rfl)) ?_; (with_reducible refine (lz_Unpack.calls (t209.extract 0 (t215 : Int).toNat) (a0.size : Int) t216 t217 _ A24.out).mono ?_); rintro e w57 ⟨rfl, hb⟩; refine ⟨_, rfl, ?_⟩; have n0_ := Aside0.mk (below_step (by repeat (first | (with_reducible first | exact HB.out | apply below_alloc | apply pw_below_drewN | apply below_drew1) | exact HB.out)) hb); clear HB; have HB := n0_; clear n0_; (try clear hb); (try clear hb2); (try clear hk); (try clear hi)) | ((with_reducible refine gate_dst (N := 87) rfl ?_); refine Kd.R_lit (Kd.int .u8) _ 5 ?hg (N := 87) ?hd (xs := ([a2] : List Int)) (inner := [.int .u8 a2]) (ok := fun _ => True) (okp := fun _ => True) ?hr ?hp (fun _ hk => hk) trivial (Below.refl _ _) (Nat.le_refl _) (by simp) ?_; (case hd => rfl); (case hg => rfl); (case hr => first | (go_simp; done) | (go_simp; rfl)); (case hp => exact (Reps.one (show Kd.M (Kd.int .u8) _ _ _ a2 [.int .u8 a2] from rfl) (Reps.none _ _))); intro v224 w58 ho59 hb hg_ hnew_; clear hg_ hnew_; (first | rw [← Ny223.out] at ho59 | (simp only [Int.reduceToNat] at ho59; rw [← Ny223.out] at ho59)); have n0_ := Aside0.mk (Kd.R_lower ho59 (below_size (by repeat (first | (with_reducible first | exact HB.out | apply below_alloc | apply pw_below_drewN | apply below_drew1) | exact HB.out)))); have n1_ := Aside0.mk (below_step (by repeat (first | (with_reducible first | exact HB.out | apply below_alloc | apply pw_below_drewN | apply below_drew1) | exact HB.out)) hb); clear HB; have HO225 := n0_; have HB := n1_; clear n0_ n1_; clear hb ho59; have hcv60 := own_string (P := Try.prog) Try.underlying41 Try.underlying5 Try.underlying9 (Kd.own_of_R HO225.out)) | ((with_reducible refine gate_callee (f := 10) rfl ?_); refine goesL_ (some 92) rfl rfl Try.func10 (by kernel_rfl) rfl #[.string (t209 ++ (strOfNums y223)), .int .i64 (a0.size : Int)] rfl (by (try simp only [List.map_toArray, List.map_cons, List.map_nil]); first | done | rfl | (simp only [List.length_drop, List.length_take]; rfl)) ?_; (with_reducible refine (lz_Unpack.calls (t209 ++ (strOfNums y223)) (a0.size : Int) t226 t227 _ A49.out).mono ?_); rintro e w61 ⟨rfl, hb⟩; refine ⟨_, rfl, ?_⟩; have n0_ := Aside0.mk (Kd.R_below (by (with_reducible repeat (first | apply Kd.R_alloc | apply Kd.R_drewN | apply Kd.R_drew)); exact HO225.out) hb); have n1_ := Aside0.mk (below_step (by repeat (first | (with_reducible first | exact HB.out | apply below_alloc | apply pw_below_drewN | apply below_drew1) | exact HB.out)) hb); clear HO225; clear HB; have HO225 := n0_; have HB := n1_; clear n0_ n1_; (try clear hb); (try clear hb2); (try clear hk); (try clear hi)))
                          go_ret
                          exact ⟨by first | rfl | (simp [errW_none, errW_some] <;> rfl) | (simp [*, errW_none, errW_some] <;> rfl), by repeat (first | (with_reducible first | exact HB.out | apply below_alloc | apply pw_below_drewN | apply below_drew1) | exact HB.out)⟩
                      · rw [if_neg c50] at H
                        have c50b0 : (t227 == 0) = false := beq_eq_false_iff_ne.mpr c50
                        have c50b1 : (t227 != 0) = true := bne_iff_ne.mpr c50
                        obtain rfl := Option.some.inj H
                        go_wp2_with (first | ((with_reducible refine gate_callee (f := 16) rfl ?_); refine goesL_ (some 66) rfl rfl Try.func16 (by kernel_rfl) rfl #[.int .i64 a1, .int .i64 (t209.size : Int)] rfl (by (try simp only [List.map_toArray, List.map_cons, List.map_nil]); first | done | rfl | (simp only [List.length_drop, List.length_take]; rfl)) ?_; (with_reducible refine (garretbook_Among.calls a1 (t209.size : Int) t215 _ A21.out).mono ?_); rintro e w' ⟨rfl, ⟨nd, rfl⟩⟩; refine ⟨_, rfl, ?_⟩) | ((with_reducible refine gate_callee (f := 10) rfl ?_); refine goesL_ (some 70) rfl rfl Try.func10 (by kernel_rfl) rfl #[.string (t209.extract 0 (t215 : Int).toNat), .int .i64 (a0.size : Int)] rfl (by (try simp only [List.map_toArray, List.map_cons, List.map_nil]); first | done | rfl | (simp only [List.length_drop, List.length_take]; rfl)) ?_; (with_reducible refine (lz_Unpack.calls (t209.extract 0 (t215 : Int).toNat) (a0.size : Int) t216 t217 _ A24.out).mono ?_); rintro e w62 ⟨rfl, hb⟩; refine ⟨_, rfl, ?_⟩; have n0_ := Aside0.mk (below_step (by repeat (first | (with_reducible first | exact HB.out | apply below_alloc | apply pw_below_drewN | apply below_drew1) | exact HB.out)) hb); clear HB; have HB := n0_; clear n0_; (try clear hb); (try clear hb2); (try clear hk); (try clear hi)) | ((with_reducible refine gate_dst (N := 87) rfl ?_); refine Kd.R_lit (Kd.int .u8) _ 5 ?hg (N := 87) ?hd (xs := ([a2] : List Int)) (inner := [.int .u8 a2]) (ok := fun _ => True) (okp := fun _ => True) ?hr ?hp (fun _ hk => hk) trivial (Below.refl _ _) (Nat.le_refl _) (by simp) ?_; (case hd => rfl); (case hg => rfl); (case hr => first | (go_simp; done) | (go_simp; rfl)); (case hp => exact (Reps.one (show Kd.M (Kd.int .u8) _ _ _ a2 [.int .u8 a2] from rfl) (Reps.none _ _))); intro v224 w63 ho64 hb hg_ hnew_; clear hg_ hnew_; (first | rw [← Ny223.out] at ho64 | (simp only [Int.reduceToNat] at ho64; rw [← Ny223.out] at ho64)); have n0_ := Aside0.mk (Kd.R_lower ho64 (below_size (by repeat (first | (with_reducible first | exact HB.out | apply below_alloc | apply pw_below_drewN | apply below_drew1) | exact HB.out)))); have n1_ := Aside0.mk (below_step (by repeat (first | (with_reducible first | exact HB.out | apply below_alloc | apply pw_below_drewN | apply below_drew1) | exact HB.out)) hb); clear HB; have HO225 := n0_; have HB := n1_; clear n0_ n1_; clear hb ho64; have hcv65 := own_string (P := Try.prog) Try.underlying41 Try.underlying5 Try.underlying9 (Kd.own_of_R HO225.out)) | ((with_reducible refine gate_callee (f := 10) rfl ?_); refine goesL_ (some 92) rfl rfl Try.func10 (by kernel_rfl) rfl #[.string (t209 ++ (strOfNums y223)), .int .i64 (a0.size : Int)] rfl (by (try simp only [List.map_toArray, List.map_cons, List.map_nil]); first | done | rfl | (simp only [List.length_drop, List.length_take]; rfl)) ?_; (with_reducible refine (lz_Unpack.calls (t209 ++ (strOfNums y223)) (a0.size : Int) t226 t227 _ A49.out).mono ?_); rintro e w66 ⟨rfl, hb⟩; refine ⟨_, rfl, ?_⟩; have n0_ := Aside0.mk (Kd.R_below (by (with_reducible repeat (first | apply Kd.R_alloc | apply Kd.R_drewN | apply Kd.R_drew)); exact HO225.out) hb); have n1_ := Aside0.mk (below_step (by repeat (first | (with_reducible first | exact HB.out | apply below_alloc | apply pw_below_drewN | apply below_drew1) | exact HB.out)) hb); clear HO225; clear HB; have HO225 := n0_; have HB := n1_; clear n0_ n1_; (try clear hb); (try clear hb2); (try clear hk); (try clear hi)))
                        go_ret
                        exact ⟨by first | rfl | (simp [errW_none, errW_some] <;> rfl) | (simp [*, errW_none, errW_some] <;> rfl), by repeat (first | (with_reducible first | exact HB.out | apply below_alloc | apply pw_below_drewN | apply below_drew1) | exact HB.out)⟩
                    · rw [if_neg c48] at H
                      exact absurd H (by simp)
                · rw [if_neg c25] at H
                  have c25b0 : (t217 == 0) = false := beq_eq_false_iff_ne.mpr c25
                  have c25b1 : (t217 != 0) = true := bne_iff_ne.mpr c25
                  obtain ⟨y228, hy228⟩ : ∃ y_ : List Int, y_ = (([a2] : List Int)) := ⟨_, rfl⟩
                  replace H : (if t209.size + (strOfNums y228).size ≤ 9223372036854775807 then ((lz_Unpack.f (t209 ++ (strOfNums y228)) (a0.size : Int)).bind fun bt231 => (if bt231.2 = 0 then (if bt231.1.toList = a0.toList then (some (a0.toList == ([] : List UInt8))) else (some true)) else (some true))) else (none)) = some r := by first | (rw [hy228]; with_reducible exact H) | (have H2_ := (Option.bind_some _ _).symm.trans H; rw [hy228]; with_reducible exact H2_) | (have H2_ := (Option.bind_some _ _).symm.trans H; with_reducible exact H2_) | with_reducible exact H | (rw [hy228]; exact H) | exact H
                  have Ny228 := Aside0.mk hy228
                  clear hy228
                  by_cases c67 : t209.size + (strOfNums y228).size ≤ 9223372036854775807
                  · rw [if_pos c67] at H
                    have c67b0 := eq_true c67
                    have c67b1 : decide (t209.size + (strOfNums y228).size ≤ 9223372036854775807) = true := decide_eq_true c67
                    try have c67b2 : (9223372036854775807 < t209.size + (strOfNums y228).size) = False := eq_false (Nat.not_lt.2 c67)
                    replace H := Option.bind_eq_some_iff.mp H
                    obtain ⟨⟨t231, t232⟩, A680, H⟩ := H
                    replace H : (if t232 = 0 then (if t231.toList = a0.toList then (some (a0.toList == ([] : List UInt8))) else (some true)) else (some true)) = some r := H
                    have A68 := Aside0.mk A680
                    clear A680
                    by_cases c69 : t232 = 0
                    · rw [if_pos c69] at H
                      have c69b0 : (t232 == 0) = true := beq_iff_eq.mpr c69
                      have c69b1 : (t232 != 0) = false := bne_eq_false_iff_eq.mpr c69
                      clear c69
                      by_cases c70 : t231.toList = a0.toList
                      · rw [if_pos c70] at H
                        have c70b0 : (t231.toList == a0.toList) = true := beq_iff_eq.mpr c70
                        have c70b1 : (t231.toList != a0.toList) = false := bne_eq_false_iff_eq.mpr c70
                        clear c70
                        obtain rfl := Option.some.inj H
                        go_wp2_with (first | ((with_reducible refine gate_callee (f := 16) rfl ?_); refine goesL_ (some 66) rfl rfl Try.func16 (by kernel_rfl) rfl #[.int .i64 a1, .int .i64 (t209.size : Int)] rfl (by (try simp only [List.map_toArray, List.map_cons, List.map_nil]); first | done | rfl | (simp only [List.length_drop, List.length_take]; rfl)) ?_; (with_reducible refine (garretbook_Among.calls a1 (t209.size : Int) t215 _ A21.out).mono ?_); rintro e w' ⟨rfl, ⟨nd, rfl⟩⟩; refine ⟨_, rfl, ?_⟩) | ((with_reducible refine gate_callee (f := 10) rfl ?_); refine goesL_ (some 70) rfl rfl Try.func10 (by kernel_rfl) rfl #[.string (t209.extract 0 (t215 : Int).toNat), .int .i64 (a0.size : Int)] rfl (by (try simp only [List.map_toArray, List.map_cons, List.map_nil]); first | done | rfl | (simp only [List.length_drop, List.length_take]; rfl)) ?_; (with_reducible refine (lz_Unpack.calls (t209.extract 0 (t215 : Int).toNat) (a0.size : Int) t216 t217 _ A24.out).mono ?_); rintro e w71 ⟨rfl, hb⟩; refine ⟨_, rfl, ?_⟩; have n0_ := Aside0.mk (below_step (by repeat (first | (with_reducible first | exact HB.out | apply below_alloc | apply pw_below_drewN | apply below_drew1) | exact HB.out)) hb); clear HB; have HB := n0_; clear n0_; (try clear hb); (try clear hb2); (try clear hk); (try clear hi)) | ((with_reducible refine gate_dst (N := 87) rfl ?_); refine Kd.R_lit (Kd.int .u8) _ 5 ?hg (N := 87) ?hd (xs := ([a2] : List Int)) (inner := [.int .u8 a2]) (ok := fun _ => True) (okp := fun _ => True) ?hr ?hp (fun _ hk => hk) trivial (Below.refl _ _) (Nat.le_refl _) (by simp) ?_; (case hd => rfl); (case hg => rfl); (case hr => first | (go_simp; done) | (go_simp; rfl)); (case hp => exact (Reps.one (show Kd.M (Kd.int .u8) _ _ _ a2 [.int .u8 a2] from rfl) (Reps.none _ _))); intro v229 w72 ho73 hb hg_ hnew_; clear hg_ hnew_; (first | rw [← Ny228.out] at ho73 | (simp only [Int.reduceToNat] at ho73; rw [← Ny228.out] at ho73)); have n0_ := Aside0.mk (Kd.R_lower ho73 (below_size (by repeat (first | (with_reducible first | exact HB.out | apply below_alloc | apply pw_below_drewN | apply below_drew1) | exact HB.out)))); have n1_ := Aside0.mk (below_step (by repeat (first | (with_reducible first | exact HB.out | apply below_alloc | apply pw_below_drewN | apply below_drew1) | exact HB.out)) hb); clear HB; have HO230 := n0_; have HB := n1_; clear n0_ n1_; clear hb ho73; have hcv74 := own_string (P := Try.prog) Try.underlying41 Try.underlying5 Try.underlying9 (Kd.own_of_R HO230.out)) | ((with_reducible refine gate_callee (f := 10) rfl ?_); refine goesL_ (some 92) rfl rfl Try.func10 (by kernel_rfl) rfl #[.string (t209 ++ (strOfNums y228)), .int .i64 (a0.size : Int)] rfl (by (try simp only [List.map_toArray, List.map_cons, List.map_nil]); first | done | rfl | (simp only [List.length_drop, List.length_take]; rfl)) ?_; (with_reducible refine (lz_Unpack.calls (t209 ++ (strOfNums y228)) (a0.size : Int) t231 t232 _ A68.out).mono ?_); rintro e w75 ⟨rfl, hb⟩; refine ⟨_, rfl, ?_⟩; have n0_ := Aside0.mk (Kd.R_below (by (with_reducible repeat (first | apply Kd.R_alloc | apply Kd.R_drewN | apply Kd.R_drew)); exact HO230.out) hb); have n1_ := Aside0.mk (below_step (by repeat (first | (with_reducible first | exact HB.out | apply below_alloc | apply pw_below_drewN | apply below_drew1) | exact HB.out)) hb); clear HO230; clear HB; have HO230 := n0_; have HB := n1_; clear n0_ n1_; (try clear hb); (try clear hb2); (try clear hk); (try clear hi)))
                        go_ret
                        exact ⟨by first | rfl | (simp [errW_none, errW_some] <;> rfl) | (simp [*, errW_none, errW_some] <;> rfl), by repeat (first | (with_reducible first | exact HB.out | apply below_alloc | apply pw_below_drewN | apply below_drew1) | exact HB.out)⟩
                      · rw [if_neg c70] at H
                        have c70b0 : (t231.toList == a0.toList) = false := beq_eq_false_iff_ne.mpr c70
                        have c70b1 : (t231.toList != a0.toList) = true := bne_iff_ne.mpr c70
                        obtain rfl := Option.some.inj H
                        go_wp2_with (first | ((with_reducible refine gate_callee (f := 16) rfl ?_); refine goesL_ (some 66) rfl rfl Try.func16 (by kernel_rfl) rfl #[.int .i64 a1, .int .i64 (t209.size : Int)] rfl (by (try simp only [List.map_toArray, List.map_cons, List.map_nil]); first | done | rfl | (simp only [List.length_drop, List.length_take]; rfl)) ?_; (with_reducible refine (garretbook_Among.calls a1 (t209.size : Int) t215 _ A21.out).mono ?_); rintro e w' ⟨rfl, ⟨nd, rfl⟩⟩; refine ⟨_, rfl, ?_⟩) | ((with_reducible refine gate_callee (f := 10) rfl ?_); refine goesL_ (some 70) rfl rfl Try.func10 (by kernel_rfl) rfl #[.string (t209.extract 0 (t215 : Int).toNat), .int .i64 (a0.size : Int)] rfl (by (try simp only [List.map_toArray, List.map_cons, List.map_nil]); first | done | rfl | (simp only [List.length_drop, List.length_take]; rfl)) ?_; (with_reducible refine (lz_Unpack.calls (t209.extract 0 (t215 : Int).toNat) (a0.size : Int) t216 t217 _ A24.out).mono ?_); rintro e w76 ⟨rfl, hb⟩; refine ⟨_, rfl, ?_⟩; have n0_ := Aside0.mk (below_step (by repeat (first | (with_reducible first | exact HB.out | apply below_alloc | apply pw_below_drewN | apply below_drew1) | exact HB.out)) hb); clear HB; have HB := n0_; clear n0_; (try clear hb); (try clear hb2); (try clear hk); (try clear hi)) | ((with_reducible refine gate_dst (N := 87) rfl ?_); refine Kd.R_lit (Kd.int .u8) _ 5 ?hg (N := 87) ?hd (xs := ([a2] : List Int)) (inner := [.int .u8 a2]) (ok := fun _ => True) (okp := fun _ => True) ?hr ?hp (fun _ hk => hk) trivial (Below.refl _ _) (Nat.le_refl _) (by simp) ?_; (case hd => rfl); (case hg => rfl); (case hr => first | (go_simp; done) | (go_simp; rfl)); (case hp => exact (Reps.one (show Kd.M (Kd.int .u8) _ _ _ a2 [.int .u8 a2] from rfl) (Reps.none _ _))); intro v229 w77 ho78 hb hg_ hnew_; clear hg_ hnew_; (first | rw [← Ny228.out] at ho78 | (simp only [Int.reduceToNat] at ho78; rw [← Ny228.out] at ho78)); have n0_ := Aside0.mk (Kd.R_lower ho78 (below_size (by repeat (first | (with_reducible first | exact HB.out | apply below_alloc | apply pw_below_drewN | apply below_drew1) | exact HB.out)))); have n1_ := Aside0.mk (below_step (by repeat (first | (with_reducible first | exact HB.out | apply below_alloc | apply pw_below_drewN | apply below_drew1) | exact HB.out)) hb); clear HB; have HO230 := n0_; have HB := n1_; clear n0_ n1_; clear hb ho78; have hcv79 := own_string (P := Try.prog) Try.underlying41 Try.underlying5 Try.underlying9 (Kd.own_of_R HO230.out)) | ((with_reducible refine gate_callee (f := 10) rfl ?_); refine goesL_ (some 92) rfl rfl Try.func10 (by kernel_rfl) rfl #[.string (t209 ++ (strOfNums y228)), .int .i64 (a0.size : Int)] rfl (by (try simp only [List.map_toArray, List.map_cons, List.map_nil]); first | done | rfl | (simp only [List.length_drop, List.length_take]; rfl)) ?_; (with_reducible refine (lz_Unpack.calls (t209 ++ (strOfNums y228)) (a0.size : Int) t231 t232 _ A68.out).mono ?_); rintro e w80 ⟨rfl, hb⟩; refine ⟨_, rfl, ?_⟩; have n0_ := Aside0.mk (Kd.R_below (by (with_reducible repeat (first | apply Kd.R_alloc | apply Kd.R_drewN | apply Kd.R_drew)); exact HO230.out) hb); have n1_ := Aside0.mk (below_step (by repeat (first | (with_reducible first | exact HB.out | apply below_alloc | apply pw_below_drewN | apply below_drew1) | exact HB.out)) hb); clear HO230; clear HB; have HO230 := n0_; have HB := n1_; clear n0_ n1_; (try clear hb); (try clear hb2); (try clear hk); (try clear hi)))
                        go_ret
                        exact ⟨by first | rfl | (simp [errW_none, errW_some] <;> rfl) | (simp [*, errW_none, errW_some] <;> rfl), by repeat (first | (with_reducible first | exact HB.out | apply below_alloc | apply pw_below_drewN | apply below_drew1) | exact HB.out)⟩
                    · rw [if_neg c69] at H
                      have c69b0 : (t232 == 0) = false := beq_eq_false_iff_ne.mpr c69
                      have c69b1 : (t232 != 0) = true := bne_iff_ne.mpr c69
                      obtain rfl := Option.some.inj H
                      go_wp2_with (first | ((with_reducible refine gate_callee (f := 16) rfl ?_); refine goesL_ (some 66) rfl rfl Try.func16 (by kernel_rfl) rfl #[.int .i64 a1, .int .i64 (t209.size : Int)] rfl (by (try simp only [List.map_toArray, List.map_cons, List.map_nil]); first | done | rfl | (simp only [List.length_drop, List.length_take]; rfl)) ?_; (with_reducible refine (garretbook_Among.calls a1 (t209.size : Int) t215 _ A21.out).mono ?_); rintro e w' ⟨rfl, ⟨nd, rfl⟩⟩; refine ⟨_, rfl, ?_⟩) | ((with_reducible refine gate_callee (f := 10) rfl ?_); refine goesL_ (some 70) rfl rfl Try.func10 (by kernel_rfl) rfl #[.string (t209.extract 0 (t215 : Int).toNat), .int .i64 (a0.size : Int)] rfl (by (try simp only [List.map_toArray, List.map_cons, List.map_nil]); first | done | rfl | (simp only [List.length_drop, List.length_take]; rfl)) ?_; (with_reducible refine (lz_Unpack.calls (t209.extract 0 (t215 : Int).toNat) (a0.size : Int) t216 t217 _ A24.out).mono ?_); rintro e w81 ⟨rfl, hb⟩; refine ⟨_, rfl, ?_⟩; have n0_ := Aside0.mk (below_step (by repeat (first | (with_reducible first | exact HB.out | apply below_alloc | apply pw_below_drewN | apply below_drew1) | exact HB.out)) hb); clear HB; have HB := n0_; clear n0_; (try clear hb); (try clear hb2); (try clear hk); (try clear hi)) | ((with_reducible refine gate_dst (N := 87) rfl ?_); refine Kd.R_lit (Kd.int .u8) _ 5 ?hg (N := 87) ?hd (xs := ([a2] : List Int)) (inner := [.int .u8 a2]) (ok := fun _ => True) (okp := fun _ => True) ?hr ?hp (fun _ hk => hk) trivial (Below.refl _ _) (Nat.le_refl _) (by simp) ?_; (case hd => rfl); (case hg => rfl); (case hr => first | (go_simp; done) | (go_simp; rfl)); (case hp => exact (Reps.one (show Kd.M (Kd.int .u8) _ _ _ a2 [.int .u8 a2] from rfl) (Reps.none _ _))); intro v229 w82 ho83 hb hg_ hnew_; clear hg_ hnew_; (first | rw [← Ny228.out] at ho83 | (simp only [Int.reduceToNat] at ho83; rw [← Ny228.out] at ho83)); have n0_ := Aside0.mk (Kd.R_lower ho83 (below_size (by repeat (first | (with_reducible first | exact HB.out | apply below_alloc | apply pw_below_drewN | apply below_drew1) | exact HB.out)))); have n1_ := Aside0.mk (below_step (by repeat (first | (with_reducible first | exact HB.out | apply below_alloc | apply pw_below_drewN | apply below_drew1) | exact HB.out)) hb); clear HB; have HO230 := n0_; have HB := n1_; clear n0_ n1_; clear hb ho83; have hcv84 := own_string (P := Try.prog) Try.underlying41 Try.underlying5 Try.underlying9 (Kd.own_of_R HO230.out)) | ((with_reducible refine gate_callee (f := 10) rfl ?_); refine goesL_ (some 92) rfl rfl Try.func10 (by kernel_rfl) rfl #[.string (t209 ++ (strOfNums y228)), .int .i64 (a0.size : Int)] rfl (by (try simp only [List.map_toArray, List.map_cons, List.map_nil]); first | done | rfl | (simp only [List.length_drop, List.length_take]; rfl)) ?_; (with_reducible refine (lz_Unpack.calls (t209 ++ (strOfNums y228)) (a0.size : Int) t231 t232 _ A68.out).mono ?_); rintro e w85 ⟨rfl, hb⟩; refine ⟨_, rfl, ?_⟩; have n0_ := Aside0.mk (Kd.R_below (by (with_reducible repeat (first | apply Kd.R_alloc | apply Kd.R_drewN | apply Kd.R_drew)); exact HO230.out) hb); have n1_ := Aside0.mk (below_step (by repeat (first | (with_reducible first | exact HB.out | apply below_alloc | apply pw_below_drewN | apply below_drew1) | exact HB.out)) hb); clear HO230; clear HB; have HO230 := n0_; have HB := n1_; clear n0_ n1_; (try clear hb); (try clear hb2); (try clear hk); (try clear hi)))
                      go_ret
                      exact ⟨by first | rfl | (simp [errW_none, errW_some] <;> rfl) | (simp [*, errW_none, errW_some] <;> rfl), by repeat (first | (with_reducible first | exact HB.out | apply below_alloc | apply pw_below_drewN | apply below_drew1) | exact HB.out)⟩
                  · rw [if_neg c67] at H
                    exact absurd H (by simp)
              · rw [if_neg c23] at H
                exact absurd H (by simp)
            · rw [if_neg c22] at H
              exact absurd H (by simp)
  · replace c5 := Bool.eq_false_iff.mpr c5
    subst c5
    have H1 : (some false) = some r := by rw [if_neg (show ¬ (false = true) by decide)] at H; exact H
    clear H
    have H := H1
    clear H1
    obtain rfl := Option.some.inj H
    go_enter Try.func4, Try.ntmps4
    go_wp2_with (first | ((with_reducible refine gate_callee (f := 8) rfl ?_); refine goesL_ (some 17) rfl rfl Try.func8 (by kernel_rfl) rfl #[] rfl (by (try simp only [List.map_toArray, List.map_cons, List.map_nil]); first | done | rfl | (simp only [List.length_drop, List.length_take]; rfl)) ?_; (with_reducible refine (garretlaw12_works.calls  false _ A4.out).mono ?_); rintro e w86 ⟨rfl, hb⟩; refine ⟨_, rfl, ?_⟩; have n0_ := Aside0.mk (below_step (by repeat (first | (with_reducible first | exact HB.out | apply below_alloc | apply pw_below_drewN | apply below_drew1) | exact HB.out)) hb); clear HB; have HB := n0_; clear n0_; (try clear hb); (try clear hb2); (try clear hk); (try clear hi)))
    go_ret
    exact ⟨by first | rfl | (simp [errW_none, errW_some] <;> rfl) | (simp [*, errW_none, errW_some] <;> rfl), by repeat (first | (with_reducible first | exact HB.out | apply below_alloc | apply pw_below_drewN | apply below_drew1) | exact HB.out)⟩

/-- THE ONE PURE STATEMENT of garretlaw12_LzBack: yours. -/
def garretlaw12_LzBack.Pure : Prop := ∀ (a0 : ByteArray) (a1 : Int) (a2 : Int), a0.size ≤ 140737488351232 → (Lit.int .i64 a1).wf = true → (Lit.int .u8 a2).wf = true → ∃ k, garretlaw12_LzBack.f k a0 a1 a2 = some true
theorem garretlaw12_LzBack.walk (P : garretlaw12_LzBack.Pure) (a0 : ByteArray) (a1 : Int) (a2 : Int) (w : World) (w0 : a0.size ≤ 140737488351232) (w1 : (Lit.int .i64 a1).wf = true) (w2 : (Lit.int .u8 a2).wf = true) :
    Calls Try.prog 4 #[.string a0, .int .i64 a1, .int .u8 a2] w fun e w' => e = .returned (.bool true) ∧ Below w.heap.size w w' := by
  obtain ⟨k, h⟩ := P a0 a1 a2 w0 w1 w2
  refine (garretlaw12_LzBack.calls k a0 a1 a2 true w h).mono ?_
  rintro e w' ⟨rfl, hd⟩
  exact ⟨rfl, hd⟩

end Go.Proofs.Ytflkjofafgoapaa.Q
