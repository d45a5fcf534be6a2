/- Of the proof about maint: several texts, joined. -/
import Derived.Test.YtpdkgpmcmebefaaGreatDoorMA
import Derived.Test.YtpdkgpmcmebefaaGreatDoorMB
set_option maxHeartbeats 16000000
set_option maxRecDepth 100000
set_option linter.unusedVariables false
set_option linter.unusedSimpArgs false
namespace Go.Proofs.YtpdkgpmcmebefaaGreatDoor.Q
open Go.RowKit Go.Proofs.YtpdkgpmcmebefaaGreatDoorW.PrintWords Go.Proofs.YtpdkgpmcmebefaaGreatDoorW.PrintLast Go.Proofs.YtpdkgpmcmebefaaGreatDoorW.PrintMore
attribute [local go_sem] max2_int min2_int max_two min_two max_three min_three max_four min_four
mutual
def r22_Check.l0 : Nat → List Int → Int → Int → Int → Int → Int → Int → Int → Int → List ByteArray → Option (Int)
 | 0, _, _, _, _, _, _, _, _, _, _ => none
 | k + 1, x3, x4, x329000, x329001, x329002, x329003, x329004, x329005, x329006, x329007 => if x4 < (x3.length : Int) then (if 0 ≤ x4 then (if (rd x3 x4) < 0 then (some 1) else (if (rd x3 x4) > 4096 then (some 1) else (r22_Check.l0 k x3 (wrap64 (x4 + 1)) x329000 x329001 x329002 x329003 x329004 x329005 x329006 x329007))) else (none)) else (if x329006 < 0 then (r22_Check.j1 k true x329000 x329001 x329002 x329003 x329004 x329005 x329006 x329007) else (if x329006 > 1099511627776 then (r22_Check.j1 k true x329000 x329001 x329002 x329003 x329004 x329005 x329006 x329007) else (r22_Check.j1 k (decide ((x329007.length : Int) > 64)) x329000 x329001 x329002 x329003 x329004 x329005 x329006 x329007)))
def r22_Check.j1 : Nat → Bool → Int → Int → Int → Int → Int → Int → Int → List ByteArray → Option (Int)
 | 0, _, _, _, _, _, _, _, _, _ => none
 | k + 1, x39, x329000, x329001, x329002, x329003, x329004, x329005, x329006, x329007 => if x39 = true then (some 1) else (if 32 ≤ 281474976710656 then ((r20_Check.f k 0 (⟨#[104]⟩ : ByteArray) ([] : List ByteArray) x329007 (strOfNums (List.replicate 32 0)) (⟨#[]⟩ : ByteArray)).bind fun t338 => (if t338 = 0 then (some 0) else (some 1))) else (none))
end
def r22_Check.f (k : Nat) (a0_0 : Int) (a0_1 : Int) (a0_2 : Int) (a0_3 : Int) (a0_4 : Int) (a0_5 : Int) (a0_6 : Int) (l0_7 : List ByteArray) : Option (Int) := (r22_Policy_units.f a0_0 a0_1 a0_2 a0_3 a0_4 a0_5 a0_6 l0_7).bind fun t329 => (r22_Check.l0 k t329 0 a0_0 a0_1 a0_2 a0_3 a0_4 a0_5 a0_6 l0_7)
theorem r22_Check.calls (k : Nat) (a0_0 : Int) (a0_1 : Int) (a0_2 : Int) (a0_3 : Int) (a0_4 : Int) (a0_5 : Int) (a0_6 : Int) (A0_7 : Option Addr) (c0_7 : Nat) (l0_7 : List ByteArray) (r : Int) (w : World) (hr0_7 : Kd.C Kd.string w A0_7 l0_7.length l0_7) (hc0_7 : l0_7.length ≤ c0_7) (h : r22_Check.f k a0_0 a0_1 a0_2 a0_3 a0_4 a0_5 a0_6 l0_7 = some r) :
  Calls Tryz.prog 26 #[.agg #[.int .i64 a0_0, .int .i64 a0_1, .int .i64 a0_2, .int .i64 a0_3, .int .i64 a0_4, .int .i64 a0_5, .int .i64 a0_6, .slice A0_7 l0_7.length c0_7]] w fun e w' => e = .returned (.int .i64 r) ∧ Below w.heap.size w w' := by
 have hu34 := Tryz.underlying34
 have hu28 := Tryz.underlying28
 have HR0_7 := Sd.mk hr0_7
 have HC0_7 := Sd.mk hc0_7
 clear hr0_7 hc0_7
 have HB := Sd.mk (Below.refl w.heap.size w)
 have H : ((r22_Policy_units.f a0_0 a0_1 a0_2 a0_3 a0_4 a0_5 a0_6 l0_7).bind fun t329 => (r22_Check.l0 k t329 0 a0_0 a0_1 a0_2 a0_3 a0_4 a0_5 a0_6 l0_7)) = some r := h
 clear h
 replace H := Option.bind_eq_some_iff.mp H
 obtain ⟨t329, A20, H⟩ := H
 replace H : (r22_Check.l0 k t329 0 a0_0 a0_1 a0_2 a0_3 a0_4 a0_5 a0_6 l0_7) = some r := H
 have A2 := Sd.mk A20
 clear A20
 have H' := Sd.mk H
 clear H
 go_enter Tryz.func26, Tryz.ntmps26
 go_wp2_with (first | ((with_reducible refine gate_dst (N := 1) rfl ?_); (try (refine gate_guard (by rfl) ?_; dsimp only)); refine box_event ?hg (N := 1) ?hd (cs := #[.int .i64 a0_0, .int .i64 a0_1, .int .i64 a0_2, .int .i64 a0_3, .int .i64 a0_4, .int .i64 a0_5, .int .i64 a0_6, .slice A0_7 l0_7.length c0_7]) (t := 34) ?hr ?_; (case hd => rfl); (case hg => rfl); (case hr => (go_simp; done)); intro gb328 hg w3 hbox hb; have n0_ := Sd.mk (below_step (by repeat ((with_reducible (exact HB.out)))) hb); have n1_ := Sd.mk (hbox); have n2_ := Sd.mk ((by rw [hg]; exact (below_size (by repeat ((with_reducible (exact HB.out))))) : w.heap.size ≤ gb328)); have n3_ := Sd.mk ((by rw [hg]; exact (below_size (by repeat ((with_reducible (exact HB.out))))) : w.heap.size ≤ gb328)); clear HB; have HB := n0_; have BK328 := n1_; have GW328 := n2_; have GE328 := n3_; clear n0_ n1_ n2_ n3_; clear hb hbox hg; obtain ⟨hcz4_0, hcz4_1, hcz4_2, hcz4_3, hcz4_4, hcz4_5, hcz4_6, hcz4_7⟩ := bc8 BK328.out; obtain ⟨hfz4_0, hfz4_1, hfz4_2, hfz4_3, hfz4_4, hfz4_5, hfz4_6, hfz4_7⟩ := bf8 BK328.out) | ((with_reducible refine gate_callee (f := 56) rfl ?_); refine goesL_ (some 7) rfl rfl Tryz.func56 (by kernel_rfl) rfl #[.agg #[.int .i64 a0_0, .int .i64 a0_1, .int .i64 a0_2, .int .i64 a0_3, .int .i64 a0_4, .int .i64 a0_5, .int .i64 a0_6, .slice A0_7 l0_7.length c0_7]] rfl (by (try simp only [List.map_toArray, List.map_cons, List.map_nil]); (rfl)) ?_; (with_reducible refine (r22_Policy_units.calls a0_0 a0_1 a0_2 a0_3 a0_4 a0_5 a0_6 _ _ l0_7 t329 _ ?side1 ?side2 A2.out).mono ?_); (case side1 => repeat ((exact (Kd.C_below HR0_7.out HB.out)))); (case side2 => exact HC0_7.out); rintro e w5 ⟨v330, rfl, ho0, hb⟩; refine ⟨_, rfl, ?_⟩; have n0_ := Sd.mk (Kd.R_lower ho0 (below_size (by repeat ((with_reducible (exact HB.out)))))); have n1_ := Sd.mk (blk_below (g := gb328) (o := .cells #[.int .i64 a0_0, .int .i64 a0_1, .int .i64 a0_2, .int .i64 a0_3, .int .i64 a0_4, .int .i64 a0_5, .int .i64 a0_6, .slice A0_7 l0_7.length c0_7] 34 (0, 0)) (by (with_reducible repeat (fail)); exact BK328.out) hb); have n2_ := Sd.mk (below_step (by repeat ((with_reducible (exact HB.out)))) hb); clear BK328; clear HB; have HO331 := n0_; have BK328 := n1_; have HB := n2_; clear n0_ n1_ n2_; (try clear hb); (try clear hb2); (try clear hk); (try clear hi); (try clear ho0)))
 go_loopg [4] k (fun kq v4 w' => ∃ (x4_1 : Int), v4 = .int .i64 x4_1 ∧ Sd (r22_Check.l0 kq t329 x4_1 a0_0 a0_1 a0_2 a0_3 a0_4 a0_5 a0_6 l0_7 = some r) ∧ Sd (kq ≤ k) ∧ Sd (Kd.R (Kd.int .i64) 3 w' w.heap.size (fun _ => True) v330 t329) ∧ Sd (w'.heap[gb328]? = some (.cells #[.int .i64 a0_0, .int .i64 a0_1, .int .i64 a0_2, .int .i64 a0_3, .int .i64 a0_4, .int .i64 a0_5, .int .i64 a0_6, (.slice A0_7 l0_7.length c0_7)] 34 (0, 0))) ∧ Sd (Below w.heap.size w w'))
 case atStart => exact ⟨(0), (by (rfl)), H', ⟨Nat.le_refl _⟩, ⟨by (with_reducible repeat (fail)); exact HO331.out⟩, ⟨by (with_reducible repeat (fail)); exact BK328.out⟩, ⟨by repeat ((with_reducible (exact HB.out)))⟩⟩
 case round =>
  clear H'
  try clear c2
  try clear p2
  try clear c5
  try clear hcz4_0
  try clear hcz4_1
  try clear hcz4_2
  try clear hcz4_3
  try clear hcz4_4
  try clear hcz4_5
  try clear hcz4_6
  try clear hcz4_7
  try clear hfz4_0
  try clear hfz4_1
  try clear hfz4_2
  try clear hfz4_3
  try clear hfz4_4
  try clear hfz4_5
  try clear hfz4_6
  try clear hfz4_7
  obtain ⟨x4_1, rfl, HA, HK1, HO_3, BK328, HB⟩ := hrel
  cases gk with
  | zero => exact absurd HA.out (by simp [r22_Check.l0])
  | succ k1 =>
   have H := HA.out
   clear HA
   simp only [r22_Check.l0] at H
   by_cases c6 : x4_1 < (t329.length : Int)
   ·rw [if_pos c6] at H
    have c6b0 : decide (x4_1 < (t329.length : Int)) = true := decide_eq_true c6
    clear c6
    by_cases c7 : 0 ≤ x4_1
    ·rw [if_pos c7] at H
     have c7b0 : decide (0 ≤ x4_1) = true := decide_eq_true c7
     clear c7
     by_cases c8 : (rd t329 x4_1) < 0
     ·rw [if_pos c8] at H
      have c8b0 : decide ((rd t329 x4_1) < 0) = true := decide_eq_true c8
      clear c8
      obtain rfl := Option.some.inj H
      obtain ⟨Ao9, co9, eo9⟩ := Kd.R_slice HO_3.out
      subst eo9
      have p332 : 0 ≤ (x4_1 : Int) := odt (by (with_reducible assumption))
      have q332 : x4_1 < (t329.length : Int) := odt (by (with_reducible assumption))
      obtain ⟨ad332, e332, hx332_0⟩ := Kd.at_int (Kd.R_reads' HO_3.out).2.2 x4_1 p332 q332
      cases e332
      replace p332 := eq_true p332
      replace q332 := eq_true q332
      go_wp2
      go_ret
      exact ⟨by (rfl), by repeat ((with_reducible (exact HB.out)))⟩
     ·rw [if_neg c8] at H
      have c8b0 : decide ((rd t329 x4_1) < 0) = false := decide_eq_false c8
      clear c8
      by_cases c10 : (rd t329 x4_1) > 4096
      ·rw [if_pos c10] at H
       have c10b0 : decide (4096 < (rd t329 x4_1)) = true := decide_eq_true c10
       clear c10
       obtain rfl := Option.some.inj H
       obtain ⟨Ao11, co11, eo11⟩ := Kd.R_slice HO_3.out
       subst eo11
       have p332 : 0 ≤ (x4_1 : Int) := odt (by (with_reducible assumption))
       have q332 : x4_1 < (t329.length : Int) := odt (by (with_reducible assumption))
       obtain ⟨ad332, e332, hx332_0⟩ := Kd.at_int (Kd.R_reads' HO_3.out).2.2 x4_1 p332 q332
       cases e332
       replace p332 := eq_true p332
       replace q332 := eq_true q332
       have p333 : 0 ≤ (x4_1 : Int) := odt (by (with_reducible assumption))
       have q333 : x4_1 < (t329.length : Int) := odt (by (with_reducible assumption))
       obtain ⟨ad333, e333, hx333_0⟩ := Kd.at_int (Kd.R_reads' HO_3.out).2.2 x4_1 p333 q333
       obtain rfl : ad332 = ad333 := (by injection e333)
       replace p333 := eq_true p333
       replace q333 := eq_true q333
       go_wp2
       go_ret
       exact ⟨by (rfl), by repeat ((with_reducible (exact HB.out)))⟩
      ·rw [if_neg c10] at H
       have c10b0 : decide (4096 < (rd t329 x4_1)) = false := decide_eq_false c10
       clear c10
       have H' := Sd.mk H
       clear H
       obtain ⟨Ao12, co12, eo12⟩ := Kd.R_slice HO_3.out
       subst eo12
       have p332 : 0 ≤ (x4_1 : Int) := odt (by (with_reducible assumption))
       have q332 : x4_1 < (t329.length : Int) := odt (by (with_reducible assumption))
       obtain ⟨ad332, e332, hx332_0⟩ := Kd.at_int (Kd.R_reads' HO_3.out).2.2 x4_1 p332 q332
       cases e332
       replace p332 := eq_true p332
       replace q332 := eq_true q332
       have p333 : 0 ≤ (x4_1 : Int) := odt (by (with_reducible assumption))
       have q333 : x4_1 < (t329.length : Int) := odt (by (with_reducible assumption))
       obtain ⟨ad333, e333, hx333_0⟩ := Kd.at_int (Kd.R_reads' HO_3.out).2.2 x4_1 p333 q333
       obtain rfl : ad332 = ad333 := (by injection e333)
       replace p333 := eq_true p333
       replace q333 := eq_true q333
       go_wp2
       go_roundg k1
       case measure => have := HK1.out; omega
       case rel => exact ⟨(wrap64 (x4_1 + 1)), (by (rfl)), H', ⟨by have := HK1.out; omega⟩, ⟨by (with_reducible repeat (fail)); exact HO_3.out⟩, ⟨by (with_reducible repeat (fail)); exact BK328.out⟩, ⟨by repeat ((with_reducible (exact HB.out)))⟩⟩
    ·rw [if_neg c7] at H
     exact absurd H (by simp)
   ·rw [if_neg c6] at H
    have c6b0 : decide (x4_1 < (t329.length : Int)) = false := decide_eq_false c6
    clear c6
    have HC13 := Sd.mk H
    clear H
    obtain ⟨Ao14, co14, eo14⟩ := Kd.R_slice HO_3.out
    subst eo14
    go_upto_region 7 with (fail)
    go_cut [39] (fun v39 wc => ∃ (kq : Nat) (x39_12 : Bool), v39 = .bool x39_12 ∧ Sd (r22_Check.j1 kq x39_12 a0_0 a0_1 a0_2 a0_3 a0_4 a0_5 a0_6 l0_7 = some r) ∧ Sd (kq ≤ k1) ∧ Sd (wc.heap[gb328]? = some (.cells #[.int .i64 a0_0, .int .i64 a0_1, .int .i64 a0_2, .int .i64 a0_3, .int .i64 a0_4, .int .i64 a0_5, .int .i64 a0_6, (.slice A0_7 l0_7.length c0_7)] 34 (0, 0))) ∧ Sd (Below w.heap.size w wc))
    case first =>
     have H := HC13.out
     clear HC13
     by_cases c15 : a0_6 < 0
     ·rw [if_pos c15] at H
      have c15b0 : decide (a0_6 < 0) = true := decide_eq_true c15
      clear c15
      ((skip))
      have H' := Sd.mk H
      clear H
      obtain ⟨hcz16_0, hcz16_1, hcz16_2, hcz16_3, hcz16_4, hcz16_5, hcz16_6, hcz16_7⟩ := bc8 BK328.out
      obtain ⟨hfz16_0, hfz16_1, hfz16_2, hfz16_3, hfz16_4, hfz16_5, hfz16_6, hfz16_7⟩ := bf8 BK328.out
      go_wp2
      go_meet
      case rel => exact ⟨_, (true), (by (rfl)), H', ⟨by have := HK1.out; (omega)⟩, ⟨by (with_reducible repeat (fail)); exact BK328.out⟩, ⟨by repeat ((with_reducible (exact HB.out)))⟩⟩
     ·rw [if_neg c15] at H
      have c15b0 : decide (a0_6 < 0) = false := decide_eq_false c15
      clear c15
      ((skip))
      by_cases c17 : a0_6 > 1099511627776
      ·rw [if_pos c17] at H
       have c17b0 : decide (1099511627776 < a0_6) = true := decide_eq_true c17
       clear c17
       have H' := Sd.mk H
       clear H
       obtain ⟨hcz18_0, hcz18_1, hcz18_2, hcz18_3, hcz18_4, hcz18_5, hcz18_6, hcz18_7⟩ := bc8 BK328.out
       obtain ⟨hfz18_0, hfz18_1, hfz18_2, hfz18_3, hfz18_4, hfz18_5, hfz18_6, hfz18_7⟩ := bf8 BK328.out
       go_wp2
       go_meet
       case rel => exact ⟨_, (true), (by (rfl)), H', ⟨by have := HK1.out; (omega)⟩, ⟨by (with_reducible repeat (fail)); exact BK328.out⟩, ⟨by repeat ((with_reducible (exact HB.out)))⟩⟩
      ·rw [if_neg c17] at H
       have c17b0 : decide (1099511627776 < a0_6) = false := decide_eq_false c17
       clear c17
       have H' := Sd.mk H
       clear H
       obtain ⟨hcz19_0, hcz19_1, hcz19_2, hcz19_3, hcz19_4, hcz19_5, hcz19_6, hcz19_7⟩ := bc8 BK328.out
       obtain ⟨hfz19_0, hfz19_1, hfz19_2, hfz19_3, hfz19_4, hfz19_5, hfz19_6, hfz19_7⟩ := bf8 BK328.out
       go_wp2
       go_meet
       case rel => exact ⟨_, (decide ((l0_7.length : Int) > 64)), (by (rfl)), H', ⟨by have := HK1.out; (omega)⟩, ⟨by (with_reducible repeat (fail)); exact BK328.out⟩, ⟨by repeat ((with_reducible (exact HB.out)))⟩⟩
    case rest =>
     clear HC13
     try clear c1
     try clear c2
     try clear p2
     try clear p3
     try clear q3
     try clear hx3
     try clear c5
     try clear c6
     try clear c6b0
     try clear p6
     try clear c7
     try clear c7b0
     try clear c8
     try clear c8b0
     try clear c10
     try clear c10b0
     try clear c15
     try clear c15b0
     try clear c17
     try clear c17b0
     try clear hcz16_0
     try clear hcz16_1
     try clear hcz16_2
     try clear hcz16_3
     try clear hcz16_4
     try clear hcz16_5
     try clear hcz16_6
     try clear hcz16_7
     try clear hcz18_0
     try clear hcz18_1
     try clear hcz18_2
     try clear hcz18_3
     try clear hcz18_4
     try clear hcz18_5
     try clear hcz18_6
     try clear hcz18_7
     try clear hcz19_0
     try clear hcz19_1
     try clear hcz19_2
     try clear hcz19_3
     try clear hcz19_4
     try clear hcz19_5
     try clear hcz19_6
     try clear hcz19_7
     try clear hcz4_0
     try clear hcz4_1
     try clear hcz4_2
     try clear hcz4_3
     try clear hcz4_4
     try clear hcz4_5
     try clear hcz4_6
     try clear hcz4_7
     try clear hfz16_0
     try clear hfz16_1
     try clear hfz16_2
     try clear hfz16_3
     try clear hfz16_4
     try clear hfz16_5
     try clear hfz16_6
     try clear hfz16_7
     try clear hfz18_0
     try clear hfz18_1
     try clear hfz18_2
     try clear hfz18_3
     try clear hfz18_4
     try clear hfz18_5
     try clear hfz18_6
     try clear hfz18_7
     try clear hfz19_0
     try clear hfz19_1
     try clear hfz19_2
     try clear hfz19_3
     try clear hfz19_4
     try clear hfz19_5
     try clear hfz19_6
     try clear hfz19_7
     try clear hfz4_0
     try clear hfz4_1
     try clear hfz4_2
     try clear hfz4_3
     try clear hfz4_4
     try clear hfz4_5
     try clear hfz4_6
     try clear hfz4_7
     try clear hx332_0
     try clear hx333_0
     try clear p2
     try clear p332
     try clear p333
     try clear q332
     try clear q333
     obtain ⟨kq, x39_12, rfl, HA, HJ12, BK328, HB⟩ := hcut
     cases kq with
     | zero => exact absurd HA.out (by simp [r22_Check.j1])
     | succ kj12 =>
      have H := HA.out
      clear HA
      simp only [r22_Check.j1] at H
      by_cases c20 : x39_12 = true
      ·subst c20
       have H1 : (some 1) = some r := by rw [if_pos rfl] at H; exact H
       clear H
       have H := H1
       clear H1
       obtain rfl := Option.some.inj H
       go_wp2
       go_ret
       exact ⟨by (rfl), by repeat ((with_reducible (exact HB.out)))⟩
      ·replace c20 := Bool.eq_false_iff.mpr c20
       subst c20
       have H1 : (if 32 ≤ 281474976710656 then ((r20_Check.f kj12 0 (⟨#[104]⟩ : ByteArray) ([] : List ByteArray) l0_7 (strOfNums (List.replicate 32 0)) (⟨#[]⟩ : ByteArray)).bind fun t338 => (if t338 = 0 then (some 0) else (some 1))) else (none)) = some r := by rw [if_neg (show ¬ (false = true) by decide)] at H; exact H
       clear H
       have H := H1
       clear H1
       by_cases c21 : 32 ≤ 281474976710656
       ·rw [if_pos c21] at H
        have c21b0 := eq_true c21
        have c21b1 : decide (32 ≤ 281474976710656) = true := decide_eq_true c21
        clear c21
        obtain ⟨y334, hy334⟩ : ∃ y_ : List Int, y_ = (List.replicate 32 0) := ⟨_, rfl⟩
        replace H : ((r20_Check.f kj12 0 (⟨#[104]⟩ : ByteArray) ([] : List ByteArray) l0_7 (strOfNums y334) (⟨#[]⟩ : ByteArray)).bind fun t338 => (if t338 = 0 then (some 0) else (some 1))) = some r := by (rw [hy334]; with_reducible exact H)
        have Ny334 := Sd.mk hy334
        clear hy334
        replace H := Option.bind_eq_some_iff.mp H
        obtain ⟨t338, A220, H⟩ := H
        replace H : (if t338 = 0 then (some 0) else (some 1)) = some r := H
        have A22 := Sd.mk A220
        clear A220
        by_cases c23 : t338 = 0
        ·rw [if_pos c23] at H
         have c23b0 : (t338 == 0) = true := beq_iff_eq.mpr c23
         have c23b1 : (t338 != 0) = false := bne_eq_false_iff_eq.mpr c23
         clear c23
         obtain rfl := Option.some.inj H
         try go_wp2
         have n0_ := Sd.mk (blk_drew BK328.out)
         have n1_ := Sd.mk (below_drew1 HB.out)
         clear BK328
         clear HB
         have BK328 := n0_
         have HB := n1_
         clear n0_ n1_
         refine start_ (n := 7) (S := fun w' => w'.cell? ⟨gb328, 0, none⟩ = some (.int .i64 a0_0) ∧ w'.cell? ⟨gb328, 1, none⟩ = some (.int .i64 a0_1) ∧ w'.cell? ⟨gb328, 2, none⟩ = some (.int .i64 a0_2) ∧ w'.cell? ⟨gb328, 3, none⟩ = some (.int .i64 a0_3) ∧ w'.cell? ⟨gb328, 4, none⟩ = some (.int .i64 a0_4) ∧ w'.cell? ⟨gb328, 5, none⟩ = some (.int .i64 a0_5) ∧ w'.cell? ⟨gb328, 6, none⟩ = some (.int .i64 a0_6) ∧ w'.cell? ⟨gb328, 7, none⟩ = some (.slice A0_7 l0_7.length c0_7)) (ds := []) #[false, false, false, false, false, false, false] (by kernel_rfl) rfl rfl (bc8 BK328.out) (fun hHeld => ?_)
         generalize wc.drew = w24 at BK328 HB hHeld ⊢
         refine pu_ 0 40 #[true, false, false, false, false, false, false] (by kernel_rfl) ?_
         refine ta_ 1 41 #[true, true, false, false, false, false, false] (by kernel_rfl) hHeld ?_
         refine join_ (σ := Value × Nat) 1 #[true, true, true, true, true, true, false] (fun s_ => [(42, s_.1), (43, .string (strOfNums y334)), (5, .pointer (some ⟨s_.2, 0, none⟩)), (44, .agg #[.int .i64 0, .string (⟨#[104]⟩ : ByteArray), .slice none 0 0, .slice A0_7 l0_7.length c0_7, .string (strOfNums y334), .string (⟨#[]⟩ : ByteArray)])]) (fun s_ w' => (w'.cell? ⟨gb328, 0, none⟩ = some (.int .i64 a0_0) ∧ w'.cell? ⟨gb328, 1, none⟩ = some (.int .i64 a0_1) ∧ w'.cell? ⟨gb328, 2, none⟩ = some (.int .i64 a0_2) ∧ w'.cell? ⟨gb328, 3, none⟩ = some (.int .i64 a0_3) ∧ w'.cell? ⟨gb328, 4, none⟩ = some (.int .i64 a0_4) ∧ w'.cell? ⟨gb328, 5, none⟩ = some (.int .i64 a0_5) ∧ w'.cell? ⟨gb328, 6, none⟩ = some (.int .i64 a0_6) ∧ w'.cell? ⟨gb328, 7, none⟩ = some (.slice A0_7 l0_7.length c0_7)) ∧ (Kd.R (Kd.int .u8) 5 w' w.heap.size (fun _ => True) s_.1 y334) ∧ (w'.heap[gb328]? = some (.cells #[.int .i64 a0_0, .int .i64 a0_1, .int .i64 a0_2, .int .i64 a0_3, .int .i64 a0_4, .int .i64 a0_5, .int .i64 a0_6, .slice A0_7 l0_7.length c0_7] 34 (0, 0))) ∧ (w'.heap[s_.2]? = some (.cells #[.int .i64 0, .string (⟨#[]⟩ : ByteArray), .slice none 0 0, .slice none 0 0, .string (⟨#[]⟩ : ByteArray), .string (⟨#[]⟩ : ByteArray)] 28 (0, 0))) ∧ (w.heap.size ≤ s_.2) ∧ (w.heap.size ≤ s_.2) ∧ (gb328 ≠ s_.2) ∧ (s_.2 ≠ gb328) ∧ (Below w.heap.size w w')) ?_ ?_
         rotate_left
         ·intro hCont
          refine two_ (i := 2) (j := 5) (Ni := some 42) (Nj := some 5) #[true, true, true, false, false, false, false] #[true, true, false, false, false, true, false] rfl rfl rfl rfl (by kernel_rfl) (by decide) (by decide) (fun K hK => ?_) (fun K hK => ?_)
          ·skip
           refine Kd.R_make_step (Kd.int .u8) _ 5 (by rfl) (N := 42) rfl 38 _ _ rfl 32 rfl rfl Tryz.underlying38 (.int .u8 0) 1 info5 rfl (by decide) (by omega) 0 (ok := fun _ => True) (okp := fun _ => True) rfl (fun _ hk => hk) trivial (by omega) (by omega) (Below.refl _ _) (Nat.le_refl _) ?_
           intro v335 w25 ho26 hb hg_ hnew_
           clear hg_ hnew_
           ((simp only [Int.reduceToNat] at ho26; rw [← Ny334.out] at ho26))
           have n0_ := Sd.mk (Kd.R_lower ho26 (below_size (by repeat ((with_reducible (exact HB.out))))))
           have n1_ := Sd.mk (blk_below (g := gb328) (o := .cells #[.int .i64 a0_0, .int .i64 a0_1, .int .i64 a0_2, .int .i64 a0_3, .int .i64 a0_4, .int .i64 a0_5, .int .i64 a0_6, .slice A0_7 l0_7.length c0_7] 34 (0, 0)) (by (with_reducible repeat (fail)); exact BK328.out) hb)
           have n2_ := Sd.mk (below_step (by repeat ((with_reducible (exact HB.out)))) hb)
           clear BK328
           clear HB
           have HO336 := n0_
           have BK328 := n1_
           have HB := n2_
           clear n0_ n1_ n2_
           clear hb ho26
           refine hK.out _ _ (bc8 BK328.out) (fun hHeld => ?_)
           clear hK K
           refine norm_ (a' := ?_) ?_ ?_
           rotate_left
           ·show Act.put _ (some 42) _ = _
            simp only [Act.put, List.setIfInBounds_toArray, List.set_cons_zero, List.set_cons_succ, i64_w, i32_w]
            rfl
           refine two_ (i := 3) (j := 5) (Ni := some 43) (Nj := some 5) #[true, true, true, true, false, false, false] #[true, true, true, false, false, true, false] rfl rfl rfl rfl (by kernel_rfl) (by decide) (by decide) (fun K hK => ?_) (fun K hK => ?_)
           ·skip
            have hcv27 := own_string (P := Tryz.prog) Tryz.underlying38 Tryz.underlying5 Tryz.underlying9 (Kd.own_of_R HO336.out)
            refine value_ (w1 := ?_) (v := ?_) (by rfl) rfl ?_ ?_
            rotate_left 2
            ·go_simp
             constructor
             ·rfl
             ·rfl
            clear hcv27
            refine hK.out _ _ (bc8 BK328.out) (fun hHeld => ?_)
            clear hK K
            refine norm_ (a' := ?_) ?_ ?_
            rotate_left
            ·show Act.put _ (some 43) _ = _
             simp only [Act.put, List.setIfInBounds_toArray, List.set_cons_zero, List.set_cons_succ, i64_w, i32_w]
             rfl
            refine pu_ 4 44 #[true, true, true, true, true, false, false] (by kernel_rfl) ?_
            refine one_ (i := 5) (N := some 5) #[true, true, true, true, true, true, false] rfl rfl (by kernel_rfl) (by decide) (fun K hK => ?_)
            refine box_step ?hg (N := 5) ?hd (cs := #[.int .i64 0, .string (⟨#[]⟩ : ByteArray), .slice none 0 0, .slice none 0 0, .string (⟨#[]⟩ : ByteArray), .string (⟨#[]⟩ : ByteArray)]) (t := 28) ?hr ?_; (case hd => rfl); (case hg => rfl); (case hr => (go_simp; done))
            intro gb337 hg w28 hbox hb
            have n0_ := Sd.mk (Kd.R_below (by (with_reducible repeat (fail)); exact HO336.out) hb)
            have n1_ := Sd.mk (blk_below (g := gb328) (o := .cells #[.int .i64 a0_0, .int .i64 a0_1, .int .i64 a0_2, .int .i64 a0_3, .int .i64 a0_4, .int .i64 a0_5, .int .i64 a0_6, .slice A0_7 l0_7.length c0_7] 34 (0, 0)) (by (with_reducible repeat (fail)); exact BK328.out) hb)
            have n2_ := Sd.mk (below_step (by repeat ((with_reducible (exact HB.out)))) hb)
            have n3_ := Sd.mk (hbox)
            have n4_ := Sd.mk ((by rw [hg]; exact (below_size (by repeat ((with_reducible (exact HB.out))))) : w.heap.size ≤ gb337))
            have n5_ := Sd.mk ((by rw [hg]; exact (below_size (by repeat ((with_reducible (exact HB.out))))) : w.heap.size ≤ gb337))
            have n6_ := Sd.mk ((by rw [hg]; exact Nat.ne_of_lt (blk_lt (g := gb328) (o := .cells #[.int .i64 a0_0, .int .i64 a0_1, .int .i64 a0_2, .int .i64 a0_3, .int .i64 a0_4, .int .i64 a0_5, .int .i64 a0_6, .slice A0_7 l0_7.length c0_7] 34 (0, 0)) (by (with_reducible repeat (fail)); exact BK328.out)) : gb328 ≠ gb337))
            have n7_ := Sd.mk ((by rw [hg]; exact Nat.ne_of_gt (blk_lt (g := gb328) (o := .cells #[.int .i64 a0_0, .int .i64 a0_1, .int .i64 a0_2, .int .i64 a0_3, .int .i64 a0_4, .int .i64 a0_5, .int .i64 a0_6, .slice A0_7 l0_7.length c0_7] 34 (0, 0)) (by (with_reducible repeat (fail)); exact BK328.out)) : gb337 ≠ gb328))
            clear HO336
            clear BK328
            clear HB
            have HO336 := n0_
            have BK328 := n1_
            have HB := n2_
            have BK337 := n3_
            have GW337 := n4_
            have GE337 := n5_
            have NB328_337 := n6_
            have NB337_328 := n7_
            clear n0_ n1_ n2_ n3_ n4_ n5_ n6_ n7_
            clear hb hbox hg
            refine hK.out _ _ (bc8 BK328.out) (fun hHeld => ?_)
            clear hK K
            refine norm_ (a' := ?_) ?_ ?_
            rotate_left
            ·show Act.put _ (some 5) _ = _
             simp only [Act.put, List.setIfInBounds_toArray, List.set_cons_zero, List.set_cons_succ, i64_w, i32_w]
             rfl
            exact norm_ (by simp only [putAll, Act.put, List.setIfInBounds_toArray, List.set_cons_zero, List.set_cons_succ]) (hCont (v335, gb337) _ ⟨hHeld, (by (with_reducible repeat (fail)); exact HO336.out), (by (with_reducible repeat (fail)); exact BK328.out), (by (with_reducible repeat (fail)); exact BK337.out), GW337.out, GE337.out, NB328_337.out, NB337_328.out, (by repeat ((with_reducible (exact HB.out))))⟩)
           ·skip
            refine box_step ?hg (N := 5) ?hd (cs := #[.int .i64 0, .string (⟨#[]⟩ : ByteArray), .slice none 0 0, .slice none 0 0, .string (⟨#[]⟩ : ByteArray), .string (⟨#[]⟩ : ByteArray)]) (t := 28) ?hr ?_; (case hd => rfl); (case hg => rfl); (case hr => (go_simp; done))
            intro gb337 hg w27 hbox hb
            have n0_ := Sd.mk (Kd.R_below (by (with_reducible repeat (fail)); exact HO336.out) hb)
            have n1_ := Sd.mk (blk_below (g := gb328) (o := .cells #[.int .i64 a0_0, .int .i64 a0_1, .int .i64 a0_2, .int .i64 a0_3, .int .i64 a0_4, .int .i64 a0_5, .int .i64 a0_6, .slice A0_7 l0_7.length c0_7] 34 (0, 0)) (by (with_reducible repeat (fail)); exact BK328.out) hb)
            have n2_ := Sd.mk (below_step (by repeat ((with_reducible (exact HB.out)))) hb)
            have n3_ := Sd.mk (hbox)
            have n4_ := Sd.mk ((by rw [hg]; exact (below_size (by repeat ((with_reducible (exact HB.out))))) : w.heap.size ≤ gb337))
            have n5_ := Sd.mk ((by rw [hg]; exact (below_size (by repeat ((with_reducible (exact HB.out))))) : w.heap.size ≤ gb337))
            have n6_ := Sd.mk ((by rw [hg]; exact Nat.ne_of_lt (blk_lt (g := gb328) (o := .cells #[.int .i64 a0_0, .int .i64 a0_1, .int .i64 a0_2, .int .i64 a0_3, .int .i64 a0_4, .int .i64 a0_5, .int .i64 a0_6, .slice A0_7 l0_7.length c0_7] 34 (0, 0)) (by (with_reducible repeat (fail)); exact BK328.out)) : gb328 ≠ gb337))
            have n7_ := Sd.mk ((by rw [hg]; exact Nat.ne_of_gt (blk_lt (g := gb328) (o := .cells #[.int .i64 a0_0, .int .i64 a0_1, .int .i64 a0_2, .int .i64 a0_3, .int .i64 a0_4, .int .i64 a0_5, .int .i64 a0_6, .slice A0_7 l0_7.length c0_7] 34 (0, 0)) (by (with_reducible repeat (fail)); exact BK328.out)) : gb337 ≠ gb328))
            clear HO336
            clear BK328
            clear HB
            have HO336 := n0_
            have BK328 := n1_
            have HB := n2_
            have BK337 := n3_
            have GW337 := n4_
            have GE337 := n5_
            have NB328_337 := n6_
            have NB337_328 := n7_
            clear n0_ n1_ n2_ n3_ n4_ n5_ n6_ n7_
            clear hb hbox hg
            refine hK.out _ _ (bc8 BK328.out) (fun hHeld => ?_)
            clear hK K
            refine norm_ (a' := ?_) ?_ ?_
            rotate_left
            ·show Act.put _ (some 5) _ = _
             simp only [Act.put, List.setIfInBounds_toArray, List.set_cons_zero, List.set_cons_succ, i64_w, i32_w]
             rfl
            refine one_ (i := 3) (N := some 43) #[true, true, true, true, false, true, false] rfl rfl (by kernel_rfl) (by decide) (fun K hK => ?_)
            have hcv28 := own_string (P := Tryz.prog) Tryz.underlying38 Tryz.underlying5 Tryz.underlying9 (Kd.own_of_R HO336.out)
            refine value_ (w1 := ?_) (v := ?_) (by rfl) rfl ?_ ?_
            rotate_left 2
            ·go_simp
             constructor
             ·rfl
             ·rfl
            clear hcv28
            refine hK.out _ _ (bc8 BK328.out) (fun hHeld => ?_)
            clear hK K
            refine norm_ (a' := ?_) ?_ ?_
            rotate_left
            ·show Act.put _ (some 43) _ = _
             simp only [Act.put, List.setIfInBounds_toArray, List.set_cons_zero, List.set_cons_succ, i64_w, i32_w]
             rfl
            refine pu_ 4 44 #[true, true, true, true, true, true, false] (by kernel_rfl) ?_
            exact norm_ (by simp only [putAll, Act.put, List.setIfInBounds_toArray, List.set_cons_zero, List.set_cons_succ]) (hCont (v335, gb337) _ ⟨hHeld, (by (with_reducible repeat (fail)); exact HO336.out), (by (with_reducible repeat (fail)); exact BK328.out), (by (with_reducible repeat (fail)); exact BK337.out), GW337.out, GE337.out, NB328_337.out, NB337_328.out, (by repeat ((with_reducible (exact HB.out))))⟩)
          ·skip
           refine box_step ?hg (N := 5) ?hd (cs := #[.int .i64 0, .string (⟨#[]⟩ : ByteArray), .slice none 0 0, .slice none 0 0, .string (⟨#[]⟩ : ByteArray), .string (⟨#[]⟩ : ByteArray)]) (t := 28) ?hr ?_; (case hd => rfl); (case hg => rfl); (case hr => (go_simp; done))
           intro gb337 hg w25 hbox hb
           have n0_ := Sd.mk (blk_below (g := gb328) (o := .cells #[.int .i64 a0_0, .int .i64 a0_1, .int .i64 a0_2, .int .i64 a0_3, .int .i64 a0_4, .int .i64 a0_5, .int .i64 a0_6, .slice A0_7 l0_7.length c0_7] 34 (0, 0)) (by (with_reducible repeat (fail)); exact BK328.out) hb)
           have n1_ := Sd.mk (below_step (by repeat ((with_reducible (exact HB.out)))) hb)
           have n2_ := Sd.mk (hbox)
           have n3_ := Sd.mk ((by rw [hg]; exact (below_size (by repeat ((with_reducible (exact HB.out))))) : w.heap.size ≤ gb337))
           have n4_ := Sd.mk ((by rw [hg]; exact (below_size (by repeat ((with_reducible (exact HB.out))))) : w.heap.size ≤ gb337))
           have n5_ := Sd.mk ((by rw [hg]; exact Nat.ne_of_lt (blk_lt (g := gb328) (o := .cells #[.int .i64 a0_0, .int .i64 a0_1, .int .i64 a0_2, .int .i64 a0_3, .int .i64 a0_4, .int .i64 a0_5, .int .i64 a0_6, .slice A0_7 l0_7.length c0_7] 34 (0, 0)) (by (with_reducible repeat (fail)); exact BK328.out)) : gb328 ≠ gb337))
           have n6_ := Sd.mk ((by rw [hg]; exact Nat.ne_of_gt (blk_lt (g := gb328) (o := .cells #[.int .i64 a0_0, .int .i64 a0_1, .int .i64 a0_2, .int .i64 a0_3, .int .i64 a0_4, .int .i64 a0_5, .int .i64 a0_6, .slice A0_7 l0_7.length c0_7] 34 (0, 0)) (by (with_reducible repeat (fail)); exact BK328.out)) : gb337 ≠ gb328))
           clear BK328
           clear HB
           have BK328 := n0_
           have HB := n1_
           have BK337 := n2_
           have GW337 := n3_
           have GE337 := n4_
           have NB328_337 := n5_
           have NB337_328 := n6_
           clear n0_ n1_ n2_ n3_ n4_ n5_ n6_
           clear hb hbox hg
           refine hK.out _ _ (bc8 BK328.out) (fun hHeld => ?_)
           clear hK K
           refine norm_ (a' := ?_) ?_ ?_
           rotate_left
           ·show Act.put _ (some 5) _ = _
            simp only [Act.put, List.setIfInBounds_toArray, List.set_cons_zero, List.set_cons_succ, i64_w, i32_w]
            rfl
           refine one_ (i := 2) (N := some 42) #[true, true, true, false, false, true, false] rfl rfl (by kernel_rfl) (by decide) (fun K hK => ?_)
           refine Kd.R_make_step (Kd.int .u8) _ 5 (by rfl) (N := 42) rfl 38 _ _ rfl 32 rfl rfl Tryz.underlying38 (.int .u8 0) 1 info5 rfl (by decide) (by omega) 0 (ok := fun _ => True) (okp := fun _ => True) rfl (fun _ hk => hk) trivial (by omega) (by omega) (Below.refl _ _) (Nat.le_refl _) ?_
           intro v335 w26 ho27 hb hg_ hnew_
           clear hg_ hnew_
           ((simp only [Int.reduceToNat] at ho27; rw [← Ny334.out] at ho27))
           have n0_ := Sd.mk (Kd.R_lower ho27 (below_size (by repeat ((with_reducible (exact HB.out))))))
           have n1_ := Sd.mk (blk_below (g := gb328) (o := .cells #[.int .i64 a0_0, .int .i64 a0_1, .int .i64 a0_2, .int .i64 a0_3, .int .i64 a0_4, .int .i64 a0_5, .int .i64 a0_6, .slice A0_7 l0_7.length c0_7] 34 (0, 0)) (by (with_reducible repeat (fail)); exact BK328.out) hb)
           have n2_ := Sd.mk (blk_below (g := gb337) (o := .cells #[.int .i64 0, .string (⟨#[]⟩ : ByteArray), .slice none 0 0, .slice none 0 0, .string (⟨#[]⟩ : ByteArray), .string (⟨#[]⟩ : ByteArray)] 28 (0, 0)) (by (with_reducible repeat (fail)); exact BK337.out) hb)
           have n3_ := Sd.mk (below_step (by repeat ((with_reducible (exact HB.out)))) hb)
           clear BK328
           clear BK337
           clear HB
           have HO336 := n0_
           have BK328 := n1_
           have BK337 := n2_
           have HB := n3_
           clear n0_ n1_ n2_ n3_
           clear hb ho27
           refine hK.out _ _ (bc8 BK328.out) (fun hHeld => ?_)
           clear hK K
           refine norm_ (a' := ?_) ?_ ?_
           rotate_left
           ·show Act.put _ (some 42) _ = _
            simp only [Act.put, List.setIfInBounds_toArray, List.set_cons_zero, List.set_cons_succ, i64_w, i32_w]
            rfl
           refine one_ (i := 3) (N := some 43) #[true, true, true, true, false, true, false] rfl rfl (by kernel_rfl) (by decide) (fun K hK => ?_)
           have hcv28 := own_string (P := Tryz.prog) Tryz.underlying38 Tryz.underlying5 Tryz.underlying9 (Kd.own_of_R HO336.out)
           refine value_ (w1 := ?_) (v := ?_) (by rfl) rfl ?_ ?_
           rotate_left 2
           ·go_simp
            constructor
            ·rfl
            ·rfl
           clear hcv28
           refine hK.out _ _ (bc8 BK328.out) (fun hHeld => ?_)
           clear hK K
           refine norm_ (a' := ?_) ?_ ?_
           rotate_left
           ·show Act.put _ (some 43) _ = _
            simp only [Act.put, List.setIfInBounds_toArray, List.set_cons_zero, List.set_cons_succ, i64_w, i32_w]
            rfl
           refine pu_ 4 44 #[true, true, true, true, true, true, false] (by kernel_rfl) ?_
           exact norm_ (by simp only [putAll, Act.put, List.setIfInBounds_toArray, List.set_cons_zero, List.set_cons_succ]) (hCont (v335, gb337) _ ⟨hHeld, (by (with_reducible repeat (fail)); exact HO336.out), (by (with_reducible repeat (fail)); exact BK328.out), (by (with_reducible repeat (fail)); exact BK337.out), GW337.out, GE337.out, NB328_337.out, NB337_328.out, (by repeat ((with_reducible (exact HB.out))))⟩)
         rintro ⟨v335, gb337⟩ w29 ⟨hS_, h0_, h1_, h2_, h3_, h4_, h5_, h6_, h7_⟩
         have n0_ : Sd (Kd.R (Kd.int .u8) 5 w29 w.heap.size (fun _ => True) v335 y334) := ⟨h0_⟩
         have n1_ : Sd (w29.heap[gb328]? = some (.cells #[.int .i64 a0_0, .int .i64 a0_1, .int .i64 a0_2, .int .i64 a0_3, .int .i64 a0_4, .int .i64 a0_5, .int .i64 a0_6, .slice A0_7 l0_7.length c0_7] 34 (0, 0))) := ⟨h1_⟩
         have n2_ : Sd (w29.heap[gb337]? = some (.cells #[.int .i64 0, .string (⟨#[]⟩ : ByteArray), .slice none 0 0, .slice none 0 0, .string (⟨#[]⟩ : ByteArray), .string (⟨#[]⟩ : ByteArray)] 28 (0, 0))) := ⟨h2_⟩
         have n3_ : Sd (w.heap.size ≤ gb337) := ⟨h3_⟩
         have n4_ : Sd (w.heap.size ≤ gb337) := ⟨h4_⟩
         have n5_ : Sd (gb328 ≠ gb337) := ⟨h5_⟩
         have n6_ : Sd (gb337 ≠ gb328) := ⟨h6_⟩
         have n7_ : Sd (Below w.heap.size w w29) := ⟨h7_⟩
         clear BK328
         clear HB
         clear h0_ h1_ h2_ h3_ h4_ h5_ h6_ h7_
         have HO336 := n0_
         have BK328 := n1_
         have BK337 := n2_
         have GW337 := n3_
         have GE337 := n4_
         have NB328_337 := n5_
         have NB337_328 := n6_
         have HB := n7_
         clear n0_ n1_ n2_ n3_ n4_ n5_ n6_ n7_
         have hHeld : w29.cell? ⟨gb328, 0, none⟩ = some (.int .i64 a0_0) ∧ w29.cell? ⟨gb328, 1, none⟩ = some (.int .i64 a0_1) ∧ w29.cell? ⟨gb328, 2, none⟩ = some (.int .i64 a0_2) ∧ w29.cell? ⟨gb328, 3, none⟩ = some (.int .i64 a0_3) ∧ w29.cell? ⟨gb328, 4, none⟩ = some (.int .i64 a0_4) ∧ w29.cell? ⟨gb328, 5, none⟩ = some (.int .i64 a0_5) ∧ w29.cell? ⟨gb328, 6, none⟩ = some (.int .i64 a0_6) ∧ w29.cell? ⟨gb328, 7, none⟩ = some (.slice A0_7 l0_7.length c0_7) := hS_
         refine norm_ (a' := ?_) ?_ ?_
         rotate_left
         ·simp only [putAll, Act.put, List.setIfInBounds_toArray, List.set_cons_zero, List.set_cons_succ]
          rfl
         refine one_ (i := 6) (N := none) #[true, true, true, true, true, true, true] rfl rfl (by kernel_rfl) (by decide) (fun K hK => ?_)
         have hs30 : w29.cell? ⟨gb337, 0, none⟩ = some (.int .i64 0) := (blk_cell BK337.out 0).trans rfl
         have hfs30 := blk_frozen BK337.out 0
         have hns30_0 := NB328_337.out
         have hms30_0 := NB337_328.out
         have hs31 : w29.cell? ⟨gb337, 1, none⟩ = some (.string (⟨#[]⟩ : ByteArray)) := (blk_cell BK337.out 1).trans rfl
         have hfs31 := blk_frozen BK337.out 1
         have hns31_0 := NB328_337.out
         have hms31_0 := NB337_328.out
         have hs32 : w29.cell? ⟨gb337, 2, none⟩ = some (.slice none 0 0) := (blk_cell BK337.out 2).trans rfl
         have hfs32 := blk_frozen BK337.out 2
         have hns32_0 := NB328_337.out
         have hms32_0 := NB337_328.out
         have hs33 : w29.cell? ⟨gb337, 3, none⟩ = some (.slice none 0 0) := (blk_cell BK337.out 3).trans rfl
         have hfs33 := blk_frozen BK337.out 3
         have hns33_0 := NB328_337.out
         have hms33_0 := NB337_328.out
         have hs34 : w29.cell? ⟨gb337, 4, none⟩ = some (.string (⟨#[]⟩ : ByteArray)) := (blk_cell BK337.out 4).trans rfl
         have hfs34 := blk_frozen BK337.out 4
         have hns34_0 := NB328_337.out
         have hms34_0 := NB337_328.out
         have hs35 : w29.cell? ⟨gb337, 5, none⟩ = some (.string (⟨#[]⟩ : ByteArray)) := (blk_cell BK337.out 5).trans rfl
         have hfs35 := blk_frozen BK337.out 5
         have hns35_0 := NB328_337.out
         have hms35_0 := NB337_328.out
         refine skip_ (w1 := ?_) (by rfl) rfl ?_ ?_
         rotate_left
         ·go_simp
          rfl
         refine hK.out _ _ ⟨((cell_far (p := ⟨gb337, _, none⟩) NB328_337.out _).trans (((cell_far (p := ⟨gb337, _, none⟩) NB328_337.out _).trans (((cell_far (p := ⟨gb337, _, none⟩) NB328_337.out _).trans (((cell_far (p := ⟨gb337, _, none⟩) NB328_337.out _).trans (((cell_far (p := ⟨gb337, _, none⟩) NB328_337.out _).trans (((cell_far (p := ⟨gb337, _, none⟩) NB328_337.out _).trans (hHeld.1)))))))))))), ((cell_far (p := ⟨gb337, _, none⟩) NB328_337.out _).trans (((cell_far (p := ⟨gb337, _, none⟩) NB328_337.out _).trans (((cell_far (p := ⟨gb337, _, none⟩) NB328_337.out _).trans (((cell_far (p := ⟨gb337, _, none⟩) NB328_337.out _).trans (((cell_far (p := ⟨gb337, _, none⟩) NB328_337.out _).trans (((cell_far (p := ⟨gb337, _, none⟩) NB328_337.out _).trans (hHeld.2.1)))))))))))), ((cell_far (p := ⟨gb337, _, none⟩) NB328_337.out _).trans (((cell_far (p := ⟨gb337, _, none⟩) NB328_337.out _).trans (((cell_far (p := ⟨gb337, _, none⟩) NB328_337.out _).trans (((cell_far (p := ⟨gb337, _, none⟩) NB328_337.out _).trans (((cell_far (p := ⟨gb337, _, none⟩) NB328_337.out _).trans (((cell_far (p := ⟨gb337, _, none⟩) NB328_337.out _).trans (hHeld.2.2.1)))))))))))), ((cell_far (p := ⟨gb337, _, none⟩) NB328_337.out _).trans (((cell_far (p := ⟨gb337, _, none⟩) NB328_337.out _).trans (((cell_far (p := ⟨gb337, _, none⟩) NB328_337.out _).trans (((cell_far (p := ⟨gb337, _, none⟩) NB328_337.out _).trans (((cell_far (p := ⟨gb337, _, none⟩) NB328_337.out _).trans (((cell_far (p := ⟨gb337, _, none⟩) NB328_337.out _).trans (hHeld.2.2.2.1)))))))))))), ((cell_far (p := ⟨gb337, _, none⟩) NB328_337.out _).trans (((cell_far (p := ⟨gb337, _, none⟩) NB328_337.out _).trans (((cell_far (p := ⟨gb337, _, none⟩) NB328_337.out _).trans (((cell_far (p := ⟨gb337, _, none⟩) NB328_337.out _).trans (((cell_far (p := ⟨gb337, _, none⟩) NB328_337.out _).trans (((cell_far (p := ⟨gb337, _, none⟩) NB328_337.out _).trans (hHeld.2.2.2.2.1)))))))))))), ((cell_far (p := ⟨gb337, _, none⟩) NB328_337.out _).trans (((cell_far (p := ⟨gb337, _, none⟩) NB328_337.out _).trans (((cell_far (p := ⟨gb337, _, none⟩) NB328_337.out _).trans (((cell_far (p := ⟨gb337, _, none⟩) NB328_337.out _).trans (((cell_far (p := ⟨gb337, _, none⟩) NB328_337.out _).trans (((cell_far (p := ⟨gb337, _, none⟩) NB328_337.out _).trans (hHeld.2.2.2.2.2.1)))))))))))), ((cell_far (p := ⟨gb337, _, none⟩) NB328_337.out _).trans (((cell_far (p := ⟨gb337, _, none⟩) NB328_337.out _).trans (((cell_far (p := ⟨gb337, _, none⟩) NB328_337.out _).trans (((cell_far (p := ⟨gb337, _, none⟩) NB328_337.out _).trans (((cell_far (p := ⟨gb337, _, none⟩) NB328_337.out _).trans (((cell_far (p := ⟨gb337, _, none⟩) NB328_337.out _).trans (hHeld.2.2.2.2.2.2.1)))))))))))), ((cell_far (p := ⟨gb337, _, none⟩) NB328_337.out _).trans (((cell_far (p := ⟨gb337, _, none⟩) NB328_337.out _).trans (((cell_far (p := ⟨gb337, _, none⟩) NB328_337.out _).trans (((cell_far (p := ⟨gb337, _, none⟩) NB328_337.out _).trans (((cell_far (p := ⟨gb337, _, none⟩) NB328_337.out _).trans (((cell_far (p := ⟨gb337, _, none⟩) NB328_337.out _).trans (hHeld.2.2.2.2.2.2.2))))))))))))⟩ (fun hHeld => ?_)
         clear hK K
         refine done_ (by kernel_rfl) ?_
         have hnb36 := NB337_328.out
         have hnc36 := NB328_337.out
         obtain ⟨hcz37_0, hcz37_1, hcz37_2, hcz37_3, hcz37_4, hcz37_5⟩ := bc6 BK337.out
         obtain ⟨hfz37_0, hfz37_1, hfz37_2, hfz37_3, hfz37_4, hfz37_5⟩ := bf6 BK337.out
         try go_wp2_with (((with_reducible refine gate_callee (f := 27) rfl ?_); refine goesL_ (some 46) rfl rfl Tryz.func27 (by kernel_rfl) rfl #[.agg #[.int .i64 0, .string (⟨#[104]⟩ : ByteArray), .slice none 0 0, .slice A0_7 l0_7.length c0_7, .string (strOfNums y334), .string (⟨#[]⟩ : ByteArray)]] rfl (by (try simp only [List.map_toArray, List.map_cons, List.map_nil]); (rfl)) ?_; (refine (r20_Check.calls kj12 0 (⟨#[104]⟩ : ByteArray) _ _ ([] : List ByteArray) _ _ l0_7 (strOfNums y334) (⟨#[]⟩ : ByteArray) t338 _ ?side1 ?side2 ?side3 ?side4 A22.out).mono ?_); (case side1 => exact Kd.C_nil _ _); (case side2 => exact Nat.le_refl _); (case side3 => exact Kd.C_below HR0_7.out (by repeat ((with_reducible first | exact HB.out | refine below_set ?_ GE337.out)))); (case side4 => exact HC0_7.out); rintro e w38 ⟨rfl, hb⟩; refine ⟨_, rfl, ?_⟩; have n0_ := Sd.mk (Kd.R_below (by (with_reducible repeat (fail)); exact (Kd.R_mono (Kd.R_far (p := ⟨gb337, 5, none⟩) (Kd.R_far (p := ⟨gb337, 4, none⟩) (Kd.R_far (p := ⟨gb337, 3, none⟩) (Kd.R_far (p := ⟨gb337, 2, none⟩) (Kd.R_far (p := ⟨gb337, 1, none⟩) (Kd.R_far (p := ⟨gb337, 0, none⟩) (Kd.R_types HO336.out BK337.out (by decide)) (fun _ hk => hk.2) (.int .i64 0)) (fun _ hk => hk.2) (.string (⟨#[104]⟩ : ByteArray))) (fun _ hk => hk.2) (.slice none 0 0)) (fun _ hk => hk.2) (.slice A0_7 l0_7.length c0_7)) (fun _ hk => hk.2) (.string (strOfNums y334))) (fun _ hk => hk.2) (.string (⟨#[]⟩ : ByteArray))) (fun _ h_ => h_.1))) hb); have n1_ := Sd.mk (blk_below (g := gb328) (o := .cells #[.int .i64 a0_0, .int .i64 a0_1, .int .i64 a0_2, .int .i64 a0_3, .int .i64 a0_4, .int .i64 a0_5, .int .i64 a0_6, .slice A0_7 l0_7.length c0_7] 34 (0, 0)) (by (with_reducible repeat (fail)); refine blk_far ?_ NB328_337.out _; (with_reducible repeat (fail)); refine blk_far ?_ NB328_337.out _; (with_reducible repeat (fail)); refine blk_far ?_ NB328_337.out _; (with_reducible repeat (fail)); refine blk_far ?_ NB328_337.out _; (with_reducible repeat (fail)); refine blk_far ?_ NB328_337.out _; (with_reducible repeat (fail)); refine blk_far ?_ NB328_337.out _; (with_reducible repeat (fail)); exact BK328.out) hb); have n2_ := Sd.mk (blk_below (g := gb337) (o := .cells #[.int .i64 0, .string (⟨#[104]⟩ : ByteArray), .slice none 0 0, .slice A0_7 l0_7.length c0_7, .string (strOfNums y334), .string (⟨#[]⟩ : ByteArray)] 28 (0, 0)) (by (with_reducible repeat (fail)); refine blk_put (cs := #[.int .i64 0, .string (⟨#[104]⟩ : ByteArray), .slice none 0 0, .slice A0_7 l0_7.length c0_7, .string (strOfNums y334), .string (⟨#[]⟩ : ByteArray)]) ?_ 5 _ rfl; (with_reducible repeat (fail)); refine blk_put (cs := #[.int .i64 0, .string (⟨#[104]⟩ : ByteArray), .slice none 0 0, .slice A0_7 l0_7.length c0_7, .string (⟨#[]⟩ : ByteArray), .string (⟨#[]⟩ : ByteArray)]) ?_ 4 _ rfl; (with_reducible repeat (fail)); refine blk_put (cs := #[.int .i64 0, .string (⟨#[104]⟩ : ByteArray), .slice none 0 0, .slice none 0 0, .string (⟨#[]⟩ : ByteArray), .string (⟨#[]⟩ : ByteArray)]) ?_ 3 _ rfl; (with_reducible repeat (fail)); refine blk_put (cs := #[.int .i64 0, .string (⟨#[104]⟩ : ByteArray), .slice none 0 0, .slice none 0 0, .string (⟨#[]⟩ : ByteArray), .string (⟨#[]⟩ : ByteArray)]) ?_ 2 _ rfl; (with_reducible repeat (fail)); refine blk_put (cs := #[.int .i64 0, .string (⟨#[]⟩ : ByteArray), .slice none 0 0, .slice none 0 0, .string (⟨#[]⟩ : ByteArray), .string (⟨#[]⟩ : ByteArray)]) ?_ 1 _ rfl; (with_reducible repeat (fail)); refine blk_put (cs := #[.int .i64 0, .string (⟨#[]⟩ : ByteArray), .slice none 0 0, .slice none 0 0, .string (⟨#[]⟩ : ByteArray), .string (⟨#[]⟩ : ByteArray)]) ?_ 0 _ rfl; (with_reducible repeat (fail)); exact BK337.out) hb); have n3_ := Sd.mk (below_step (by repeat ((with_reducible first | exact HB.out | refine below_set ?_ GE337.out))) hb); clear HO336; clear BK328; clear BK337; clear HB; have HO336 := n0_; have BK328 := n1_; have BK337 := n2_; have HB := n3_; clear n0_ n1_ n2_ n3_; (try clear hb); (try clear hb2); (try clear hk); (try clear hi)))
         go_ret
         exact ⟨by (rfl), by repeat ((with_reducible (exact HB.out)))⟩
        ·rw [if_neg c23] at H
         have c23b0 : (t338 == 0) = false := beq_eq_false_iff_ne.mpr c23
         have c23b1 : (t338 != 0) = true := bne_iff_ne.mpr c23
         obtain rfl := Option.some.inj H
         try go_wp2
         have n0_ := Sd.mk (blk_drew BK328.out)
         have n1_ := Sd.mk (below_drew1 HB.out)
         clear BK328
         clear HB
         have BK328 := n0_
         have HB := n1_
         clear n0_ n1_
         refine start_ (n := 7) (S := fun w' => w'.cell? ⟨gb328, 0, none⟩ = some (.int .i64 a0_0) ∧ w'.cell? ⟨gb328, 1, none⟩ = some (.int .i64 a0_1) ∧ w'.cell? ⟨gb328, 2, none⟩ = some (.int .i64 a0_2) ∧ w'.cell? ⟨gb328, 3, none⟩ = some (.int .i64 a0_3) ∧ w'.cell? ⟨gb328, 4, none⟩ = some (.int .i64 a0_4) ∧ w'.cell? ⟨gb328, 5, none⟩ = some (.int .i64 a0_5) ∧ w'.cell? ⟨gb328, 6, none⟩ = some (.int .i64 a0_6) ∧ w'.cell? ⟨gb328, 7, none⟩ = some (.slice A0_7 l0_7.length c0_7)) (ds := []) #[false, false, false, false, false, false, false] (by kernel_rfl) rfl rfl (bc8 BK328.out) (fun hHeld => ?_)
         generalize wc.drew = w39 at BK328 HB hHeld ⊢
         refine pu_ 0 40 #[true, false, false, false, false, false, false] (by kernel_rfl) ?_
         refine ta_ 1 41 #[true, true, false, false, false, false, false] (by kernel_rfl) hHeld ?_
         refine join_ (σ := Value × Nat) 1 #[true, true, true, true, true, true, false] (fun s_ => [(42, s_.1), (43, .string (strOfNums y334)), (5, .pointer (some ⟨s_.2, 0, none⟩)), (44, .agg #[.int .i64 0, .string (⟨#[104]⟩ : ByteArray), .slice none 0 0, .slice A0_7 l0_7.length c0_7, .string (strOfNums y334), .string (⟨#[]⟩ : ByteArray)])]) (fun s_ w' => (w'.cell? ⟨gb328, 0, none⟩ = some (.int .i64 a0_0) ∧ w'.cell? ⟨gb328, 1, none⟩ = some (.int .i64 a0_1) ∧ w'.cell? ⟨gb328, 2, none⟩ = some (.int .i64 a0_2) ∧ w'.cell? ⟨gb328, 3, none⟩ = some (.int .i64 a0_3) ∧ w'.cell? ⟨gb328, 4, none⟩ = some (.int .i64 a0_4) ∧ w'.cell? ⟨gb328, 5, none⟩ = some (.int .i64 a0_5) ∧ w'.cell? ⟨gb328, 6, none⟩ = some (.int .i64 a0_6) ∧ w'.cell? ⟨gb328, 7, none⟩ = some (.slice A0_7 l0_7.length c0_7)) ∧ (Kd.R (Kd.int .u8) 5 w' w.heap.size (fun _ => True) s_.1 y334) ∧ (w'.heap[gb328]? = some (.cells #[.int .i64 a0_0, .int .i64 a0_1, .int .i64 a0_2, .int .i64 a0_3, .int .i64 a0_4, .int .i64 a0_5, .int .i64 a0_6, .slice A0_7 l0_7.length c0_7] 34 (0, 0))) ∧ (w'.heap[s_.2]? = some (.cells #[.int .i64 0, .string (⟨#[]⟩ : ByteArray), .slice none 0 0, .slice none 0 0, .string (⟨#[]⟩ : ByteArray), .string (⟨#[]⟩ : ByteArray)] 28 (0, 0))) ∧ (w.heap.size ≤ s_.2) ∧ (w.heap.size ≤ s_.2) ∧ (gb328 ≠ s_.2) ∧ (s_.2 ≠ gb328) ∧ (Below w.heap.size w w')) ?_ ?_
         rotate_left
         ·intro hCont
          refine two_ (i := 2) (j := 5) (Ni := some 42) (Nj := some 5) #[true, true, true, false, false, false, false] #[true, true, false, false, false, true, false] rfl rfl rfl rfl (by kernel_rfl) (by decide) (by decide) (fun K hK => ?_) (fun K hK => ?_)
          ·skip
           refine Kd.R_make_step (Kd.int .u8) _ 5 (by rfl) (N := 42) rfl 38 _ _ rfl 32 rfl rfl Tryz.underlying38 (.int .u8 0) 1 info5 rfl (by decide) (by omega) 0 (ok := fun _ => True) (okp := fun _ => True) rfl (fun _ hk => hk) trivial (by omega) (by omega) (Below.refl _ _) (Nat.le_refl _) ?_
           intro v335 w40 ho41 hb hg_ hnew_
           clear hg_ hnew_
           ((simp only [Int.reduceToNat] at ho41; rw [← Ny334.out] at ho41))
           have n0_ := Sd.mk (Kd.R_lower ho41 (below_size (by repeat ((with_reducible (exact HB.out))))))
           have n1_ := Sd.mk (blk_below (g := gb328) (o := .cells #[.int .i64 a0_0, .int .i64 a0_1, .int .i64 a0_2, .int .i64 a0_3, .int .i64 a0_4, .int .i64 a0_5, .int .i64 a0_6, .slice A0_7 l0_7.length c0_7] 34 (0, 0)) (by (with_reducible repeat (fail)); exact BK328.out) hb)
           have n2_ := Sd.mk (below_step (by repeat ((with_reducible (exact HB.out)))) hb)
           clear BK328
           clear HB
           have HO336 := n0_
           have BK328 := n1_
           have HB := n2_
           clear n0_ n1_ n2_
           clear hb ho41
           refine hK.out _ _ (bc8 BK328.out) (fun hHeld => ?_)
           clear hK K
           refine norm_ (a' := ?_) ?_ ?_
           rotate_left
           ·show Act.put _ (some 42) _ = _
            simp only [Act.put, List.setIfInBounds_toArray, List.set_cons_zero, List.set_cons_succ, i64_w, i32_w]
            rfl
           refine two_ (i := 3) (j := 5) (Ni := some 43) (Nj := some 5) #[true, true, true, true, false, false, false] #[true, true, true, false, false, true, false] rfl rfl rfl rfl (by kernel_rfl) (by decide) (by decide) (fun K hK => ?_) (fun K hK => ?_)
           ·skip
            have hcv42 := own_string (P := Tryz.prog) Tryz.underlying38 Tryz.underlying5 Tryz.underlying9 (Kd.own_of_R HO336.out)
            refine value_ (w1 := ?_) (v := ?_) (by rfl) rfl ?_ ?_
            rotate_left 2
            ·go_simp
             constructor
             ·rfl
             ·rfl
            clear hcv42
            refine hK.out _ _ (bc8 BK328.out) (fun hHeld => ?_)
            clear hK K
            refine norm_ (a' := ?_) ?_ ?_
            rotate_left
            ·show Act.put _ (some 43) _ = _
             simp only [Act.put, List.setIfInBounds_toArray, List.set_cons_zero, List.set_cons_succ, i64_w, i32_w]
             rfl
            refine pu_ 4 44 #[true, true, true, true, true, false, false] (by kernel_rfl) ?_
            refine one_ (i := 5) (N := some 5) #[true, true, true, true, true, true, false] rfl rfl (by kernel_rfl) (by decide) (fun K hK => ?_)
            refine box_step ?hg (N := 5) ?hd (cs := #[.int .i64 0, .string (⟨#[]⟩ : ByteArray), .slice none 0 0, .slice none 0 0, .string (⟨#[]⟩ : ByteArray), .string (⟨#[]⟩ : ByteArray)]) (t := 28) ?hr ?_; (case hd => rfl); (case hg => rfl); (case hr => (go_simp; done))
            intro gb337 hg w43 hbox hb
            have n0_ := Sd.mk (Kd.R_below (by (with_reducible repeat (fail)); exact HO336.out) hb)
            have n1_ := Sd.mk (blk_below (g := gb328) (o := .cells #[.int .i64 a0_0, .int .i64 a0_1, .int .i64 a0_2, .int .i64 a0_3, .int .i64 a0_4, .int .i64 a0_5, .int .i64 a0_6, .slice A0_7 l0_7.length c0_7] 34 (0, 0)) (by (with_reducible repeat (fail)); exact BK328.out) hb)
            have n2_ := Sd.mk (below_step (by repeat ((with_reducible (exact HB.out)))) hb)
            have n3_ := Sd.mk (hbox)
            have n4_ := Sd.mk ((by rw [hg]; exact (below_size (by repeat ((with_reducible (exact HB.out))))) : w.heap.size ≤ gb337))
            have n5_ := Sd.mk ((by rw [hg]; exact (below_size (by repeat ((with_reducible (exact HB.out))))) : w.heap.size ≤ gb337))
            have n6_ := Sd.mk ((by rw [hg]; exact Nat.ne_of_lt (blk_lt (g := gb328) (o := .cells #[.int .i64 a0_0, .int .i64 a0_1, .int .i64 a0_2, .int .i64 a0_3, .int .i64 a0_4, .int .i64 a0_5, .int .i64 a0_6, .slice A0_7 l0_7.length c0_7] 34 (0, 0)) (by (with_reducible repeat (fail)); exact BK328.out)) : gb328 ≠ gb337))
            have n7_ := Sd.mk ((by rw [hg]; exact Nat.ne_of_gt (blk_lt (g := gb328) (o := .cells #[.int .i64 a0_0, .int .i64 a0_1, .int .i64 a0_2, .int .i64 a0_3, .int .i64 a0_4, .int .i64 a0_5, .int .i64 a0_6, .slice A0_7 l0_7.length c0_7] 34 (0, 0)) (by (with_reducible repeat (fail)); exact BK328.out)) : gb337 ≠ gb328))
            clear HO336
            clear BK328
            clear HB
            have HO336 := n0_
            have BK328 := n1_
            have HB := n2_
            have BK337 := n3_
            have GW337 := n4_
            have GE337 := n5_
            have NB328_337 := n6_
            have NB337_328 := n7_
            clear n0_ n1_ n2_ n3_ n4_ n5_ n6_ n7_
            clear hb hbox hg
            refine hK.out _ _ (bc8 BK328.out) (fun hHeld => ?_)
            clear hK K
            refine norm_ (a' := ?_) ?_ ?_
            rotate_left
            ·show Act.put _ (some 5) _ = _
             simp only [Act.put, List.setIfInBounds_toArray, List.set_cons_zero, List.set_cons_succ, i64_w, i32_w]
             rfl
            exact norm_ (by simp only [putAll, Act.put, List.setIfInBounds_toArray, List.set_cons_zero, List.set_cons_succ]) (hCont (v335, gb337) _ ⟨hHeld, (by (with_reducible repeat (fail)); exact HO336.out), (by (with_reducible repeat (fail)); exact BK328.out), (by (with_reducible repeat (fail)); exact BK337.out), GW337.out, GE337.out, NB328_337.out, NB337_328.out, (by repeat ((with_reducible (exact HB.out))))⟩)
           ·skip
            refine box_step ?hg (N := 5) ?hd (cs := #[.int .i64 0, .string (⟨#[]⟩ : ByteArray), .slice none 0 0, .slice none 0 0, .string (⟨#[]⟩ : ByteArray), .string (⟨#[]⟩ : ByteArray)]) (t := 28) ?hr ?_; (case hd => rfl); (case hg => rfl); (case hr => (go_simp; done))
            intro gb337 hg w42 hbox hb
            have n0_ := Sd.mk (Kd.R_below (by (with_reducible repeat (fail)); exact HO336.out) hb)
            have n1_ := Sd.mk (blk_below (g := gb328) (o := .cells #[.int .i64 a0_0, .int .i64 a0_1, .int .i64 a0_2, .int .i64 a0_3, .int .i64 a0_4, .int .i64 a0_5, .int .i64 a0_6, .slice A0_7 l0_7.length c0_7] 34 (0, 0)) (by (with_reducible repeat (fail)); exact BK328.out) hb)
            have n2_ := Sd.mk (below_step (by repeat ((with_reducible (exact HB.out)))) hb)
            have n3_ := Sd.mk (hbox)
            have n4_ := Sd.mk ((by rw [hg]; exact (below_size (by repeat ((with_reducible (exact HB.out))))) : w.heap.size ≤ gb337))
            have n5_ := Sd.mk ((by rw [hg]; exact (below_size (by repeat ((with_reducible (exact HB.out))))) : w.heap.size ≤ gb337))
            have n6_ := Sd.mk ((by rw [hg]; exact Nat.ne_of_lt (blk_lt (g := gb328) (o := .cells #[.int .i64 a0_0, .int .i64 a0_1, .int .i64 a0_2, .int .i64 a0_3, .int .i64 a0_4, .int .i64 a0_5, .int .i64 a0_6, .slice A0_7 l0_7.length c0_7] 34 (0, 0)) (by (with_reducible repeat (fail)); exact BK328.out)) : gb328 ≠ gb337))
            have n7_ := Sd.mk ((by rw [hg]; exact Nat.ne_of_gt (blk_lt (g := gb328) (o := .cells #[.int .i64 a0_0, .int .i64 a0_1, .int .i64 a0_2, .int .i64 a0_3, .int .i64 a0_4, .int .i64 a0_5, .int .i64 a0_6, .slice A0_7 l0_7.length c0_7] 34 (0, 0)) (by (with_reducible repeat (fail)); exact BK328.out)) : gb337 ≠ gb328))
            clear HO336
            clear BK328
            clear HB
            have HO336 := n0_
            have BK328 := n1_
            have HB := n2_
            have BK337 := n3_
            have GW337 := n4_
            have GE337 := n5_
            have NB328_337 := n6_
            have NB337_328 := n7_
            clear n0_ n1_ n2_ n3_ n4_ n5_ n6_ n7_
            clear hb hbox hg
            refine hK.out _ _ (bc8 BK328.out) (fun hHeld => ?_)
            clear hK K
            refine norm_ (a' := ?_) ?_ ?_
            rotate_left
            ·show Act.put _ (some 5) _ = _
             simp only [Act.put, List.setIfInBounds_toArray, List.set_cons_zero, List.set_cons_succ, i64_w, i32_w]
             rfl
            refine one_ (i := 3) (N := some 43) #[true, true, true, true, false, true, false] rfl rfl (by kernel_rfl) (by decide) (fun K hK => ?_)
            have hcv43 := own_string (P := Tryz.prog) Tryz.underlying38 Tryz.underlying5 Tryz.underlying9 (Kd.own_of_R HO336.out)
            refine value_ (w1 := ?_) (v := ?_) (by rfl) rfl ?_ ?_
            rotate_left 2
            ·go_simp
             constructor
             ·rfl
             ·rfl
            clear hcv43
            refine hK.out _ _ (bc8 BK328.out) (fun hHeld => ?_)
            clear hK K
            refine norm_ (a' := ?_) ?_ ?_
            rotate_left
            ·show Act.put _ (some 43) _ = _
             simp only [Act.put, List.setIfInBounds_toArray, List.set_cons_zero, List.set_cons_succ, i64_w, i32_w]
             rfl
            refine pu_ 4 44 #[true, true, true, true, true, true, false] (by kernel_rfl) ?_
            exact norm_ (by simp only [putAll, Act.put, List.setIfInBounds_toArray, List.set_cons_zero, List.set_cons_succ]) (hCont (v335, gb337) _ ⟨hHeld, (by (with_reducible repeat (fail)); exact HO336.out), (by (with_reducible repeat (fail)); exact BK328.out), (by (with_reducible repeat (fail)); exact BK337.out), GW337.out, GE337.out, NB328_337.out, NB337_328.out, (by repeat ((with_reducible (exact HB.out))))⟩)
          ·skip
           refine box_step ?hg (N := 5) ?hd (cs := #[.int .i64 0, .string (⟨#[]⟩ : ByteArray), .slice none 0 0, .slice none 0 0, .string (⟨#[]⟩ : ByteArray), .string (⟨#[]⟩ : ByteArray)]) (t := 28) ?hr ?_; (case hd => rfl); (case hg => rfl); (case hr => (go_simp; done))
           intro gb337 hg w40 hbox hb
           have n0_ := Sd.mk (blk_below (g := gb328) (o := .cells #[.int .i64 a0_0, .int .i64 a0_1, .int .i64 a0_2, .int .i64 a0_3, .int .i64 a0_4, .int .i64 a0_5, .int .i64 a0_6, .slice A0_7 l0_7.length c0_7] 34 (0, 0)) (by (with_reducible repeat (fail)); exact BK328.out) hb)
           have n1_ := Sd.mk (below_step (by repeat ((with_reducible (exact HB.out)))) hb)
           have n2_ := Sd.mk (hbox)
           have n3_ := Sd.mk ((by rw [hg]; exact (below_size (by repeat ((with_reducible (exact HB.out))))) : w.heap.size ≤ gb337))
           have n4_ := Sd.mk ((by rw [hg]; exact (below_size (by repeat ((with_reducible (exact HB.out))))) : w.heap.size ≤ gb337))
           have n5_ := Sd.mk ((by rw [hg]; exact Nat.ne_of_lt (blk_lt (g := gb328) (o := .cells #[.int .i64 a0_0, .int .i64 a0_1, .int .i64 a0_2, .int .i64 a0_3, .int .i64 a0_4, .int .i64 a0_5, .int .i64 a0_6, .slice A0_7 l0_7.length c0_7] 34 (0, 0)) (by (with_reducible repeat (fail)); exact BK328.out)) : gb328 ≠ gb337))
           have n6_ := Sd.mk ((by rw [hg]; exact Nat.ne_of_gt (blk_lt (g := gb328) (o := .cells #[.int .i64 a0_0, .int .i64 a0_1, .int .i64 a0_2, .int .i64 a0_3, .int .i64 a0_4, .int .i64 a0_5, .int .i64 a0_6, .slice A0_7 l0_7.length c0_7] 34 (0, 0)) (by (with_reducible repeat (fail)); exact BK328.out)) : gb337 ≠ gb328))
           clear BK328
           clear HB
           have BK328 := n0_
           have HB := n1_
           have BK337 := n2_
           have GW337 := n3_
           have GE337 := n4_
           have NB328_337 := n5_
           have NB337_328 := n6_
           clear n0_ n1_ n2_ n3_ n4_ n5_ n6_
           clear hb hbox hg
           refine hK.out _ _ (bc8 BK328.out) (fun hHeld => ?_)
           clear hK K
           refine norm_ (a' := ?_) ?_ ?_
           rotate_left
           ·show Act.put _ (some 5) _ = _
            simp only [Act.put, List.setIfInBounds_toArray, List.set_cons_zero, List.set_cons_succ, i64_w, i32_w]
            rfl
           refine one_ (i := 2) (N := some 42) #[true, true, true, false, false, true, false] rfl rfl (by kernel_rfl) (by decide) (fun K hK => ?_)
           refine Kd.R_make_step (Kd.int .u8) _ 5 (by rfl) (N := 42) rfl 38 _ _ rfl 32 rfl rfl Tryz.underlying38 (.int .u8 0) 1 info5 rfl (by decide) (by omega) 0 (ok := fun _ => True) (okp := fun _ => True) rfl (fun _ hk => hk) trivial (by omega) (by omega) (Below.refl _ _) (Nat.le_refl _) ?_
           intro v335 w41 ho42 hb hg_ hnew_
           clear hg_ hnew_
           ((simp only [Int.reduceToNat] at ho42; rw [← Ny334.out] at ho42))
           have n0_ := Sd.mk (Kd.R_lower ho42 (below_size (by repeat ((with_reducible (exact HB.out))))))
           have n1_ := Sd.mk (blk_below (g := gb328) (o := .cells #[.int .i64 a0_0, .int .i64 a0_1, .int .i64 a0_2, .int .i64 a0_3, .int .i64 a0_4, .int .i64 a0_5, .int .i64 a0_6, .slice A0_7 l0_7.length c0_7] 34 (0, 0)) (by (with_reducible repeat (fail)); exact BK328.out) hb)
           have n2_ := Sd.mk (blk_below (g := gb337) (o := .cells #[.int .i64 0, .string (⟨#[]⟩ : ByteArray), .slice none 0 0, .slice none 0 0, .string (⟨#[]⟩ : ByteArray), .string (⟨#[]⟩ : ByteArray)] 28 (0, 0)) (by (with_reducible repeat (fail)); exact BK337.out) hb)
           have n3_ := Sd.mk (below_step (by repeat ((with_reducible (exact HB.out)))) hb)
           clear BK328
           clear BK337
           clear HB
           have HO336 := n0_
           have BK328 := n1_
           have BK337 := n2_
           have HB := n3_
           clear n0_ n1_ n2_ n3_
           clear hb ho42
           refine hK.out _ _ (bc8 BK328.out) (fun hHeld => ?_)
           clear hK K
           refine norm_ (a' := ?_) ?_ ?_
           rotate_left
           ·show Act.put _ (some 42) _ = _
            simp only [Act.put, List.setIfInBounds_toArray, List.set_cons_zero, List.set_cons_succ, i64_w, i32_w]
            rfl
           refine one_ (i := 3) (N := some 43) #[true, true, true, true, false, true, false] rfl rfl (by kernel_rfl) (by decide) (fun K hK => ?_)
           have hcv43 := own_string (P := Tryz.prog) Tryz.underlying38 Tryz.underlying5 Tryz.underlying9 (Kd.own_of_R HO336.out)
           refine value_ (w1 := ?_) (v := ?_) (by rfl) rfl ?_ ?_
           rotate_left 2
           ·go_simp
            constructor
            ·rfl
            ·rfl
           clear hcv43
           refine hK.out _ _ (bc8 BK328.out) (fun hHeld => ?_)
           clear hK K
           refine norm_ (a' := ?_) ?_ ?_
           rotate_left
           ·show Act.put _ (some 43) _ = _
            simp only [Act.put, List.setIfInBounds_toArray, List.set_cons_zero, List.set_cons_succ, i64_w, i32_w]
            rfl
           refine pu_ 4 44 #[true, true, true, true, true, true, false] (by kernel_rfl) ?_
           exact norm_ (by simp only [putAll, Act.put, List.setIfInBounds_toArray, List.set_cons_zero, List.set_cons_succ]) (hCont (v335, gb337) _ ⟨hHeld, (by (with_reducible repeat (fail)); exact HO336.out), (by (with_reducible repeat (fail)); exact BK328.out), (by (with_reducible repeat (fail)); exact BK337.out), GW337.out, GE337.out, NB328_337.out, NB337_328.out, (by repeat ((with_reducible (exact HB.out))))⟩)
         rintro ⟨v335, gb337⟩ w44 ⟨hS_, h0_, h1_, h2_, h3_, h4_, h5_, h6_, h7_⟩
         have n0_ : Sd (Kd.R (Kd.int .u8) 5 w44 w.heap.size (fun _ => True) v335 y334) := ⟨h0_⟩
         have n1_ : Sd (w44.heap[gb328]? = some (.cells #[.int .i64 a0_0, .int .i64 a0_1, .int .i64 a0_2, .int .i64 a0_3, .int .i64 a0_4, .int .i64 a0_5, .int .i64 a0_6, .slice A0_7 l0_7.length c0_7] 34 (0, 0))) := ⟨h1_⟩
         have n2_ : Sd (w44.heap[gb337]? = some (.cells #[.int .i64 0, .string (⟨#[]⟩ : ByteArray), .slice none 0 0, .slice none 0 0, .string (⟨#[]⟩ : ByteArray), .string (⟨#[]⟩ : ByteArray)] 28 (0, 0))) := ⟨h2_⟩
         have n3_ : Sd (w.heap.size ≤ gb337) := ⟨h3_⟩
         have n4_ : Sd (w.heap.size ≤ gb337) := ⟨h4_⟩
         have n5_ : Sd (gb328 ≠ gb337) := ⟨h5_⟩
         have n6_ : Sd (gb337 ≠ gb328) := ⟨h6_⟩
         have n7_ : Sd (Below w.heap.size w w44) := ⟨h7_⟩
         clear BK328
         clear HB
         clear h0_ h1_ h2_ h3_ h4_ h5_ h6_ h7_
         have HO336 := n0_
         have BK328 := n1_
         have BK337 := n2_
         have GW337 := n3_
         have GE337 := n4_
         have NB328_337 := n5_
         have NB337_328 := n6_
         have HB := n7_
         clear n0_ n1_ n2_ n3_ n4_ n5_ n6_ n7_
         have hHeld : w44.cell? ⟨gb328, 0, none⟩ = some (.int .i64 a0_0) ∧ w44.cell? ⟨gb328, 1, none⟩ = some (.int .i64 a0_1) ∧ w44.cell? ⟨gb328, 2, none⟩ = some (.int .i64 a0_2) ∧ w44.cell? ⟨gb328, 3, none⟩ = some (.int .i64 a0_3) ∧ w44.cell? ⟨gb328, 4, none⟩ = some (.int .i64 a0_4) ∧ w44.cell? ⟨gb328, 5, none⟩ = some (.int .i64 a0_5) ∧ w44.cell? ⟨gb328, 6, none⟩ = some (.int .i64 a0_6) ∧ w44.cell? ⟨gb328, 7, none⟩ = some (.slice A0_7 l0_7.length c0_7) := hS_
         refine norm_ (a' := ?_) ?_ ?_
         rotate_left
         ·simp only [putAll, Act.put, List.setIfInBounds_toArray, List.set_cons_zero, List.set_cons_succ]
          rfl
         refine one_ (i := 6) (N := none) #[true, true, true, true, true, true, true] rfl rfl (by kernel_rfl) (by decide) (fun K hK => ?_)
         have hs45 : w44.cell? ⟨gb337, 0, none⟩ = some (.int .i64 0) := (blk_cell BK337.out 0).trans rfl
         have hfs45 := blk_frozen BK337.out 0
         have hns45_0 := NB328_337.out
         have hms45_0 := NB337_328.out
         have hs46 : w44.cell? ⟨gb337, 1, none⟩ = some (.string (⟨#[]⟩ : ByteArray)) := (blk_cell BK337.out 1).trans rfl
         have hfs46 := blk_frozen BK337.out 1
         have hns46_0 := NB328_337.out
         have hms46_0 := NB337_328.out
         have hs47 : w44.cell? ⟨gb337, 2, none⟩ = some (.slice none 0 0) := (blk_cell BK337.out 2).trans rfl
         have hfs47 := blk_frozen BK337.out 2
         have hns47_0 := NB328_337.out
         have hms47_0 := NB337_328.out
         have hs48 : w44.cell? ⟨gb337, 3, none⟩ = some (.slice none 0 0) := (blk_cell BK337.out 3).trans rfl
         have hfs48 := blk_frozen BK337.out 3
         have hns48_0 := NB328_337.out
         have hms48_0 := NB337_328.out
         have hs49 : w44.cell? ⟨gb337, 4, none⟩ = some (.string (⟨#[]⟩ : ByteArray)) := (blk_cell BK337.out 4).trans rfl
         have hfs49 := blk_frozen BK337.out 4
         have hns49_0 := NB328_337.out
         have hms49_0 := NB337_328.out
         have hs50 : w44.cell? ⟨gb337, 5, none⟩ = some (.string (⟨#[]⟩ : ByteArray)) := (blk_cell BK337.out 5).trans rfl
         have hfs50 := blk_frozen BK337.out 5
         have hns50_0 := NB328_337.out
         have hms50_0 := NB337_328.out
         refine skip_ (w1 := ?_) (by rfl) rfl ?_ ?_
         rotate_left
         ·go_simp
          rfl
         refine hK.out _ _ ⟨((cell_far (p := ⟨gb337, _, none⟩) NB328_337.out _).trans (((cell_far (p := ⟨gb337, _, none⟩) NB328_337.out _).trans (((cell_far (p := ⟨gb337, _, none⟩) NB328_337.out _).trans (((cell_far (p := ⟨gb337, _, none⟩) NB328_337.out _).trans (((cell_far (p := ⟨gb337, _, none⟩) NB328_337.out _).trans (((cell_far (p := ⟨gb337, _, none⟩) NB328_337.out _).trans (hHeld.1)))))))))))), ((cell_far (p := ⟨gb337, _, none⟩) NB328_337.out _).trans (((cell_far (p := ⟨gb337, _, none⟩) NB328_337.out _).trans (((cell_far (p := ⟨gb337, _, none⟩) NB328_337.out _).trans (((cell_far (p := ⟨gb337, _, none⟩) NB328_337.out _).trans (((cell_far (p := ⟨gb337, _, none⟩) NB328_337.out _).trans (((cell_far (p := ⟨gb337, _, none⟩) NB328_337.out _).trans (hHeld.2.1)))))))))))), ((cell_far (p := ⟨gb337, _, none⟩) NB328_337.out _).trans (((cell_far (p := ⟨gb337, _, none⟩) NB328_337.out _).trans (((cell_far (p := ⟨gb337, _, none⟩) NB328_337.out _).trans (((cell_far (p := ⟨gb337, _, none⟩) NB328_337.out _).trans (((cell_far (p := ⟨gb337, _, none⟩) NB328_337.out _).trans (((cell_far (p := ⟨gb337, _, none⟩) NB328_337.out _).trans (hHeld.2.2.1)))))))))))), ((cell_far (p := ⟨gb337, _, none⟩) NB328_337.out _).trans (((cell_far (p := ⟨gb337, _, none⟩) NB328_337.out _).trans (((cell_far (p := ⟨gb337, _, none⟩) NB328_337.out _).trans (((cell_far (p := ⟨gb337, _, none⟩) NB328_337.out _).trans (((cell_far (p := ⟨gb337, _, none⟩) NB328_337.out _).trans (((cell_far (p := ⟨gb337, _, none⟩) NB328_337.out _).trans (hHeld.2.2.2.1)))))))))))), ((cell_far (p := ⟨gb337, _, none⟩) NB328_337.out _).trans (((cell_far (p := ⟨gb337, _, none⟩) NB328_337.out _).trans (((cell_far (p := ⟨gb337, _, none⟩) NB328_337.out _).trans (((cell_far (p := ⟨gb337, _, none⟩) NB328_337.out _).trans (((cell_far (p := ⟨gb337, _, none⟩) NB328_337.out _).trans (((cell_far (p := ⟨gb337, _, none⟩) NB328_337.out _).trans (hHeld.2.2.2.2.1)))))))))))), ((cell_far (p := ⟨gb337, _, none⟩) NB328_337.out _).trans (((cell_far (p := ⟨gb337, _, none⟩) NB328_337.out _).trans (((cell_far (p := ⟨gb337, _, none⟩) NB328_337.out _).trans (((cell_far (p := ⟨gb337, _, none⟩) NB328_337.out _).trans (((cell_far (p := ⟨gb337, _, none⟩) NB328_337.out _).trans (((cell_far (p := ⟨gb337, _, none⟩) NB328_337.out _).trans (hHeld.2.2.2.2.2.1)))))))))))), ((cell_far (p := ⟨gb337, _, none⟩) NB328_337.out _).trans (((cell_far (p := ⟨gb337, _, none⟩) NB328_337.out _).trans (((cell_far (p := ⟨gb337, _, none⟩) NB328_337.out _).trans (((cell_far (p := ⟨gb337, _, none⟩) NB328_337.out _).trans (((cell_far (p := ⟨gb337, _, none⟩) NB328_337.out _).trans (((cell_far (p := ⟨gb337, _, none⟩) NB328_337.out _).trans (hHeld.2.2.2.2.2.2.1)))))))))))), ((cell_far (p := ⟨gb337, _, none⟩) NB328_337.out _).trans (((cell_far (p := ⟨gb337, _, none⟩) NB328_337.out _).trans (((cell_far (p := ⟨gb337, _, none⟩) NB328_337.out _).trans (((cell_far (p := ⟨gb337, _, none⟩) NB328_337.out _).trans (((cell_far (p := ⟨gb337, _, none⟩) NB328_337.out _).trans (((cell_far (p := ⟨gb337, _, none⟩) NB328_337.out _).trans (hHeld.2.2.2.2.2.2.2))))))))))))⟩ (fun hHeld => ?_)
         clear hK K
         refine done_ (by kernel_rfl) ?_
         have hnb51 := NB337_328.out
         have hnc51 := NB328_337.out
         obtain ⟨hcz52_0, hcz52_1, hcz52_2, hcz52_3, hcz52_4, hcz52_5⟩ := bc6 BK337.out
         obtain ⟨hfz52_0, hfz52_1, hfz52_2, hfz52_3, hfz52_4, hfz52_5⟩ := bf6 BK337.out
         try go_wp2_with (((with_reducible refine gate_callee (f := 27) rfl ?_); refine goesL_ (some 46) rfl rfl Tryz.func27 (by kernel_rfl) rfl #[.agg #[.int .i64 0, .string (⟨#[104]⟩ : ByteArray), .slice none 0 0, .slice A0_7 l0_7.length c0_7, .string (strOfNums y334), .string (⟨#[]⟩ : ByteArray)]] rfl (by (try simp only [List.map_toArray, List.map_cons, List.map_nil]); (rfl)) ?_; (refine (r20_Check.calls kj12 0 (⟨#[104]⟩ : ByteArray) _ _ ([] : List ByteArray) _ _ l0_7 (strOfNums y334) (⟨#[]⟩ : ByteArray) t338 _ ?side1 ?side2 ?side3 ?side4 A22.out).mono ?_); (case side1 => exact Kd.C_nil _ _); (case side2 => exact Nat.le_refl _); (case side3 => exact Kd.C_below HR0_7.out (by repeat ((with_reducible first | exact HB.out | refine below_set ?_ GE337.out)))); (case side4 => exact HC0_7.out); rintro e w53 ⟨rfl, hb⟩; refine ⟨_, rfl, ?_⟩; have n0_ := Sd.mk (Kd.R_below (by (with_reducible repeat (fail)); exact (Kd.R_mono (Kd.R_far (p := ⟨gb337, 5, none⟩) (Kd.R_far (p := ⟨gb337, 4, none⟩) (Kd.R_far (p := ⟨gb337, 3, none⟩) (Kd.R_far (p := ⟨gb337, 2, none⟩) (Kd.R_far (p := ⟨gb337, 1, none⟩) (Kd.R_far (p := ⟨gb337, 0, none⟩) (Kd.R_types HO336.out BK337.out (by decide)) (fun _ hk => hk.2) (.int .i64 0)) (fun _ hk => hk.2) (.string (⟨#[104]⟩ : ByteArray))) (fun _ hk => hk.2) (.slice none 0 0)) (fun _ hk => hk.2) (.slice A0_7 l0_7.length c0_7)) (fun _ hk => hk.2) (.string (strOfNums y334))) (fun _ hk => hk.2) (.string (⟨#[]⟩ : ByteArray))) (fun _ h_ => h_.1))) hb); have n1_ := Sd.mk (blk_below (g := gb328) (o := .cells #[.int .i64 a0_0, .int .i64 a0_1, .int .i64 a0_2, .int .i64 a0_3, .int .i64 a0_4, .int .i64 a0_5, .int .i64 a0_6, .slice A0_7 l0_7.length c0_7] 34 (0, 0)) (by (with_reducible repeat (fail)); refine blk_far ?_ NB328_337.out _; (with_reducible repeat (fail)); refine blk_far ?_ NB328_337.out _; (with_reducible repeat (fail)); refine blk_far ?_ NB328_337.out _; (with_reducible repeat (fail)); refine blk_far ?_ NB328_337.out _; (with_reducible repeat (fail)); refine blk_far ?_ NB328_337.out _; (with_reducible repeat (fail)); refine blk_far ?_ NB328_337.out _; (with_reducible repeat (fail)); exact BK328.out) hb); have n2_ := Sd.mk (blk_below (g := gb337) (o := .cells #[.int .i64 0, .string (⟨#[104]⟩ : ByteArray), .slice none 0 0, .slice A0_7 l0_7.length c0_7, .string (strOfNums y334), .string (⟨#[]⟩ : ByteArray)] 28 (0, 0)) (by (with_reducible repeat (fail)); refine blk_put (cs := #[.int .i64 0, .string (⟨#[104]⟩ : ByteArray), .slice none 0 0, .slice A0_7 l0_7.length c0_7, .string (strOfNums y334), .string (⟨#[]⟩ : ByteArray)]) ?_ 5 _ rfl; (with_reducible repeat (fail)); refine blk_put (cs := #[.int .i64 0, .string (⟨#[104]⟩ : ByteArray), .slice none 0 0, .slice A0_7 l0_7.length c0_7, .string (⟨#[]⟩ : ByteArray), .string (⟨#[]⟩ : ByteArray)]) ?_ 4 _ rfl; (with_reducible repeat (fail)); refine blk_put (cs := #[.int .i64 0, .string (⟨#[104]⟩ : ByteArray), .slice none 0 0, .slice none 0 0, .string (⟨#[]⟩ : ByteArray), .string (⟨#[]⟩ : ByteArray)]) ?_ 3 _ rfl; (with_reducible repeat (fail)); refine blk_put (cs := #[.int .i64 0, .string (⟨#[104]⟩ : ByteArray), .slice none 0 0, .slice none 0 0, .string (⟨#[]⟩ : ByteArray), .string (⟨#[]⟩ : ByteArray)]) ?_ 2 _ rfl; (with_reducible repeat (fail)); refine blk_put (cs := #[.int .i64 0, .string (⟨#[]⟩ : ByteArray), .slice none 0 0, .slice none 0 0, .string (⟨#[]⟩ : ByteArray), .string (⟨#[]⟩ : ByteArray)]) ?_ 1 _ rfl; (with_reducible repeat (fail)); refine blk_put (cs := #[.int .i64 0, .string (⟨#[]⟩ : ByteArray), .slice none 0 0, .slice none 0 0, .string (⟨#[]⟩ : ByteArray), .string (⟨#[]⟩ : ByteArray)]) ?_ 0 _ rfl; (with_reducible repeat (fail)); exact BK337.out) hb); have n3_ := Sd.mk (below_step (by repeat ((with_reducible first | exact HB.out | refine below_set ?_ GE337.out))) hb); clear HO336; clear BK328; clear BK337; clear HB; have HO336 := n0_; have BK328 := n1_; have BK337 := n2_; have HB := n3_; clear n0_ n1_ n2_ n3_; (try clear hb); (try clear hb2); (try clear hk); (try clear hi)))
         go_ret
         exact ⟨by (rfl), by repeat ((with_reducible (exact HB.out)))⟩
       ·rw [if_neg c21] at H
        exact absurd H (by simp)
end Go.Proofs.YtpdkgpmcmebefaaGreatDoor.Q
