/- Of the proof about maint: several texts, joined. -/
import Derived.Test.YtpdkgpmcmebefaaGreatDoorMF
import Derived.Test.YtpdkgpmcmebefaaGreatDoorMA
import Derived.Deep.RegionHeld3
import Derived.Deep.DrawnRows
set_option maxHeartbeats 16000000
set_option maxRecDepth 100000
set_option linter.unusedVariables false
set_option linter.unusedSimpArgs false
namespace Go.Proofs.YtpdkgpmcmebefaaGreatDoor.Q
open Go.RowKit Go.Shelf Go.Proofs.YtpdkgpmcmebefaaGreatDoorW.PrintWords Go.Proofs.YtpdkgpmcmebefaaGreatDoorW.PrintLast Go.Proofs.YtpdkgpmcmebefaaGreatDoorW.PrintMore
attribute [local go_sem] max2_int min2_int max_two min_two max_three min_three max_four min_four
theorem drawn_below {w w' : World} (h : Drawn0 w w') : Below w.heap.size w w' := by
 obtain ⟨n, rfl⟩ := h
 exact pw_below_drewN (Below.refl _ _) _
def lessS (a b : ByteArray) : Bool := Op.bytesLess a.toList b.toList
def snapP (x : S28) : Bool := decide (0 ≤ x.f0) && (decide (x.f0 ≤ 1099511627776) && (wordP x.f1 64 && ((risesP pathP lessP x.f2 && risesP (fun s => wordP s 32) lessS x.f3) && (((x.f4.size : Int) == 32) && (x.f5.toList.isEmpty || ((x.f5.size : Int) == 32))))))
theorem snap_Check_calls (x : S28) (A2 A3 : Option Addr) (c2 c3 : Nat) (w : World) (hC2 : Kd.C Kd.string w A2 x.f2.length x.f2) (hC3 : Kd.C Kd.string w A3 x.f3.length x.f3) (h1 : (x.f1.size : Int) < 9223372036854775808) (h2 : ∀ p ∈ x.f2, p.size ≤ 300) (h3 : ∀ p ∈ x.f3, (p.size : Int) < 9223372036854775808) :
  Calls Tryz.prog 20 #[.agg #[.int .i64 x.f0, .string x.f1, .slice A2 x.f2.length c2, .slice A3 x.f3.length c3, .string x.f4, .string x.f5]] w fun e w' => e = .returned (.int .i64 (if snapP x = true then 0 else 200)) ∧ Below w.heap.size w w' := by
 have hu28 := Tryz.underlying28
 have hr2 : ∀ W, Below w.heap.size w W → Calls Tryz.prog 31 #[.slice A2 x.f2.length c2, .func (.func 32) #[] #[], .func (.func 33) #[] #[]] W fun e w' => e = .returned (.bool (risesP pathP lessP x.f2)) ∧ Below W.heap.size W w' := fun W hW =>
  snap_rises_calls A2 c2 x.f2 32 33 pathP lessP W (Kd.C_below hC2 hW) ⟨enters_of Tryz.func32 (by kernel_rfl) rfl, fun w1 _ s hs => snap_isPath_calls s (h2 s hs) w1⟩ ⟨enters_of Tryz.func33 (by kernel_rfl) rfl, fun w1 _ s hs t ht => less_any s t (h2 s hs) (h2 t ht) w1⟩
 have hcl : ∀ a b : ByteArray, cmp_Less_string.f a b = some (lessS a b) := fun a b => by
  have ea : cmp_isNaN_string.f a = some false := by unfold cmp_isNaN_string.f; simp
  unfold cmp_Less_string.f lessS
  rw [ea]; rfl
 have hr3 : ∀ W, Below w.heap.size w W → Calls Tryz.prog 31 #[.slice A3 x.f3.length c3, .func (.func 34) #[] #[], .func (.func 35) #[] #[]] W fun e w' => e = .returned (.bool (risesP (fun s => wordP s 32) lessS x.f3)) ∧ Below W.heap.size W w' := fun W hW =>
  snap_rises_calls A3 c3 x.f3 34 35 (fun s => wordP s 32) lessS W (Kd.C_below hC3 hW) ⟨enters_of Tryz.func34 (by kernel_rfl) rfl, fun w1 _ s hs => snap_isTag_calls s (h3 s hs) w1⟩ ⟨enters_of Tryz.func35 (by kernel_rfl) rfl, fun w1 _ s _ t _ => (cmp_Less_string.calls s t _ w1 (hcl s t)).mono fun e w' h => ⟨h.1, drawn_below h.2⟩⟩
 have hi4 := fun W => sha_IsId.calls x.f4 _ W rfl
 have hi5 := fun W => sha_IsId.calls x.f5 _ W rfl
 have hw1 := fun W => snap_word_calls x.f1 64 h1 W
 generalize hR : snapP x = R
 unfold snapP at hR
 generalize risesP pathP lessP x.f2 = P2 at hr2 hR
 generalize risesP (fun s => wordP s 32) lessS x.f3 = P3 at hr3 hR
 generalize ((x.f4.size : Int) == 32) = P4 at hi4 hR
 generalize ((x.f5.size : Int) == 32) = P5 at hi5 hR
 generalize wordP x.f1 64 = P1 at hw1 hR
 generalize hT1 : decide (0 ≤ x.f0) = T1 at hR
 generalize hT2 : decide (x.f0 ≤ 1099511627776) = T2 at hR
 generalize hE : x.f5.toList.isEmpty = E at hR
 have HB := Sd.mk (Below.refl w.heap.size w)
 clear h1 h2 h3 hcl hC2 hC3
 subst hR
 have hA : T1 = false ∨ (T1 = true ∧ T2 = false) ∨ (T1 = true ∧ T2 = true ∧ P1 = false) ∨ (T1 = true ∧ T2 = true ∧ P1 = true) := by cases T1 <;> cases T2 <;> cases P1 <;> simp
 have hBB : P2 = false ∨ (P2 = true ∧ P3 = false) ∨ (P2 = true ∧ P3 = true) := by cases P2 <;> cases P3 <;> simp
 have hCC : P4 = false ∨ (P4 = true ∧ E = true) ∨ (P4 = true ∧ E = false ∧ P5 = false) ∨ (P4 = true ∧ E = false ∧ P5 = true) := by cases P4 <;> cases E <;> cases P5 <;> simp
 rcases hA with rfl | ⟨rfl, rfl⟩ | ⟨rfl, rfl, rfl⟩ | ⟨rfl, rfl, rfl⟩ <;> rcases hBB with rfl | ⟨rfl, rfl⟩ | ⟨rfl, rfl⟩ <;> rcases hCC with rfl | ⟨rfl, rfl⟩ | ⟨rfl, rfl, rfl⟩ | ⟨rfl, rfl, rfl⟩
 all_goals
  go_enter Tryz.func20, Tryz.ntmps20
  go_wp2_with (first | ((with_reducible refine gate_dst (N := 1) rfl ?_); (try (refine gate_guard (by rfl) ?_; dsimp only)); refine box_event ?hg (N := 1) ?hd (cs := #[.int .i64 x.f0, .string x.f1, .slice A2 x.f2.length c2, .slice A3 x.f3.length c3, .string x.f4, .string x.f5]) (t := 28) ?hr ?_; (case hd => rfl); (case hg => rfl); (case hr => (go_simp; done)); intro g2 hg w6 hbox hb; have n0_ := Sd.mk (below_step HB.out hb); have n2_ := Sd.mk hbox; clear HB; have HB := n0_; have B2 := n2_; clear n0_ n2_; have c_0 : w6.cell? ⟨g2, 0, none⟩ = some (.int .i64 x.f0) := (blk_cell B2.out 0).trans rfl; have c_1 : w6.cell? ⟨g2, 1, none⟩ = some (.string x.f1) := (blk_cell B2.out 1).trans rfl; have c_2 : w6.cell? ⟨g2, 2, none⟩ = some (.slice A2 x.f2.length c2) := (blk_cell B2.out 2).trans rfl; have c_3 : w6.cell? ⟨g2, 3, none⟩ = some (.slice A3 x.f3.length c3) := (blk_cell B2.out 3).trans rfl; have c_4 : w6.cell? ⟨g2, 4, none⟩ = some (.string x.f4) := (blk_cell B2.out 4).trans rfl; have c_5 : w6.cell? ⟨g2, 5, none⟩ = some (.string x.f5) := (blk_cell B2.out 5).trans rfl; have f_0 := blk_frozen B2.out 0; have f_1 := blk_frozen B2.out 1; have f_2 := blk_frozen B2.out 2; have f_3 := blk_frozen B2.out 3; have f_4 := blk_frozen B2.out 4; have f_5 := blk_frozen B2.out 5; clear hb hbox hg) | ((with_reducible refine gate_callee (f := 31) rfl ?_); refine goesL_ (some 16) rfl rfl Tryz.func31 (by kernel_rfl) rfl #[.slice A2 x.f2.length c2, .func (.func 32) #[] #[], .func (.func 33) #[] #[]] rfl (by (try simp only [List.map_toArray, List.map_cons, List.map_nil]); (rfl)) ?_; (with_reducible refine (hr2 _ HB.out).mono ?_); rintro e wn ⟨rfl, hb⟩; have n0_ := Sd.mk (blk_below (g := g2) (o := .cells #[.int .i64 x.f0, .string x.f1, .slice A2 x.f2.length c2, .slice A3 x.f3.length c3, .string x.f4, .string x.f5] 28 (0, 0)) B2.out hb); have n1_ := Sd.mk (below_step HB.out hb); clear B2 HB; have B2 := n0_; have HB := n1_; clear n0_ n1_ hb; have c_0 : wn.cell? ⟨g2, 0, none⟩ = some (.int .i64 x.f0) := (blk_cell B2.out 0).trans rfl; have c_1 : wn.cell? ⟨g2, 1, none⟩ = some (.string x.f1) := (blk_cell B2.out 1).trans rfl; have c_2 : wn.cell? ⟨g2, 2, none⟩ = some (.slice A2 x.f2.length c2) := (blk_cell B2.out 2).trans rfl; have c_3 : wn.cell? ⟨g2, 3, none⟩ = some (.slice A3 x.f3.length c3) := (blk_cell B2.out 3).trans rfl; have c_4 : wn.cell? ⟨g2, 4, none⟩ = some (.string x.f4) := (blk_cell B2.out 4).trans rfl; have c_5 : wn.cell? ⟨g2, 5, none⟩ = some (.string x.f5) := (blk_cell B2.out 5).trans rfl; have f_0 := blk_frozen B2.out 0; have f_1 := blk_frozen B2.out 1; have f_2 := blk_frozen B2.out 2; have f_3 := blk_frozen B2.out 3; have f_4 := blk_frozen B2.out 4; have f_5 := blk_frozen B2.out 5; refine ⟨_, rfl, ?_⟩) | (go_at_call 31; (with_reducible refine (hr3 _ HB.out).mono ?_); rintro e wn ⟨rfl, hb⟩; have n0_ := Sd.mk (blk_below (g := g2) (o := .cells #[.int .i64 x.f0, .string x.f1, .slice A2 x.f2.length c2, .slice A3 x.f3.length c3, .string x.f4, .string x.f5] 28 (0, 0)) B2.out hb); have n1_ := Sd.mk (below_step HB.out hb); clear B2 HB; have B2 := n0_; have HB := n1_; clear n0_ n1_ hb; have c_0 : wn.cell? ⟨g2, 0, none⟩ = some (.int .i64 x.f0) := (blk_cell B2.out 0).trans rfl; have c_1 : wn.cell? ⟨g2, 1, none⟩ = some (.string x.f1) := (blk_cell B2.out 1).trans rfl; have c_2 : wn.cell? ⟨g2, 2, none⟩ = some (.slice A2 x.f2.length c2) := (blk_cell B2.out 2).trans rfl; have c_3 : wn.cell? ⟨g2, 3, none⟩ = some (.slice A3 x.f3.length c3) := (blk_cell B2.out 3).trans rfl; have c_4 : wn.cell? ⟨g2, 4, none⟩ = some (.string x.f4) := (blk_cell B2.out 4).trans rfl; have c_5 : wn.cell? ⟨g2, 5, none⟩ = some (.string x.f5) := (blk_cell B2.out 5).trans rfl; have f_0 := blk_frozen B2.out 0; have f_1 := blk_frozen B2.out 1; have f_2 := blk_frozen B2.out 2; have f_3 := blk_frozen B2.out 3; have f_4 := blk_frozen B2.out 4; have f_5 := blk_frozen B2.out 5) | ((with_reducible refine gate_callee (f := 36) rfl ?_); refine goesL_ (some 24) rfl rfl Tryz.func36 (by kernel_rfl) rfl #[.string x.f4] rfl (by (try simp only [List.map_toArray, List.map_cons, List.map_nil]); (rfl)) ?_; (with_reducible refine (hi4 _).mono ?_); rintro e wn ⟨rfl, hd⟩; have hb := drawn_below hd; clear hd; have n0_ := Sd.mk (blk_below (g := g2) (o := .cells #[.int .i64 x.f0, .string x.f1, .slice A2 x.f2.length c2, .slice A3 x.f3.length c3, .string x.f4, .string x.f5] 28 (0, 0)) B2.out hb); have n1_ := Sd.mk (below_step HB.out hb); clear B2 HB; have B2 := n0_; have HB := n1_; clear n0_ n1_ hb; have c_0 : wn.cell? ⟨g2, 0, none⟩ = some (.int .i64 x.f0) := (blk_cell B2.out 0).trans rfl; have c_1 : wn.cell? ⟨g2, 1, none⟩ = some (.string x.f1) := (blk_cell B2.out 1).trans rfl; have c_2 : wn.cell? ⟨g2, 2, none⟩ = some (.slice A2 x.f2.length c2) := (blk_cell B2.out 2).trans rfl; have c_3 : wn.cell? ⟨g2, 3, none⟩ = some (.slice A3 x.f3.length c3) := (blk_cell B2.out 3).trans rfl; have c_4 : wn.cell? ⟨g2, 4, none⟩ = some (.string x.f4) := (blk_cell B2.out 4).trans rfl; have c_5 : wn.cell? ⟨g2, 5, none⟩ = some (.string x.f5) := (blk_cell B2.out 5).trans rfl; have f_0 := blk_frozen B2.out 0; have f_1 := blk_frozen B2.out 1; have f_2 := blk_frozen B2.out 2; have f_3 := blk_frozen B2.out 3; have f_4 := blk_frozen B2.out 4; have f_5 := blk_frozen B2.out 5; refine ⟨_, rfl, ?_⟩) | (go_at_call 36; (with_reducible refine (hi5 _).mono ?_); rintro e wn ⟨rfl, hd⟩; have hb := drawn_below hd; clear hd; have n0_ := Sd.mk (blk_below (g := g2) (o := .cells #[.int .i64 x.f0, .string x.f1, .slice A2 x.f2.length c2, .slice A3 x.f3.length c3, .string x.f4, .string x.f5] 28 (0, 0)) B2.out hb); have n1_ := Sd.mk (below_step HB.out hb); clear B2 HB; have B2 := n0_; have HB := n1_; clear n0_ n1_ hb; have c_0 : wn.cell? ⟨g2, 0, none⟩ = some (.int .i64 x.f0) := (blk_cell B2.out 0).trans rfl; have c_1 : wn.cell? ⟨g2, 1, none⟩ = some (.string x.f1) := (blk_cell B2.out 1).trans rfl; have c_2 : wn.cell? ⟨g2, 2, none⟩ = some (.slice A2 x.f2.length c2) := (blk_cell B2.out 2).trans rfl; have c_3 : wn.cell? ⟨g2, 3, none⟩ = some (.slice A3 x.f3.length c3) := (blk_cell B2.out 3).trans rfl; have c_4 : wn.cell? ⟨g2, 4, none⟩ = some (.string x.f4) := (blk_cell B2.out 4).trans rfl; have c_5 : wn.cell? ⟨g2, 5, none⟩ = some (.string x.f5) := (blk_cell B2.out 5).trans rfl; have f_0 := blk_frozen B2.out 0; have f_1 := blk_frozen B2.out 1; have f_2 := blk_frozen B2.out 2; have f_3 := blk_frozen B2.out 3; have f_4 := blk_frozen B2.out 4; have f_5 := blk_frozen B2.out 5) | (go_at_call 37; (with_reducible refine (hw1 _).mono ?_); rintro e wn ⟨rfl, hb⟩; have n0_ := Sd.mk (blk_below (g := g2) (o := .cells #[.int .i64 x.f0, .string x.f1, .slice A2 x.f2.length c2, .slice A3 x.f3.length c3, .string x.f4, .string x.f5] 28 (0, 0)) B2.out hb); have n1_ := Sd.mk (below_step HB.out hb); clear B2 HB; have B2 := n0_; have HB := n1_; clear n0_ n1_ hb; have c_0 : wn.cell? ⟨g2, 0, none⟩ = some (.int .i64 x.f0) := (blk_cell B2.out 0).trans rfl; have c_1 : wn.cell? ⟨g2, 1, none⟩ = some (.string x.f1) := (blk_cell B2.out 1).trans rfl; have c_2 : wn.cell? ⟨g2, 2, none⟩ = some (.slice A2 x.f2.length c2) := (blk_cell B2.out 2).trans rfl; have c_3 : wn.cell? ⟨g2, 3, none⟩ = some (.slice A3 x.f3.length c3) := (blk_cell B2.out 3).trans rfl; have c_4 : wn.cell? ⟨g2, 4, none⟩ = some (.string x.f4) := (blk_cell B2.out 4).trans rfl; have c_5 : wn.cell? ⟨g2, 5, none⟩ = some (.string x.f5) := (blk_cell B2.out 5).trans rfl; have f_0 := blk_frozen B2.out 0; have f_1 := blk_frozen B2.out 1; have f_2 := blk_frozen B2.out 2; have f_3 := blk_frozen B2.out 3; have f_4 := blk_frozen B2.out 4; have f_5 := blk_frozen B2.out 5))
  go_ret
  exact ⟨by (rfl), HB.out⟩
end Go.Proofs.YtpdkgpmcmebefaaGreatDoor.Q
namespace Go.Proofs.YtpdkgpmcmebefaaGreatDoor.Q
open Go.RowKit Go.Proofs.YtpdkgpmcmebefaaGreatDoorW.PrintWords Go.Proofs.YtpdkgpmcmebefaaGreatDoorW.PrintLast Go.Proofs.YtpdkgpmcmebefaaGreatDoorW.PrintMore
attribute [local go_sem] max2_int min2_int max_two min_two max_three min_three max_four min_four
def cmpI (a b : Int) : Int := if a < b then -1 else if b < a then 1 else 0
theorem isNaN_int (a : Int) (w : World) : Calls Tryz.prog 135 #[.int .i64 a] w fun e w' => e = .returned (.bool false) ∧ Drawn0 w w' := by
 go_enter Tryz.func135, Tryz.ntmps135
 go_wp2
 go_ret
 exact ⟨by (rfl), by repeat ((exact Drawn0.refl _))⟩
theorem cmpI_calls (a b : Int) (w : World) : Calls Tryz.prog 123 #[.int .i64 a, .int .i64 b] w fun e w' => e = .returned (.int .i64 (cmpI a b)) ∧ Drawn0 w w' := by
 unfold cmpI
 by_cases h1 : a < b
 ·have h1b : decide (a < b) = true := decide_eq_true h1
  rw [if_pos h1]
  clear h1
  go_enter Tryz.func123, Tryz.ntmps123
  go_wp2_with ((go_at_call 135; (with_reducible refine (isNaN_int _ _).mono ?_); rintro e w' ⟨rfl, ⟨nd, rfl⟩⟩))
  go_ret
  exact ⟨by rfl, by repeat (first | exact Drawn0.refl _ | apply Drawn0.step)⟩
 ·have h1b : decide (a < b) = false := decide_eq_false h1
  rw [if_neg h1]
  clear h1
  by_cases h2 : b < a
  ·have h2b : decide (b < a) = true := decide_eq_true h2
   rw [if_pos h2]
   clear h2
   go_enter Tryz.func123, Tryz.ntmps123
   go_wp2_with ((go_at_call 135; (with_reducible refine (isNaN_int _ _).mono ?_); rintro e w' ⟨rfl, ⟨nd, rfl⟩⟩))
   go_ret
   exact ⟨by rfl, by repeat (first | exact Drawn0.refl _ | apply Drawn0.step)⟩
  ·have h2b : decide (b < a) = false := decide_eq_false h2
   rw [if_neg h2]
   clear h2
   go_enter Tryz.func123, Tryz.ntmps123
   go_wp2_with ((go_at_call 135; (with_reducible refine (isNaN_int _ _).mono ?_); rintro e w' ⟨rfl, ⟨nd, rfl⟩⟩))
   go_ret
   exact ⟨by rfl, by repeat (first | exact Drawn0.refl _ | apply Drawn0.step)⟩
def orI : List Int → Int
 | [] => 0
 | x :: r => if x = 0 then orI r else x
theorem rd_int {l : List Int} {x : Int} (h0 : 0 ≤ x) (h1 : x < l.length) : l.drop x.toNat = rd l x :: l.drop (x.toNat + 1) := by
 have hl : x.toNat < l.length := by omega
 rw [List.drop_eq_getElem_cons hl]
 congr 1
 unfold rd
 simp [List.getD_eq_getElem?_getD, List.getElem?_eq_getElem hl]
theorem orI_calls (A : Option Addr) (c : Nat) (l : List Int) (hl : l.length ≤ 1000) (w : World) (hC : Kd.C (Kd.int .i64) w A l.length l) : Calls Tryz.prog 122 #[.slice A l.length c] w fun e w' => e = .returned (.int .i64 (orI l)) ∧ Drawn0 w w' := by
 have HC := Sd.mk hC
 have HL := Sd.mk hl
 clear hC hl
 generalize hR : orI l = R
 have HR := Sd.mk hR
 clear hR
 go_enter Tryz.func122, Tryz.ntmps122
 go_wp2
 go_loopw [8] (fun v8 w' => ∃ (x : Int) (m : Nat), v8 = .int .i64 x ∧ Sd (0 ≤ x ∧ x ≤ l.length ∧ orI (l.drop x.toNat) = R) ∧ w' = w.drewN m) (fun v8 _ => l.length + 1 - (intOf v8).toNat)
 case atStart => exact ⟨0, 0, rfl, ⟨by omega, by omega, HR.out⟩, rfl⟩
 case round =>
  obtain ⟨x, m, rfl, HX, rfl⟩ := hrel
  have h0 := HX.out.1
  by_cases c1 : x < (l.length : Int)
  ·have cb : decide (x < (l.length : Int)) = true := decide_eq_true c1
   have p0 := eq_true h0
   have p1 := eq_true c1
   obtain ⟨ad0, e0, hx0⟩ := Kd.at_int (Kd.C_drewN HC.out m) x h0 c1
   cases e0
   have hd := rd_int h0 c1
   have HN := HX.out.2.2
   rw [hd, orI] at HN
   have HM : Sd ((x + 1).toNat = x.toNat + 1 ∧ x.toNat < l.length) := ⟨by omega⟩
   have hwx : wrap64 (x + 1) = x + 1 := wrap_id (by have := HL.out; omega)
   generalize rd l x = v at hx0 HN
   clear hd
   by_cases c2 : v = 0
   ·rw [if_pos c2] at HN
    have HNN := Sd.mk HN
    have c2b : (v != 0) = false := bne_eq_false_iff_eq.2 c2
    clear c2 HN
    go_wp2
    go_roundw
    case rel => exact ⟨x + 1, m, (by (rw [hwx])), ⟨by have := HX.out; omega, by have := HM.out; omega, by rw [HM.out.1]; exact HNN.out⟩, rfl⟩
    case measure => have := HM.out; (simp [intOf]; omega)
   ·rw [if_neg c2] at HN
    have HNN := Sd.mk HN
    have c2b : (v != 0) = true := bne_iff_ne.2 c2
    clear c2 HN
    go_wp2
    go_ret
    exact ⟨by rw [← HNN.out]; rfl, by repeat (first | exact Drawn0.refl _ | apply Drawn0.step)⟩
  ·have cb : decide (x < (l.length : Int)) = false := decide_eq_false c1
   have HNN : Sd (R = 0) := ⟨by rw [← HX.out.2.2, List.drop_eq_nil_of_le (by omega)]; rfl⟩
   clear c1
   go_wp2
   go_ret
   exact ⟨by rw [HNN.out]; rfl, by repeat (first | exact Drawn0.refl _ | apply Drawn0.step)⟩
def Gr (w w' : World) : Prop := Below w.heap.size w w' ∧ w.drawn ≤ w'.drawn
theorem Gr.refl (w : World) : Gr w w := ⟨Below.refl _ _, Nat.le_refl _⟩
theorem Gr.alloc {w w' : World} (h : Gr w w') (o : Obj) : Gr w (w'.alloc o) := ⟨below_alloc h.1 o, h.2⟩
theorem Gr.drew {w w' : World} (h : Gr w w') : Gr w w'.drew := ⟨below_drew h.1, Nat.le_succ_of_le h.2⟩
theorem Gr.drewN {w w' : World} (h : Gr w w') (n : Nat) : Gr w (w'.drewN n) := ⟨pw_below_drewN h.1 n, Nat.le_trans h.2 (Nat.le_add_right _ _)⟩
theorem Gr.step {w w' w2 : World} (h : Gr w w') (k : Gr w' w2) : Gr w w2 := ⟨below_step h.1 k.1, Nat.le_trans h.2 k.2⟩
theorem Gr.of_drawn {w w' : World} (h : Drawn0 w w') : Gr w w' := by
 obtain ⟨n, rfl⟩ := h
 exact (Gr.refl w).drewN n
theorem compare_quiet (A0 : Option Addr) (c0 : Nat) (l0 : List ByteArray) (A1 : Option Addr) (c1 : Nat) (l1 : List ByteArray) (w : World) (hr0 : Kd.C Kd.string w A0 l0.length l0) (hr1 : Kd.C Kd.string w A1 l1.length l1) (hl0 : l0.length ≤ 1000) (hl1 : l1.length ≤ 1000) :
  Calls Tryz.prog 72 #[.slice A0 l0.length c0, .slice A1 l1.length c1] w fun e w' => e = .returned (.int .i64 (cmpL l0 l1)) ∧ Drawn0 w w' := by
 have HR0 := Sd.mk hr0
 have HR1 := Sd.mk hr1
 have HL0 := Sd.mk hl0
 have HL1 := Sd.mk hl1
 clear hr0 hr1 hl0 hl1
 generalize hR : cmpL l0 l1 = R
 go_enter Tryz.func72, Tryz.ntmps72
 go_wp2_with (fail)
 go_loopw [11] (fun v11 w' => ∃ (x : Int) (m : Nat), v11 = .int .i64 x ∧ Sd (0 ≤ x ∧ x ≤ l0.length ∧ x ≤ l1.length ∧ cmpL (l0.drop x.toNat) (l1.drop x.toNat) = R) ∧ w' = w.drewN m) (fun v11 _ => l0.length + 1 - (intOf v11).toNat)
 case atStart => exact ⟨0, 0, rfl, ⟨by omega, by omega, by omega, hR⟩, rfl⟩
 case round =>
  clear hR
  obtain ⟨x, m, rfl, HX, rfl⟩ := hrel
  obtain ⟨h0, h1, h2, h3⟩ := HX.out
  have hz0 := HL0.out
  have hz1 := HL1.out
  by_cases c2 : x < (l0.length : Int)
  ·have c2b0 : decide (x < (l0.length : Int)) = true := decide_eq_true c2
   have p0 := eq_true h0
   have p1 := eq_true c2
   have hl : x.toNat < l0.length := by omega
   by_cases c3 : x < (l1.length : Int)
   ·have c3b0 : decide (x ≥ (l1.length : Int)) = false := decide_eq_false (by omega)
    have c3b1 : decide ((l1.length : Int) ≤ x) = false := decide_eq_false (by omega)
    have p2 := eq_true c3
    have hl' : x.toNat < l1.length := by omega
    obtain ⟨ad0, e0, hx0⟩ := Kd.at_string (Kd.C_drewN HR0.out m) x h0 c2
    cases e0
    obtain ⟨ad1, e1, hx1⟩ := Kd.at_string (Kd.C_drewN HR1.out m) x h0 c3
    cases e1
    have hcm : (if cmpS (rdOf ByteArray.empty l0 x) (rdOf ByteArray.empty l1 x) = 0 then cmpL (l0.drop (x.toNat + 1)) (l1.drop (x.toNat + 1)) else cmpS (rdOf ByteArray.empty l0 x) (rdOf ByteArray.empty l1 x)) = R := by
     rw [List.drop_eq_getElem_cons hl, List.drop_eq_getElem_cons hl', cmpL] at h3
     have e2 : rdOf ByteArray.empty l0 x = l0[x.toNat] := by unfold rdOf; simp [List.getD_eq_getElem?_getD, List.getElem?_eq_getElem hl]
     have e3 : rdOf ByteArray.empty l1 x = l1[x.toNat] := by unfold rdOf; simp [List.getD_eq_getElem?_getD, List.getElem?_eq_getElem hl']
     rw [e2, e3]
     exact h3
    generalize hA : rdOf ByteArray.empty l0 x = a at hx0 hcm
    generalize hB : rdOf ByteArray.empty l1 x = b at hx1 hcm
    have hcc := fun W => cmp_any a b W
    generalize hV : cmpS a b = V at hcm hcc
    clear h3 hA hB hV
    by_cases c4 : V = 0
    ·subst c4
     rw [if_pos rfl] at hcm
     have HCM := Sd.mk hcm
     clear hcm
     go_wp2_with (go_at_call 98; refine (hcc _).mono ?_; rintro e w1 ⟨rfl, m1, rfl⟩)
     go_roundw
     case rel => exact ⟨x + 1, m + m1, by (rfl), ⟨by omega, by omega, by omega, by rw [show (x + 1).toNat = x.toNat + 1 from by omega]; exact HCM.out⟩, by (rfl)⟩
     case measure => (simp [intOf]; omega)
    ·rw [if_neg c4] at hcm
     subst hcm
     have c4b : (V == 0) = false := beq_eq_false_iff_ne.mpr c4
     have c4c : (V != 0) = true := bne_iff_ne.mpr c4
     go_wp2_with (go_at_call 98; refine (hcc _).mono ?_; rintro e w1 ⟨rfl, m1, rfl⟩)
     go_ret
     exact ⟨rfl, (by repeat (first | exact Drawn0.refl _ | apply Drawn0.step))⟩
   ·have c3b0 : decide (x ≥ (l1.length : Int)) = true := decide_eq_true (by omega)
    have c3b1 : decide ((l1.length : Int) ≤ x) = true := decide_eq_true (by omega)
    obtain ⟨ad0, e0, hx0⟩ := Kd.at_string (Kd.C_drewN HR0.out m) x h0 c2
    cases e0
    have hcm : R = 1 := by
     have hn : l1.drop x.toNat = [] := List.drop_eq_nil_of_le (by omega)
     rw [List.drop_eq_getElem_cons hl, hn, cmpL] at h3
     exact h3.symm
    clear h3
    subst hcm
    go_wp2_with (fail)
    go_ret
    exact ⟨rfl, (by repeat (first | exact Drawn0.refl _ | apply Drawn0.step))⟩
  ·have hxl : x = l0.length := by omega
   subst hxl
   by_cases c5 : l0.length < l1.length
   ·have hcm : R = -1 := by
     have hn : l0.drop ((l0.length : Int)).toNat = [] := List.drop_eq_nil_of_le (by omega)
     rw [hn, List.drop_eq_getElem_cons (show ((l0.length : Int)).toNat < l1.length by omega), cmpL] at h3
     exact h3.symm
    clear h3
    subst hcm
    go_wp2_with (fail)
    go_ret
    exact ⟨rfl, (by repeat (first | exact Drawn0.refl _ | apply Drawn0.step))⟩
   ·have hcm : R = 0 := by
     have hn : l0.drop ((l0.length : Int)).toNat = [] := List.drop_eq_nil_of_le (by omega)
     have hn' : l1.drop ((l0.length : Int)).toNat = [] := List.drop_eq_nil_of_le (by omega)
     rw [hn, hn', cmpL] at h3
     exact h3.symm
    clear h3
    subst hcm
    have c5b : decide (l0.length < l1.length) = false := decide_eq_false c5
    go_wp2_with (fail)
    go_ret
    exact ⟨rfl, (by repeat (first | exact Drawn0.refl _ | apply Drawn0.step))⟩
attribute [local go_sem ↓] Go.wp_at_zero Go.wp_at_succ
theorem C_ints {W : World} {g : Nat} {l : List Int} {k : Nat} (h : W.heap[g]? = some (.cells (l.map (Value.int .i64)).toArray k (0, 0))) (hl : l.length ≤ 1000) : Kd.C (Kd.int .i64) W (some ⟨g, 0, none⟩) l.length l := by
 refine ⟨rfl, by omega, fun _ => ⟨⟨g, 0, none⟩, rfl, fun j p hj => ⟨[.int .i64 p], rfl, rfl, fun i u hu => ?_⟩⟩⟩
 match i, hu with
 | 0, hu =>
  simp only [List.getElem?_cons_zero, Option.some.injEq] at hu
  subst hu
  rw [show j * (Kd.int .i64).sz + 0 = j from by show j * 1 + 0 = j; omega, add_off, blk_cell h]
  simp [hj]
def ordP (x y : S28) : Int := orI [cmpI x.f0 y.f0, cmpS x.f1 y.f1, cmpL x.f2 y.f2, cmpL x.f3 y.f3, cmpS x.f4 y.f4, cmpS x.f5 y.f5]
theorem order_calls (x y : S28) (A2 A3 B2 B3 : Option Addr) (c2 c3 d2 d3 : Nat) (w : World) (hx2 : Kd.C Kd.string w A2 x.f2.length x.f2) (hx3 : Kd.C Kd.string w A3 x.f3.length x.f3) (hy2 : Kd.C Kd.string w B2 y.f2.length y.f2) (hy3 : Kd.C Kd.string w B3 y.f3.length y.f3) (l1 : x.f2.length ≤ 1000) (l2 : x.f3.length ≤ 1000) (l3 : y.f2.length ≤ 1000) (l4 : y.f3.length ≤ 1000) :
  Calls Tryz.prog 108 #[.agg #[.int .i64 x.f0, .string x.f1, .slice A2 x.f2.length c2, .slice A3 x.f3.length c3, .string x.f4, .string x.f5], .agg #[.int .i64 y.f0, .string y.f1, .slice B2 y.f2.length d2, .slice B3 y.f3.length d3, .string y.f4, .string y.f5]] w fun e w' => e = .returned (.int .i64 (ordP x y)) ∧ Gr w w' := by
 have hu28 := Tryz.underlying28
 have H2 := Sd.mk (And.intro hx2 hy2)
 have H3 := Sd.mk (And.intro hx3 hy3)
 have HL := Sd.mk (And.intro l1 (And.intro l2 (And.intro l3 l4)))
 clear hx2 hx3 hy2 hy3 l1 l2 l3 l4
 generalize hR : ordP x y = R
 unfold ordP at hR
 go_enter Tryz.func108, Tryz.ntmps108
 go_upto_region 1 with (fail)
 have HX : Sd (((w.alloc (.cells #[.int .i64 x.f0, .string x.f1, .slice A2 x.f2.length c2, .slice A3 x.f3.length c3, .string x.f4, .string x.f5] 28)).alloc (.cells #[.int .i64 y.f0, .string y.f1, .slice B2 y.f2.length d2, .slice B3 y.f3.length d3, .string y.f4, .string y.f5] 28)).heap[w.heap.size]? = some (.cells #[.int .i64 x.f0, .string x.f1, .slice A2 x.f2.length c2, .slice A3 x.f3.length c3, .string x.f4, .string x.f5] 28 (0, 0))) := ⟨blk_below (blk_new _ _) (below_alloc (Below.refl _ _) _)⟩
 have HY : Sd (((w.alloc (.cells #[.int .i64 x.f0, .string x.f1, .slice A2 x.f2.length c2, .slice A3 x.f3.length c3, .string x.f4, .string x.f5] 28)).alloc (.cells #[.int .i64 y.f0, .string y.f1, .slice B2 y.f2.length d2, .slice B3 y.f3.length d3, .string y.f4, .string y.f5] 28)).heap[w.heap.size + 1]? = some (.cells #[.int .i64 y.f0, .string y.f1, .slice B2 y.f2.length d2, .slice B3 y.f3.length d3, .string y.f4, .string y.f5] 28 (0, 0))) := ⟨by have h := blk_new (w.alloc (.cells #[.int .i64 x.f0, .string x.f1, .slice A2 x.f2.length c2, .slice A3 x.f3.length c3, .string x.f4, .string x.f5] 28)) (.cells #[.int .i64 y.f0, .string y.f1, .slice B2 y.f2.length d2, .slice B3 y.f3.length d3, .string y.f4, .string y.f5] 28); rwa [show (w.alloc (.cells #[.int .i64 x.f0, .string x.f1, .slice A2 x.f2.length c2, .slice A3 x.f3.length c3, .string x.f4, .string x.f5] 28)).heap.size = w.heap.size + 1 from by simp] at h⟩
 have HB0 : Sd (Gr w ((w.alloc (.cells #[.int .i64 x.f0, .string x.f1, .slice A2 x.f2.length c2, .slice A3 x.f3.length c3, .string x.f4, .string x.f5] 28)).alloc (.cells #[.int .i64 y.f0, .string y.f1, .slice B2 y.f2.length d2, .slice B3 y.f3.length d3, .string y.f4, .string y.f5] 28))) := ⟨Gr.alloc (Gr.alloc (Gr.refl _) _) _⟩
 generalize ((w.alloc (.cells #[.int .i64 x.f0, .string x.f1, .slice A2 x.f2.length c2, .slice A3 x.f3.length c3, .string x.f4, .string x.f5] 28)).alloc (.cells #[.int .i64 y.f0, .string y.f1, .slice B2 y.f2.length d2, .slice B3 y.f3.length d3, .string y.f4, .string y.f5] 28)) = W0 at HX HY HB0 ⊢
 generalize w.heap.size + 1 = gy at HY ⊢
 obtain ⟨gx, hgx⟩ : ∃ gx, gx = w.heap.size := ⟨_, rfl⟩
 rw [← hgx] at HX ⊢
 clear hgx
 have x0 : W0.cell? ⟨gx, 0, none⟩ = some (.int .i64 x.f0) := (blk_cell HX.out 0).trans rfl
 have x1 : W0.cell? ⟨gx, 1, none⟩ = some (.string x.f1) := (blk_cell HX.out 1).trans rfl
 have x2 : W0.cell? ⟨gx, 2, none⟩ = some (.slice A2 x.f2.length c2) := (blk_cell HX.out 2).trans rfl
 have x3 : W0.cell? ⟨gx, 3, none⟩ = some (.slice A3 x.f3.length c3) := (blk_cell HX.out 3).trans rfl
 have x4 : W0.cell? ⟨gx, 4, none⟩ = some (.string x.f4) := (blk_cell HX.out 4).trans rfl
 have x5 : W0.cell? ⟨gx, 5, none⟩ = some (.string x.f5) := (blk_cell HX.out 5).trans rfl
 have y0 : W0.cell? ⟨gy, 0, none⟩ = some (.int .i64 y.f0) := (blk_cell HY.out 0).trans rfl
 have y1 : W0.cell? ⟨gy, 1, none⟩ = some (.string y.f1) := (blk_cell HY.out 1).trans rfl
 have y2 : W0.cell? ⟨gy, 2, none⟩ = some (.slice B2 y.f2.length d2) := (blk_cell HY.out 2).trans rfl
 have y3 : W0.cell? ⟨gy, 3, none⟩ = some (.slice B3 y.f3.length d3) := (blk_cell HY.out 3).trans rfl
 have y4 : W0.cell? ⟨gy, 4, none⟩ = some (.string y.f4) := (blk_cell HY.out 4).trans rfl
 have y5 : W0.cell? ⟨gy, 5, none⟩ = some (.string y.f5) := (blk_cell HY.out 5).trans rfl
 have hS : ∀ W : World, Gr W0 W → (W.cell? ⟨gx, 0, none⟩ = some (.int .i64 x.f0) ∧ W.cell? ⟨gx, 1, none⟩ = some (.string x.f1) ∧ W.cell? ⟨gx, 2, none⟩ = some (.slice A2 x.f2.length c2) ∧ W.cell? ⟨gx, 3, none⟩ = some (.slice A3 x.f3.length c3) ∧ W.cell? ⟨gx, 4, none⟩ = some (.string x.f4) ∧ W.cell? ⟨gx, 5, none⟩ = some (.string x.f5) ∧ W.cell? ⟨gy, 0, none⟩ = some (.int .i64 y.f0) ∧ W.cell? ⟨gy, 1, none⟩ = some (.string y.f1) ∧ W.cell? ⟨gy, 2, none⟩ = some (.slice B2 y.f2.length d2) ∧ W.cell? ⟨gy, 3, none⟩ = some (.slice B3 y.f3.length d3) ∧ W.cell? ⟨gy, 4, none⟩ = some (.string y.f4) ∧ W.cell? ⟨gy, 5, none⟩ = some (.string y.f5) ∧ Gr W0 W) := fun W hB => ⟨pw_cell_below hB.1 x0, pw_cell_below hB.1 x1, pw_cell_below hB.1 x2, pw_cell_below hB.1 x3, pw_cell_below hB.1 x4, pw_cell_below hB.1 x5, pw_cell_below hB.1 y0, pw_cell_below hB.1 y1, pw_cell_below hB.1 y2, pw_cell_below hB.1 y3, pw_cell_below hB.1 y4, pw_cell_below hB.1 y5, hB⟩
 have hK1 : ∀ W W' : World, (W.cell? ⟨gx, 0, none⟩ = some (.int .i64 x.f0) ∧ W.cell? ⟨gx, 1, none⟩ = some (.string x.f1) ∧ W.cell? ⟨gx, 2, none⟩ = some (.slice A2 x.f2.length c2) ∧ W.cell? ⟨gx, 3, none⟩ = some (.slice A3 x.f3.length c3) ∧ W.cell? ⟨gx, 4, none⟩ = some (.string x.f4) ∧ W.cell? ⟨gx, 5, none⟩ = some (.string x.f5) ∧ W.cell? ⟨gy, 0, none⟩ = some (.int .i64 y.f0) ∧ W.cell? ⟨gy, 1, none⟩ = some (.string y.f1) ∧ W.cell? ⟨gy, 2, none⟩ = some (.slice B2 y.f2.length d2) ∧ W.cell? ⟨gy, 3, none⟩ = some (.slice B3 y.f3.length d3) ∧ W.cell? ⟨gy, 4, none⟩ = some (.string y.f4) ∧ W.cell? ⟨gy, 5, none⟩ = some (.string y.f5) ∧ Gr W0 W) → Gr W W' → (W'.cell? ⟨gx, 0, none⟩ = some (.int .i64 x.f0) ∧ W'.cell? ⟨gx, 1, none⟩ = some (.string x.f1) ∧ W'.cell? ⟨gx, 2, none⟩ = some (.slice A2 x.f2.length c2) ∧ W'.cell? ⟨gx, 3, none⟩ = some (.slice A3 x.f3.length c3) ∧ W'.cell? ⟨gx, 4, none⟩ = some (.string x.f4) ∧ W'.cell? ⟨gx, 5, none⟩ = some (.string x.f5) ∧ W'.cell? ⟨gy, 0, none⟩ = some (.int .i64 y.f0) ∧ W'.cell? ⟨gy, 1, none⟩ = some (.string y.f1) ∧ W'.cell? ⟨gy, 2, none⟩ = some (.slice B2 y.f2.length d2) ∧ W'.cell? ⟨gy, 3, none⟩ = some (.slice B3 y.f3.length d3) ∧ W'.cell? ⟨gy, 4, none⟩ = some (.string y.f4) ∧ W'.cell? ⟨gy, 5, none⟩ = some (.string y.f5) ∧ Gr W0 W') := fun W W' h hB => hS _ (Gr.step (h.2.2.2.2.2.2.2.2.2.2.2.2) hB)
 have h2 : ∀ W : World, (W.cell? ⟨gx, 0, none⟩ = some (.int .i64 x.f0) ∧ W.cell? ⟨gx, 1, none⟩ = some (.string x.f1) ∧ W.cell? ⟨gx, 2, none⟩ = some (.slice A2 x.f2.length c2) ∧ W.cell? ⟨gx, 3, none⟩ = some (.slice A3 x.f3.length c3) ∧ W.cell? ⟨gx, 4, none⟩ = some (.string x.f4) ∧ W.cell? ⟨gx, 5, none⟩ = some (.string x.f5) ∧ W.cell? ⟨gy, 0, none⟩ = some (.int .i64 y.f0) ∧ W.cell? ⟨gy, 1, none⟩ = some (.string y.f1) ∧ W.cell? ⟨gy, 2, none⟩ = some (.slice B2 y.f2.length d2) ∧ W.cell? ⟨gy, 3, none⟩ = some (.slice B3 y.f3.length d3) ∧ W.cell? ⟨gy, 4, none⟩ = some (.string y.f4) ∧ W.cell? ⟨gy, 5, none⟩ = some (.string y.f5) ∧ Gr W0 W) → Calls Tryz.prog 72 #[.slice A2 x.f2.length c2, .slice B2 y.f2.length d2] W fun e w' => e = .returned (.int .i64 (cmpL x.f2 y.f2)) ∧ Gr W w' := fun W h => (compare_quiet A2 c2 x.f2 B2 d2 y.f2 W (Kd.C_below H2.out.1 (Gr.step HB0.out (h.2.2.2.2.2.2.2.2.2.2.2.2)).1) (Kd.C_below H2.out.2 (Gr.step HB0.out (h.2.2.2.2.2.2.2.2.2.2.2.2)).1) HL.out.1 HL.out.2.2.1).mono fun _ _ h => ⟨h.1, Gr.of_drawn h.2⟩
 have h3 : ∀ W : World, (W.cell? ⟨gx, 0, none⟩ = some (.int .i64 x.f0) ∧ W.cell? ⟨gx, 1, none⟩ = some (.string x.f1) ∧ W.cell? ⟨gx, 2, none⟩ = some (.slice A2 x.f2.length c2) ∧ W.cell? ⟨gx, 3, none⟩ = some (.slice A3 x.f3.length c3) ∧ W.cell? ⟨gx, 4, none⟩ = some (.string x.f4) ∧ W.cell? ⟨gx, 5, none⟩ = some (.string x.f5) ∧ W.cell? ⟨gy, 0, none⟩ = some (.int .i64 y.f0) ∧ W.cell? ⟨gy, 1, none⟩ = some (.string y.f1) ∧ W.cell? ⟨gy, 2, none⟩ = some (.slice B2 y.f2.length d2) ∧ W.cell? ⟨gy, 3, none⟩ = some (.slice B3 y.f3.length d3) ∧ W.cell? ⟨gy, 4, none⟩ = some (.string y.f4) ∧ W.cell? ⟨gy, 5, none⟩ = some (.string y.f5) ∧ Gr W0 W) → Calls Tryz.prog 72 #[.slice A3 x.f3.length c3, .slice B3 y.f3.length d3] W fun e w' => e = .returned (.int .i64 (cmpL x.f3 y.f3)) ∧ Gr W w' := fun W h => (compare_quiet A3 c3 x.f3 B3 d3 y.f3 W (Kd.C_below H3.out.1 (Gr.step HB0.out (h.2.2.2.2.2.2.2.2.2.2.2.2)).1) (Kd.C_below H3.out.2 (Gr.step HB0.out (h.2.2.2.2.2.2.2.2.2.2.2.2)).1) HL.out.2.1 HL.out.2.2.2).mono fun _ _ h => ⟨h.1, Gr.of_drawn h.2⟩
 have horI : ∀ (W : World) (g : Nat), Kd.C (Kd.int .i64) W (some ⟨g, 0, none⟩) 6 [cmpI x.f0 y.f0, cmpS x.f1 y.f1, cmpL x.f2 y.f2, cmpL x.f3 y.f3, cmpS x.f4 y.f4, cmpS x.f5 y.f5] → Calls Tryz.prog 122 #[.slice (some ⟨g, 0, none⟩) 6 6] W fun e w' => e = .returned (.int .i64 R) ∧ Drawn0 W w' := fun W g h => by
  have := orI_calls (some ⟨g, 0, none⟩) 6 [cmpI x.f0 y.f0, cmpS x.f1 y.f1, cmpL x.f2 y.f2, cmpL x.f3 y.f3, cmpS x.f4 y.f4, cmpS x.f5 y.f5] (by simp) W h
  rw [hR] at this
  exact this
 clear hR
 go_region_held3 (fun W => W.cell? ⟨gx, 0, none⟩ = some (.int .i64 x.f0) ∧ W.cell? ⟨gx, 1, none⟩ = some (.string x.f1) ∧ W.cell? ⟨gx, 2, none⟩ = some (.slice A2 x.f2.length c2) ∧ W.cell? ⟨gx, 3, none⟩ = some (.slice A3 x.f3.length c3) ∧ W.cell? ⟨gx, 4, none⟩ = some (.string x.f4) ∧ W.cell? ⟨gx, 5, none⟩ = some (.string x.f5) ∧ W.cell? ⟨gy, 0, none⟩ = some (.int .i64 y.f0) ∧ W.cell? ⟨gy, 1, none⟩ = some (.string y.f1) ∧ W.cell? ⟨gy, 2, none⟩ = some (.slice B2 y.f2.length d2) ∧ W.cell? ⟨gy, 3, none⟩ = some (.slice B3 y.f3.length d3) ∧ W.cell? ⟨gy, 4, none⟩ = some (.string y.f4) ∧ W.cell? ⟨gy, 5, none⟩ = some (.string y.f5) ∧ Gr W0 W) (first | (with_reducible exact hS _ (Gr.alloc HB9 _)) | (with_reducible exact hS _ HB9) | (with_reducible exact hS _ (Gr.drew (Gr.refl _)))) (first | (go_at_call 123; (with_reducible refine (cmpI_calls x.f0 y.f0 _).mono ?_); rintro e w9 ⟨rfl, hD⟩; have hB := Gr.of_drawn hD; have HB9 : Gr W0 w9 := by ((exact (hK1 _ _ (by assumption) hB).2.2.2.2.2.2.2.2.2.2.2.2))) | (go_at_call 98; (with_reducible refine (cmp_any x.f1 y.f1 _).mono ?_); rintro e w9 ⟨rfl, hD⟩; have hB := Gr.of_drawn hD; have HB9 : Gr W0 w9 := by ((exact (hK1 _ _ (by assumption) hB).2.2.2.2.2.2.2.2.2.2.2.2))) | (go_at_call 98; (with_reducible refine (cmp_any x.f4 y.f4 _).mono ?_); rintro e w9 ⟨rfl, hD⟩; have hB := Gr.of_drawn hD; have HB9 : Gr W0 w9 := by ((exact (hK1 _ _ (by assumption) hB).2.2.2.2.2.2.2.2.2.2.2.2))) | (go_at_call 98; (with_reducible refine (cmp_any x.f5 y.f5 _).mono ?_); rintro e w9 ⟨rfl, hD⟩; have hB := Gr.of_drawn hD; have HB9 : Gr W0 w9 := by ((exact (hK1 _ _ (by assumption) hB).2.2.2.2.2.2.2.2.2.2.2.2))) | (go_at_call 72; (with_reducible refine (h2 _ (by assumption)).mono ?_); rintro e w9 ⟨rfl, hB⟩; have HB9 : Gr W0 w9 := by ((exact (hK1 _ _ (by assumption) hB).2.2.2.2.2.2.2.2.2.2.2.2))) | (go_at_call 72; (with_reducible refine (h3 _ (by assumption)).mono ?_); rintro e w9 ⟨rfl, hB⟩; have HB9 : Gr W0 w9 := by ((exact (hK1 _ _ (by assumption) hB).2.2.2.2.2.2.2.2.2.2.2.2))) | (go_at_call 122; (with_reducible refine (horI _ _ (C_ints (l := [_, _, _, _, _, _]) (MapKept.heap_alloc _ _).1 (by simp))).mono ?_); rintro e w9 ⟨rfl, hD⟩; have hB := Gr.of_drawn hD; have HB9 : Gr W0 w9 := Gr.step (Gr.alloc HB9 _) hB))
 go_wp2_with (fail)
 go_ret
 exact ⟨rfl, Gr.step HB0.out HB9⟩
end Go.Proofs.YtpdkgpmcmebefaaGreatDoor.Q
