/- Of the proof about maint: several texts, joined. -/
import Derived.Test.YtpdkgpmcmebefaaGreatDoorMG
import Derived.Deep.RegionHeld3
import Derived.Deep.DrawnRows
import Derived.Test.YtpdkgpmcmebefaaGreatDoorMF
import Derived.Deep.MidRow
set_option maxHeartbeats 16000000
set_option maxRecDepth 100000
set_option linter.unusedVariables false
set_option linter.unusedSimpArgs false
namespace Go.Proofs.YtpdkgpmcmebefaaGreatDoor.Q
open Go.RowKit Go.Proofs.YtpdkgpmcmebefaaGreatDoorW.PrintWords Go.Proofs.YtpdkgpmcmebefaaGreatDoorW.PrintLast Go.Proofs.YtpdkgpmcmebefaaGreatDoorW.PrintMore
attribute [local go_sem] max2_int min2_int max_two min_two max_three min_three max_four min_four
attribute [local go_sem ↓] Go.wp_at_zero Go.wp_at_succ
def lessO (x y : S28) : Bool := decide (ordP x y < 0)
theorem less_calls (x y : S28) (A2 A3 B2 B3 : Option Addr) (c2 c3 d2 d3 : Nat) (w : World) (hx2 : Kd.C Kd.string w A2 x.f2.length x.f2) (hx3 : Kd.C Kd.string w A3 x.f3.length x.f3) (hy2 : Kd.C Kd.string w B2 y.f2.length y.f2) (hy3 : Kd.C Kd.string w B3 y.f3.length y.f3) (l1 : x.f2.length ≤ 1000) (l2 : x.f3.length ≤ 1000) (l3 : y.f2.length ≤ 1000) (l4 : y.f3.length ≤ 1000) :
  Calls Tryz.prog 77 #[.agg #[.int .i64 x.f0, .string x.f1, .slice A2 x.f2.length c2, .slice A3 x.f3.length c3, .string x.f4, .string x.f5], .agg #[.int .i64 y.f0, .string y.f1, .slice B2 y.f2.length d2, .slice B3 y.f3.length d3, .string y.f4, .string y.f5]] w fun e w' => e = .returned (.bool (lessO x y)) ∧ Gr w w' := by
 have hu28 := Tryz.underlying28
 have HO : Sd (∀ W, Gr w W → Calls Tryz.prog 108 #[.agg #[.int .i64 x.f0, .string x.f1, .slice A2 x.f2.length c2, .slice A3 x.f3.length c3, .string x.f4, .string x.f5], .agg #[.int .i64 y.f0, .string y.f1, .slice B2 y.f2.length d2, .slice B3 y.f3.length d3, .string y.f4, .string y.f5]] W fun e w' => e = .returned (.int .i64 (ordP x y)) ∧ Gr W w') := ⟨fun W hW => order_calls x y A2 A3 B2 B3 c2 c3 d2 d3 W (Kd.C_below hx2 hW.1) (Kd.C_below hx3 hW.1) (Kd.C_below hy2 hW.1) (Kd.C_below hy3 hW.1) l1 l2 l3 l4⟩
 clear hx2 hx3 hy2 hy3 l1 l2 l3 l4
 unfold lessO
 generalize ordP x y = r at HO ⊢
 go_enter Tryz.func77, Tryz.ntmps77
 go_wp2_with (fail)
 have HB1 : Sd (Gr w ((w.alloc (.cells #[.int .i64 x.f0, .string x.f1, .slice A2 x.f2.length c2, .slice A3 x.f3.length c3, .string x.f4, .string x.f5] 28)).alloc (.cells #[.int .i64 y.f0, .string y.f1, .slice B2 y.f2.length d2, .slice B3 y.f3.length d3, .string y.f4, .string y.f5] 28))) := ⟨Gr.alloc (Gr.alloc (Gr.refl _) _) _⟩
 refine (HO.out _ HB1.out).mono ?_
 rintro e w1 ⟨rfl, hB⟩
 have HB2 := Sd.mk (Gr.step HB1.out hB)
 clear hB
 go_wp2_with (fail)
 go_ret
 exact ⟨rfl, HB2.out⟩
def newI (l : List S28) (i k : Int) : Int := if lessO (rd_T28 l i) (rd_T28 l k) = true then 1 else if lessO (rd_T28 l k) (rd_T28 l i) = true then -1 else wrap64 (k - i)
theorem newest_calls (A : Option Addr) (c : Nat) (l : List S28) (i k : Int) (w : World) (hC : Kd.C k28 w A l.length l) (h0 : 0 ≤ i) (h1 : i < l.length) (h2 : 0 ≤ k) (h3 : k < l.length) (hl : ∀ x ∈ l, x.f2.length ≤ 1000 ∧ x.f3.length ≤ 1000) :
  Calls Tryz.prog 41 #[.slice A l.length c, .int .i64 i, .int .i64 k] w fun e w' => e = .returned (.int .i64 (newI l i k)) ∧ Gr w w' := by
 have hu28 := Tryz.underlying28
 have mem : ∀ j : Int, 0 ≤ j → j < l.length → rd_T28 l j ∈ l := fun j a b => by
  unfold rd_T28
  rw [List.getD_eq_getElem?_getD, List.getElem?_eq_getElem (by omega)]
  exact List.getElem_mem _
 obtain ⟨ad, A2, c2, A3, c3, e1, x0, x1, x2, x3, x4, x5, _, hx2, _, hx3⟩ := at_T28 hC i h0 h1
 obtain ⟨ad', B2, d2, B3, d3, e2, y0, y1, y2, y3, y4, y5, _, hy2, _, hy3⟩ := at_T28 hC k h2 h3
 subst e1
 injection e2 with e2
 subst e2
 have hlx := hl _ (mem i h0 h1)
 have hly := hl _ (mem k h2 h3)
 unfold newI
 generalize rd_T28 l i = x at *
 generalize rd_T28 l k = y at *
 have HL1 : Sd (∀ W, Gr w W → Calls Tryz.prog 77 #[.agg #[.int .i64 x.f0, .string x.f1, .slice A2 x.f2.length c2, .slice A3 x.f3.length c3, .string x.f4, .string x.f5], .agg #[.int .i64 y.f0, .string y.f1, .slice B2 y.f2.length d2, .slice B3 y.f3.length d3, .string y.f4, .string y.f5]] W fun e w' => e = .returned (.bool (lessO x y)) ∧ Gr W w') := ⟨fun W hW => less_calls x y A2 A3 B2 B3 c2 c3 d2 d3 W (Kd.C_below hx2 hW.1) (Kd.C_below hx3 hW.1) (Kd.C_below hy2 hW.1) (Kd.C_below hy3 hW.1) hlx.1 hlx.2 hly.1 hly.2⟩
 have HL2 : Sd (∀ W, Gr w W → Calls Tryz.prog 77 #[.agg #[.int .i64 y.f0, .string y.f1, .slice B2 y.f2.length d2, .slice B3 y.f3.length d3, .string y.f4, .string y.f5], .agg #[.int .i64 x.f0, .string x.f1, .slice A2 x.f2.length c2, .slice A3 x.f3.length c3, .string x.f4, .string x.f5]] W fun e w' => e = .returned (.bool (lessO y x)) ∧ Gr W w') := ⟨fun W hW => less_calls y x B2 B3 A2 A3 d2 d3 c2 c3 W (Kd.C_below hy2 hW.1) (Kd.C_below hy3 hW.1) (Kd.C_below hx2 hW.1) (Kd.C_below hx3 hW.1) hly.1 hly.2 hlx.1 hlx.2⟩
 clear hx2 hx3 hy2 hy3 hlx hly mem hl hC
 have hS : ∀ W : World, Gr w W → (W.cell? (ad.add (i.toNat * 6)) = some (.int .i64 x.f0) ∧ W.cell? ⟨(ad.add (i.toNat * 6)).block, (ad.add (i.toNat * 6)).off + 1, none⟩ = some (.string x.f1) ∧ W.cell? ⟨(ad.add (i.toNat * 6)).block, (ad.add (i.toNat * 6)).off + 2, none⟩ = some (.slice A2 x.f2.length c2) ∧ W.cell? ⟨(ad.add (i.toNat * 6)).block, (ad.add (i.toNat * 6)).off + 3, none⟩ = some (.slice A3 x.f3.length c3) ∧ W.cell? ⟨(ad.add (i.toNat * 6)).block, (ad.add (i.toNat * 6)).off + 4, none⟩ = some (.string x.f4) ∧ W.cell? ⟨(ad.add (i.toNat * 6)).block, (ad.add (i.toNat * 6)).off + 5, none⟩ = some (.string x.f5) ∧ W.cell? (ad.add (k.toNat * 6)) = some (.int .i64 y.f0) ∧ W.cell? ⟨(ad.add (k.toNat * 6)).block, (ad.add (k.toNat * 6)).off + 1, none⟩ = some (.string y.f1) ∧ W.cell? ⟨(ad.add (k.toNat * 6)).block, (ad.add (k.toNat * 6)).off + 2, none⟩ = some (.slice B2 y.f2.length d2) ∧ W.cell? ⟨(ad.add (k.toNat * 6)).block, (ad.add (k.toNat * 6)).off + 3, none⟩ = some (.slice B3 y.f3.length d3) ∧ W.cell? ⟨(ad.add (k.toNat * 6)).block, (ad.add (k.toNat * 6)).off + 4, none⟩ = some (.string y.f4) ∧ W.cell? ⟨(ad.add (k.toNat * 6)).block, (ad.add (k.toNat * 6)).off + 5, none⟩ = some (.string y.f5) ∧ Gr w W) := fun W hB => ⟨pw_cell_below hB.1 x0, pw_cell_below hB.1 x1, pw_cell_below hB.1 x2, pw_cell_below hB.1 x3, pw_cell_below hB.1 x4, pw_cell_below hB.1 x5, pw_cell_below hB.1 y0, pw_cell_below hB.1 y1, pw_cell_below hB.1 y2, pw_cell_below hB.1 y3, pw_cell_below hB.1 y4, pw_cell_below hB.1 y5, hB⟩
 have hK1 : ∀ W W' : World, (W.cell? (ad.add (i.toNat * 6)) = some (.int .i64 x.f0) ∧ W.cell? ⟨(ad.add (i.toNat * 6)).block, (ad.add (i.toNat * 6)).off + 1, none⟩ = some (.string x.f1) ∧ W.cell? ⟨(ad.add (i.toNat * 6)).block, (ad.add (i.toNat * 6)).off + 2, none⟩ = some (.slice A2 x.f2.length c2) ∧ W.cell? ⟨(ad.add (i.toNat * 6)).block, (ad.add (i.toNat * 6)).off + 3, none⟩ = some (.slice A3 x.f3.length c3) ∧ W.cell? ⟨(ad.add (i.toNat * 6)).block, (ad.add (i.toNat * 6)).off + 4, none⟩ = some (.string x.f4) ∧ W.cell? ⟨(ad.add (i.toNat * 6)).block, (ad.add (i.toNat * 6)).off + 5, none⟩ = some (.string x.f5) ∧ W.cell? (ad.add (k.toNat * 6)) = some (.int .i64 y.f0) ∧ W.cell? ⟨(ad.add (k.toNat * 6)).block, (ad.add (k.toNat * 6)).off + 1, none⟩ = some (.string y.f1) ∧ W.cell? ⟨(ad.add (k.toNat * 6)).block, (ad.add (k.toNat * 6)).off + 2, none⟩ = some (.slice B2 y.f2.length d2) ∧ W.cell? ⟨(ad.add (k.toNat * 6)).block, (ad.add (k.toNat * 6)).off + 3, none⟩ = some (.slice B3 y.f3.length d3) ∧ W.cell? ⟨(ad.add (k.toNat * 6)).block, (ad.add (k.toNat * 6)).off + 4, none⟩ = some (.string y.f4) ∧ W.cell? ⟨(ad.add (k.toNat * 6)).block, (ad.add (k.toNat * 6)).off + 5, none⟩ = some (.string y.f5) ∧ Gr w W) → Gr W W' → (W'.cell? (ad.add (i.toNat * 6)) = some (.int .i64 x.f0) ∧ W'.cell? ⟨(ad.add (i.toNat * 6)).block, (ad.add (i.toNat * 6)).off + 1, none⟩ = some (.string x.f1) ∧ W'.cell? ⟨(ad.add (i.toNat * 6)).block, (ad.add (i.toNat * 6)).off + 2, none⟩ = some (.slice A2 x.f2.length c2) ∧ W'.cell? ⟨(ad.add (i.toNat * 6)).block, (ad.add (i.toNat * 6)).off + 3, none⟩ = some (.slice A3 x.f3.length c3) ∧ W'.cell? ⟨(ad.add (i.toNat * 6)).block, (ad.add (i.toNat * 6)).off + 4, none⟩ = some (.string x.f4) ∧ W'.cell? ⟨(ad.add (i.toNat * 6)).block, (ad.add (i.toNat * 6)).off + 5, none⟩ = some (.string x.f5) ∧ W'.cell? (ad.add (k.toNat * 6)) = some (.int .i64 y.f0) ∧ W'.cell? ⟨(ad.add (k.toNat * 6)).block, (ad.add (k.toNat * 6)).off + 1, none⟩ = some (.string y.f1) ∧ W'.cell? ⟨(ad.add (k.toNat * 6)).block, (ad.add (k.toNat * 6)).off + 2, none⟩ = some (.slice B2 y.f2.length d2) ∧ W'.cell? ⟨(ad.add (k.toNat * 6)).block, (ad.add (k.toNat * 6)).off + 3, none⟩ = some (.slice B3 y.f3.length d3) ∧ W'.cell? ⟨(ad.add (k.toNat * 6)).block, (ad.add (k.toNat * 6)).off + 4, none⟩ = some (.string y.f4) ∧ W'.cell? ⟨(ad.add (k.toNat * 6)).block, (ad.add (k.toNat * 6)).off + 5, none⟩ = some (.string y.f5) ∧ Gr w W') := fun W W' h hB => hS _ (Gr.step (h.2.2.2.2.2.2.2.2.2.2.2.2) hB)
 have hq1 : ∀ W : World, (W.cell? (ad.add (i.toNat * 6)) = some (.int .i64 x.f0) ∧ W.cell? ⟨(ad.add (i.toNat * 6)).block, (ad.add (i.toNat * 6)).off + 1, none⟩ = some (.string x.f1) ∧ W.cell? ⟨(ad.add (i.toNat * 6)).block, (ad.add (i.toNat * 6)).off + 2, none⟩ = some (.slice A2 x.f2.length c2) ∧ W.cell? ⟨(ad.add (i.toNat * 6)).block, (ad.add (i.toNat * 6)).off + 3, none⟩ = some (.slice A3 x.f3.length c3) ∧ W.cell? ⟨(ad.add (i.toNat * 6)).block, (ad.add (i.toNat * 6)).off + 4, none⟩ = some (.string x.f4) ∧ W.cell? ⟨(ad.add (i.toNat * 6)).block, (ad.add (i.toNat * 6)).off + 5, none⟩ = some (.string x.f5) ∧ W.cell? (ad.add (k.toNat * 6)) = some (.int .i64 y.f0) ∧ W.cell? ⟨(ad.add (k.toNat * 6)).block, (ad.add (k.toNat * 6)).off + 1, none⟩ = some (.string y.f1) ∧ W.cell? ⟨(ad.add (k.toNat * 6)).block, (ad.add (k.toNat * 6)).off + 2, none⟩ = some (.slice B2 y.f2.length d2) ∧ W.cell? ⟨(ad.add (k.toNat * 6)).block, (ad.add (k.toNat * 6)).off + 3, none⟩ = some (.slice B3 y.f3.length d3) ∧ W.cell? ⟨(ad.add (k.toNat * 6)).block, (ad.add (k.toNat * 6)).off + 4, none⟩ = some (.string y.f4) ∧ W.cell? ⟨(ad.add (k.toNat * 6)).block, (ad.add (k.toNat * 6)).off + 5, none⟩ = some (.string y.f5) ∧ Gr w W) → Calls Tryz.prog 77 #[.agg #[.int .i64 x.f0, .string x.f1, .slice A2 x.f2.length c2, .slice A3 x.f3.length c3, .string x.f4, .string x.f5], .agg #[.int .i64 y.f0, .string y.f1, .slice B2 y.f2.length d2, .slice B3 y.f3.length d3, .string y.f4, .string y.f5]] W fun e w' => e = .returned (.bool (lessO x y)) ∧ Gr W w' := fun W h => HL1.out W (h.2.2.2.2.2.2.2.2.2.2.2.2)
 have hq2 : ∀ W : World, (W.cell? (ad.add (i.toNat * 6)) = some (.int .i64 x.f0) ∧ W.cell? ⟨(ad.add (i.toNat * 6)).block, (ad.add (i.toNat * 6)).off + 1, none⟩ = some (.string x.f1) ∧ W.cell? ⟨(ad.add (i.toNat * 6)).block, (ad.add (i.toNat * 6)).off + 2, none⟩ = some (.slice A2 x.f2.length c2) ∧ W.cell? ⟨(ad.add (i.toNat * 6)).block, (ad.add (i.toNat * 6)).off + 3, none⟩ = some (.slice A3 x.f3.length c3) ∧ W.cell? ⟨(ad.add (i.toNat * 6)).block, (ad.add (i.toNat * 6)).off + 4, none⟩ = some (.string x.f4) ∧ W.cell? ⟨(ad.add (i.toNat * 6)).block, (ad.add (i.toNat * 6)).off + 5, none⟩ = some (.string x.f5) ∧ W.cell? (ad.add (k.toNat * 6)) = some (.int .i64 y.f0) ∧ W.cell? ⟨(ad.add (k.toNat * 6)).block, (ad.add (k.toNat * 6)).off + 1, none⟩ = some (.string y.f1) ∧ W.cell? ⟨(ad.add (k.toNat * 6)).block, (ad.add (k.toNat * 6)).off + 2, none⟩ = some (.slice B2 y.f2.length d2) ∧ W.cell? ⟨(ad.add (k.toNat * 6)).block, (ad.add (k.toNat * 6)).off + 3, none⟩ = some (.slice B3 y.f3.length d3) ∧ W.cell? ⟨(ad.add (k.toNat * 6)).block, (ad.add (k.toNat * 6)).off + 4, none⟩ = some (.string y.f4) ∧ W.cell? ⟨(ad.add (k.toNat * 6)).block, (ad.add (k.toNat * 6)).off + 5, none⟩ = some (.string y.f5) ∧ Gr w W) → Calls Tryz.prog 77 #[.agg #[.int .i64 y.f0, .string y.f1, .slice B2 y.f2.length d2, .slice B3 y.f3.length d3, .string y.f4, .string y.f5], .agg #[.int .i64 x.f0, .string x.f1, .slice A2 x.f2.length c2, .slice A3 x.f3.length c3, .string x.f4, .string x.f5]] W fun e w' => e = .returned (.bool (lessO y x)) ∧ Gr W w' := fun W h => HL2.out W (h.2.2.2.2.2.2.2.2.2.2.2.2)
 have p0 := eq_true h0
 have p1 := eq_true h1
 have p2 := eq_true h2
 have p3 := eq_true h3
 generalize lessO x y = b1 at hq1 HL1 ⊢
 generalize lessO y x = b2 at hq2 HL2 ⊢
 clear HL1 HL2
 go_enter Tryz.func41, Tryz.ntmps41
 go_wp2_with (fail)
 go_region_held3 (fun W => W.cell? (ad.add (i.toNat * 6)) = some (.int .i64 x.f0) ∧ W.cell? ⟨(ad.add (i.toNat * 6)).block, (ad.add (i.toNat * 6)).off + 1, none⟩ = some (.string x.f1) ∧ W.cell? ⟨(ad.add (i.toNat * 6)).block, (ad.add (i.toNat * 6)).off + 2, none⟩ = some (.slice A2 x.f2.length c2) ∧ W.cell? ⟨(ad.add (i.toNat * 6)).block, (ad.add (i.toNat * 6)).off + 3, none⟩ = some (.slice A3 x.f3.length c3) ∧ W.cell? ⟨(ad.add (i.toNat * 6)).block, (ad.add (i.toNat * 6)).off + 4, none⟩ = some (.string x.f4) ∧ W.cell? ⟨(ad.add (i.toNat * 6)).block, (ad.add (i.toNat * 6)).off + 5, none⟩ = some (.string x.f5) ∧ W.cell? (ad.add (k.toNat * 6)) = some (.int .i64 y.f0) ∧ W.cell? ⟨(ad.add (k.toNat * 6)).block, (ad.add (k.toNat * 6)).off + 1, none⟩ = some (.string y.f1) ∧ W.cell? ⟨(ad.add (k.toNat * 6)).block, (ad.add (k.toNat * 6)).off + 2, none⟩ = some (.slice B2 y.f2.length d2) ∧ W.cell? ⟨(ad.add (k.toNat * 6)).block, (ad.add (k.toNat * 6)).off + 3, none⟩ = some (.slice B3 y.f3.length d3) ∧ W.cell? ⟨(ad.add (k.toNat * 6)).block, (ad.add (k.toNat * 6)).off + 4, none⟩ = some (.string y.f4) ∧ W.cell? ⟨(ad.add (k.toNat * 6)).block, (ad.add (k.toNat * 6)).off + 5, none⟩ = some (.string y.f5) ∧ Gr w W) (first | (with_reducible exact hS _ HB8) | (with_reducible exact hS _ (Gr.drew (Gr.refl _)))) ((go_at_call 77; (with_reducible refine (hq1 _ (by assumption)).mono ?_); rintro e w8 ⟨rfl, hB⟩; have HB8 : Gr w w8 := (hK1 _ _ (by assumption) hB).2.2.2.2.2.2.2.2.2.2.2.2))
 clear hq1
 cases b1
 ·go_wp2_with (fail)
  go_region_held3 (fun W => W.cell? (ad.add (i.toNat * 6)) = some (.int .i64 x.f0) ∧ W.cell? ⟨(ad.add (i.toNat * 6)).block, (ad.add (i.toNat * 6)).off + 1, none⟩ = some (.string x.f1) ∧ W.cell? ⟨(ad.add (i.toNat * 6)).block, (ad.add (i.toNat * 6)).off + 2, none⟩ = some (.slice A2 x.f2.length c2) ∧ W.cell? ⟨(ad.add (i.toNat * 6)).block, (ad.add (i.toNat * 6)).off + 3, none⟩ = some (.slice A3 x.f3.length c3) ∧ W.cell? ⟨(ad.add (i.toNat * 6)).block, (ad.add (i.toNat * 6)).off + 4, none⟩ = some (.string x.f4) ∧ W.cell? ⟨(ad.add (i.toNat * 6)).block, (ad.add (i.toNat * 6)).off + 5, none⟩ = some (.string x.f5) ∧ W.cell? (ad.add (k.toNat * 6)) = some (.int .i64 y.f0) ∧ W.cell? ⟨(ad.add (k.toNat * 6)).block, (ad.add (k.toNat * 6)).off + 1, none⟩ = some (.string y.f1) ∧ W.cell? ⟨(ad.add (k.toNat * 6)).block, (ad.add (k.toNat * 6)).off + 2, none⟩ = some (.slice B2 y.f2.length d2) ∧ W.cell? ⟨(ad.add (k.toNat * 6)).block, (ad.add (k.toNat * 6)).off + 3, none⟩ = some (.slice B3 y.f3.length d3) ∧ W.cell? ⟨(ad.add (k.toNat * 6)).block, (ad.add (k.toNat * 6)).off + 4, none⟩ = some (.string y.f4) ∧ W.cell? ⟨(ad.add (k.toNat * 6)).block, (ad.add (k.toNat * 6)).off + 5, none⟩ = some (.string y.f5) ∧ Gr w W) (first | (with_reducible exact hS _ HB9) | (with_reducible exact hK1 _ _ (by assumption) (Gr.drew (Gr.refl _)))) ((go_at_call 77; (with_reducible refine (hq2 _ (by assumption)).mono ?_); rintro e w9 ⟨rfl, hB⟩; have HB9 : Gr w w9 := (hK1 _ _ (by assumption) hB).2.2.2.2.2.2.2.2.2.2.2.2))
  clear hq2
  cases b2
  ·go_wp2_with (fail)
   go_ret
   exact ⟨by (rfl), HB9⟩
  ·go_wp2_with (fail)
   go_ret
   exact ⟨by (rfl), HB9⟩
 ·go_wp2_with (fail)
  go_ret
  exact ⟨by (rfl), HB8⟩
end Go.Proofs.YtpdkgpmcmebefaaGreatDoor.Q
namespace Go.Proofs.YtpdkgpmcmebefaaGreatDoor.Q
open Go.RowKit Go.Proofs.YtpdkgpmcmebefaaGreatDoorW.PrintWords Go.Proofs.YtpdkgpmcmebefaaGreatDoorW.PrintLast Go.Proofs.YtpdkgpmcmebefaaGreatDoorW.PrintMore
attribute [local go_sem] max2_int min2_int max_two min_two max_three min_three max_four min_four
theorem bl_lt : ∀ x y : List UInt8, Op.bytesLess x y = true ↔ x < y
 | [], [] => by simp [Op.bytesLess]
 | [], _ :: _ => by simp [Op.bytesLess]
 | _ :: _, [] => by simp [Op.bytesLess]
 | a :: x, b :: y => by
  rw [Op.bytesLess, List.cons_lt_cons_iff, ← bl_lt x y]
  simp
def TC {α : Type} (c : α → α → Int) : Prop := (∀ x y, c y x = - c x y) ∧ ∀ x y z, c x y ≤ 0 → c y z ≤ 0 → c x z ≤ 0
theorem TC.same {α : Type} {c : α → α → Int} (h : TC c) (x : α) : c x x = 0 := by have := h.1 x x; omega
theorem TC.lt_of_lt_of_le {α : Type} {c : α → α → Int} (h : TC c) {x y z : α} (a : c x y < 0) (b : c y z ≤ 0) : c x z < 0 := by
 have h1 := h.2 x y z (by omega) b
 rcases Int.lt_or_eq_of_le h1 with h2 | h2
 ·exact h2
 ·have h3 := h.2 y z x b (by have := h.1 x z; omega)
  have := h.1 x y
  omega
theorem TC.lt_of_le_of_lt {α : Type} {c : α → α → Int} (h : TC c) {x y z : α} (a : c x y ≤ 0) (b : c y z < 0) : c x z < 0 := by
 have h1 := h.2 x y z a (by omega)
 rcases Int.lt_or_eq_of_le h1 with h2 | h2
 ·exact h2
 ·have h3 := h.2 z x y (by have := h.1 x z; omega) a
  have := h.1 y z
  omega
theorem TC.eq_trans {α : Type} {c : α → α → Int} (h : TC c) {x y z : α} (a : c x y = 0) (b : c y z = 0) : c x z = 0 := by
 have h1 := h.2 x y z (by omega) (by omega)
 have h2 := h.2 z y x (by have := h.1 y z; omega) (by have := h.1 x y; omega)
 have := h.1 x z
 omega
theorem TC.lex {α : Type} {c d : α → α → Int} (h : TC c) (k : TC d) : TC fun x y => if c x y = 0 then d x y else c x y := by
 refine ⟨fun x y => ?_, fun x y z a b => ?_⟩
 ·show (if c y x = 0 then d y x else c y x) = -(if c x y = 0 then d x y else c x y)
  have h1 := h.1 x y
  have h2 := k.1 x y
  by_cases e : c x y = 0
  ·rw [if_pos e, if_pos (by omega), h2]
  ·rw [if_neg e, if_neg (by omega), h1]
 ·replace a : (if c x y = 0 then d x y else c x y) ≤ 0 := a
  replace b : (if c y z = 0 then d y z else c y z) ≤ 0 := b
  show (if c x z = 0 then d x z else c x z) ≤ 0
  by_cases e1 : c x y = 0
  ·rw [if_pos e1] at a
   by_cases e2 : c y z = 0
   ·rw [if_pos e2] at b
    rw [if_pos (h.eq_trans e1 e2)]
    exact k.2 x y z a b
   ·rw [if_neg e2] at b
    have h3 := h.lt_of_le_of_lt (x := x) (y := y) (z := z) (by omega) (by omega)
    rw [if_neg (by omega)]
    omega
  ·rw [if_neg e1] at a
   have h3 : c x z < 0 := by
    by_cases e2 : c y z = 0
    ·exact h.lt_of_lt_of_le (y := y) (by omega) (by omega)
    ·rw [if_neg e2] at b
     exact h.lt_of_lt_of_le (y := y) (by omega) (by omega)
   rw [if_neg (by omega)]
   omega
theorem TC.on {α β : Type} {c : β → β → Int} (h : TC c) (f : α → β) : TC fun x y => c (f x) (f y) := ⟨fun x y => h.1 _ _, fun x y z => h.2 _ _ _⟩
theorem TC.flip {α : Type} {c : α → α → Int} (h : TC c) : TC fun x y => c y x := ⟨fun x y => h.1 _ _, fun x y z a b => h.2 _ _ _ b a⟩
theorem tc_I : TC cmpI := by
 refine ⟨fun x y => ?_, fun x y z a b => ?_⟩
 ·unfold cmpI; split <;> split <;> (try split) <;> omega
 ·unfold cmpI at *
  split at a <;> split at b <;> split <;> (try split) <;> (try omega)
  all_goals (try (split at a)) <;> (try (split at b)) <;> omega
theorem cmpS_cases (a b : ByteArray) : (cmpS a b = -1 ∧ a.toList < b.toList) ∨ (cmpS a b = 0 ∧ a.toList = b.toList) ∨ (cmpS a b = 1 ∧ b.toList < a.toList) := by
 unfold cmpS
 by_cases h : a.toList < b.toList
 ·left
  rw [if_pos ((bl_lt _ _).2 h)]
  exact ⟨rfl, h⟩
 ·rw [if_neg (fun e => h ((bl_lt _ _).1 e))]
  have h2 : Op.bytesLess a.toList b.toList = false := by
   cases hb : Op.bytesLess a.toList b.toList with
   | false => rfl
   | true => exact absurd ((bl_lt _ _).1 hb) h
  rw [h2, Bool.false_or]
  by_cases e : a.toList = b.toList
  ·right; left
   rw [beq_iff_eq.2 e]
   exact ⟨rfl, e⟩
  ·right; right
   have he : (a.toList == b.toList) = false := beq_eq_false_iff_ne.2 e
   rw [he]
   refine ⟨rfl, ?_⟩
   by_cases h3 : b.toList < a.toList
   ·exact h3
   ·exact absurd (List.le_antisymm (List.not_lt.1 h3) (List.not_lt.1 h)) e
theorem tc_S : TC cmpS := by
 refine ⟨fun x y => ?_, fun x y z a b => ?_⟩
 ·rcases cmpS_cases x y with ⟨h1, h2⟩ | ⟨h1, h2⟩ | ⟨h1, h2⟩ <;> rcases cmpS_cases y x with ⟨k1, k2⟩ | ⟨k1, k2⟩ | ⟨k1, k2⟩ <;> first | (rw [h1, k1]; rfl) | (rw [h1, k1]; done) | (exfalso; exact List.lt_irrefl _ (List.lt_trans h2 k2)) | (exfalso; rw [h2] at k2; exact List.lt_irrefl _ k2) | (exfalso; rw [k2] at h2; exact List.lt_irrefl _ h2)
 ·rcases cmpS_cases x z with ⟨h1, _⟩ | ⟨h1, _⟩ | ⟨h1, h2⟩
  ·omega
  ·omega
  ·exfalso
   have hx : x.toList ≤ y.toList := by
    rcases cmpS_cases x y with ⟨_, k⟩ | ⟨_, k⟩ | ⟨k, _⟩
    ·exact List.le_of_lt k
    ·rw [k]; exact List.le_refl _
    ·omega
   have hy : y.toList ≤ z.toList := by
    rcases cmpS_cases y z with ⟨_, k⟩ | ⟨_, k⟩ | ⟨k, _⟩
    ·exact List.le_of_lt k
    ·rw [k]; exact List.le_refl _
    ·omega
   exact List.lt_irrefl _ (List.lt_of_le_of_lt (List.le_trans hx hy) h2)
theorem cmpL_anti : ∀ x y : List ByteArray, cmpL y x = - cmpL x y
 | [], [] => rfl
 | [], _ :: _ => rfl
 | _ :: _, [] => rfl
 | a :: x, b :: y => by
  unfold cmpL
  have h1 := tc_S.1 a b
  by_cases e : cmpS a b = 0
  ·rw [if_pos e, if_pos (by omega), cmpL_anti x y]
  ·rw [if_neg e, if_neg (by omega), h1]
theorem cmpL_trans : ∀ x y z : List ByteArray, cmpL x y ≤ 0 → cmpL y z ≤ 0 → cmpL x z ≤ 0
 | [], _, [], _, _ => by unfold cmpL; omega
 | [], _, _ :: _, _, _ => by unfold cmpL; omega
 | _ :: _, [], _, h, _ => by unfold cmpL at h; omega
 | _ :: _, _ :: _, [], _, h => by unfold cmpL at h; omega
 | a :: x, b :: y, c :: z, h, k => by
  unfold cmpL at h k ⊢
  by_cases e1 : cmpS a b = 0
  ·rw [if_pos e1] at h
   by_cases e2 : cmpS b c = 0
   ·rw [if_pos e2] at k
    rw [if_pos (tc_S.eq_trans e1 e2)]
    exact cmpL_trans x y z h k
   ·rw [if_neg e2] at k
    have h3 := tc_S.lt_of_le_of_lt (x := a) (y := b) (z := c) (by omega) (by omega)
    rw [if_neg (by omega)]
    omega
  ·rw [if_neg e1] at h
   have h3 : cmpS a c < 0 := by
    by_cases e2 : cmpS b c = 0
    ·exact tc_S.lt_of_lt_of_le (y := b) (by omega) (by omega)
    ·rw [if_neg e2] at k
     exact tc_S.lt_of_lt_of_le (y := b) (by omega) (by omega)
   rw [if_neg (by omega)]
   omega
theorem tc_L : TC cmpL := ⟨cmpL_anti, cmpL_trans⟩
theorem tc_ord : TC ordP := by
 have h := ((tc_I.on fun x : S28 => x.f0).lex ((tc_S.on fun x : S28 => x.f1).lex ((tc_L.on fun x : S28 => x.f2).lex ((tc_L.on fun x : S28 => x.f3).lex ((tc_S.on fun x : S28 => x.f4).lex (tc_S.on fun x : S28 => x.f5))))))
 have e : ordP = fun x y => (if cmpI x.f0 y.f0 = 0 then (if cmpS x.f1 y.f1 = 0 then (if cmpL x.f2 y.f2 = 0 then (if cmpL x.f3 y.f3 = 0 then (if cmpS x.f4 y.f4 = 0 then cmpS x.f5 y.f5 else cmpS x.f4 y.f4) else cmpL x.f3 y.f3) else cmpL x.f2 y.f2) else cmpS x.f1 y.f1) else cmpI x.f0 y.f0) := by
  funext x y
  unfold ordP
  simp only [orI]
  by_cases e : cmpS x.f5 y.f5 = 0
  ·rw [if_pos e, e]
  ·rw [if_neg e]
 rw [e]
 exact h
def cN (l : List S28) (i k : Nat) : Int := if ordP (rd_T28 l (k : Int)) (rd_T28 l (i : Int)) = 0 then (k : Int) - (i : Int) else ordP (rd_T28 l (k : Int)) (rd_T28 l (i : Int))
theorem tc_N (l : List S28) : TC (cN l) := by
 have h : TC fun i k : Nat => ordP (rd_T28 l (k : Int)) (rd_T28 l (i : Int)) := (tc_ord.on fun i : Nat => rd_T28 l (i : Int)).flip
 have h2 : TC fun i k : Nat => (k : Int) - (i : Int) := ⟨fun x y => by show (x : Int) - (y : Int) = -((y : Int) - (x : Int)); omega, fun x y z a b => by
  replace a : (y : Int) - (x : Int) ≤ 0 := a
  replace b : (z : Int) - (y : Int) ≤ 0 := b
  show (z : Int) - (x : Int) ≤ 0
  omega⟩
 exact h.lex h2
theorem cN_total (l : List S28) {i k : Nat} (h : cN l i k = 0) : i = k := by
 unfold cN at h
 split at h
 ·omega
 ·rename_i h2; exact absurd h h2
theorem newI_neg (l : List S28) (i k : Nat) (hi : i ≤ 1000000) (hk : k ≤ 1000000) : newI l (i : Int) (k : Int) < 0 ↔ cN l i k < 0 := by
 unfold newI cN lessO
 have h := tc_ord.1 (rd_T28 l (i : Int)) (rd_T28 l (k : Int))
 generalize ordP (rd_T28 l (i : Int)) (rd_T28 l (k : Int)) = a at h ⊢
 rw [h]
 have hw : wrap64 ((k : Int) - (i : Int)) = (k : Int) - (i : Int) := wrap_id (by omega)
 rw [hw]
 by_cases h1 : a < 0
 ·rw [if_pos (decide_eq_true h1), if_neg (by omega)]
  omega
 ·rw [if_neg (by simpa using h1)]
  by_cases h2 : -a < 0
  ·rw [if_pos (decide_eq_true h2), if_neg (by omega)]
   omega
  ·rw [if_neg (by simpa using h2), if_pos (by omega)]
def setL (cur : Array Value) : Nat → List Value → Array Value
 | _, [] => cur
 | o, v :: r => setL (cur.setIfInBounds o v) (o + 1) r
theorem setL_list : ∀ (vs : List Value) (cur : Array Value) (o : Nat), o + vs.length ≤ cur.size → (setL cur o vs).toList = cur.toList.take o ++ vs ++ cur.toList.drop (o + vs.length)
 | [], cur, o, _ => by simp [setL]
 | v :: r, cur, o, h => by
  simp only [List.length_cons] at h
  rw [setL, setL_list r _ _ (by simp; omega), Array.toList_setIfInBounds]
  have h1 : o < cur.toList.length := by simp; omega
  rw [List.take_succ_eq_append_getElem (by simpa using h1), List.take_set_of_le (Nat.le_refl _)]
  simp only [List.getElem_set_self, List.length_cons]
  rw [List.drop_set_of_lt (by omega), show o + 1 + r.length = o + (r.length + 1) by omega]
  simp
theorem setCells_blk (g t : Nat) : ∀ (vs : List Value) (o : Nat) (w : World) (cur : Array Value), w.heap[g]? = some (.cells cur t (0, 0)) → (w.setCells g o vs).heap[g]? = some (.cells (setL cur o vs) t (0, 0))
 | [], _, _, _, h => h
 | v :: r, o, _, _, h => setCells_blk g t r (o + 1) _ _ (blk_set h o v)
theorem setCells_grown (g : Nat) : ∀ (vs : List Value) (o : Nat) (w : World), w.grownBy (w.setCells g o vs) (some g)
 | [], _, w => grown_of_below (Below.refl _ _) _
 | v :: r, o, w => by
  have h1 : w.grownBy (w.setCell ⟨g, o, none⟩ v) (some g) := ⟨rfl, rfl, rfl, by simp, fun k _ hk => Below.heap_setCell w ⟨g, o, none⟩ v k (fun e => hk (by rw [e]))⟩
  exact h1.trans (setCells_grown g r (o + 1) _)
theorem run_load_any {P : Program} (w : World) (ad : Addr) (ty : TypeId) (cs : List Value) (d : TypeDesc) (hc : ∀ j v, cs[j]? = some v → w.cell? (ad.add j) = some v)
  (hu : P.underlying ty = some d) (hd : (match d with | .struct _ | .array _ _ => true | _ => false) = true) (hi : (P.info? ty).map (·.size) = some cs.length) :
  (loadVar ty ad).run P w = .ok (.agg cs.toArray) w := by
 have hl : (loadCells ad cs.length).run P w = .ok cs.toArray w := run_loadCells_list (P := P) w ad cs hc
 cases hq : P.info? ty with
 | none => simp [hq] at hi
 | some i =>
  have hs : i.size = cs.length := by simpa [hq] using hi
  have hagg : (isAgg ty).run P w = .ok true w := by
   unfold isAgg
   rw [Sem.run_bind, run_underlying hu w]
   cases d <;> simp_all
  simp [loadVar, Sem.run_bind, hagg, sizeOf, typeInfo, hq, hs, hl]
theorem wanted_none {o : Oper} {ys : Nat → Option Bool} (h : o.guard = none) : Region.wanted o ys = true := by unfold Region.wanted; rw [h]
theorem cells_blk {w : World} {g : Nat} {t : TypeId} {cs : List Value} (h : w.heap[g]? = some (.cells cs.toArray t (0, 0))) : ∀ j v, cs[j]? = some v → w.cell? ((⟨g, 0, none⟩ : Addr).add j) = some v := fun j v hv => by
 rw [add_plain, blk_cell h]
 simpa using hv
theorem wpList_store_new {P : Program} {ops : Array Oper} {rest : List Oper} {o : Oper} {a : Act} {w : World} {Q : Exit → Act → World → Prop} (hgd : o.guard = none) (ty : TypeId) (x y : Operand) (ho : o.op = .store ty x y) (g : Nat) (old : Array Value) (cs : List Value) (t : TypeId) (hx : a.eval x = .pointer (some ⟨g, 0, none⟩)) (hy : a.eval y = .agg cs.toArray)
  (hb : w.heap[g]? = some (.cells old t (0, 0))) (hs : old.size = cs.length) (hi : (P.info? ty).map (·.size) = some cs.length) (h1 : ∀ v ∈ cs, v.oneCell' = true)
  (h : ∀ w1, w1.heap[g]? = some (.cells cs.toArray t (0, 0)) → w.grownBy w1 (some g) → wpList P ops Q rest (a.put o.dst undef) w1) : wpList P ops Q (o :: rest) a w := by
 refine wpList_store_mid hgd ty x y ho g 0 cs.toArray hx hy (fun j hj => ?_) (by simpa using hi) (all_oneCell_toArray h1) (h _ ?_ (setCells_grown g _ 0 w))
 ·rw [Nat.zero_add, blk_cell hb, blk_frozen hb]
  exact ⟨by rw [Array.getElem?_eq_getElem (by rw [hs]; simpa using hj)]; rfl, rfl⟩
 ·have h2 := setCells_blk g t cs.toArray.toList 0 w old hb
  rw [h2]
  congr 2
  apply Array.toList_inj.1
  rw [setL_list _ _ _ (by simp; omega)]
  simp
  omega
theorem results1 {fn : Func} {t : Tmp} {ty : TypeId} (h : fn.results = #[.cell t ty]) (tmps : Array Value) {P : Program} {w : World} (ad : Addr) (hp : tmps.getD t undef = .pointer (some ad)) {v : Value} (hl : (loadVar ty ad).run P w = .ok v w) :
  (results fn tmps).run P w = .ok v w := by
 have hp2 : tmps[t]?.getD undef = .pointer (some ad) := by rw [← Array.getD_eq_getD_getElem?]; exact hp
 simp [results, h, hp2, asAddr, Sem.run_bind, hl]
structure Pol where
 last : Int
 hour : Int
 day : Int
 week : Int
 month : Int
 year : Int
 within : Int
 tags : List ByteArray
def unitsP (p : Pol) : List Int := [p.last, p.hour, p.day, p.week, p.month, p.year]
abbrev aggP (p : Pol) (A : Option Addr) (n c : Nat) : Value := .agg #[.int .i64 p.last, .int .i64 p.hour, .int .i64 p.day, .int .i64 p.week, .int .i64 p.month, .int .i64 p.year, .int .i64 p.within, .slice A n c]
abbrev aggU (p : Pol) : Value := .agg #[.int .i64 p.last, .int .i64 p.hour, .int .i64 p.day, .int .i64 p.week, .int .i64 p.month, .int .i64 p.year]
theorem s54 : (Tryz.prog.info? 54).map (·.size) = some 6 := by kernel_rfl
theorem units_calls (p : Pol) (A : Option Addr) (n c : Nat) (w : World) : Calls Tryz.prog 29 #[aggP p A n c] w fun e w' => e = .returned (aggU p) ∧ Below w.heap.size w w' := by
 have hu24 := Tryz.underlying24
 have HB0 : Sd (Below w.heap.size w ((w.alloc (.cells #[.int .i64 p.last, .int .i64 p.hour, .int .i64 p.day, .int .i64 p.week, .int .i64 p.month, .int .i64 p.year, .int .i64 p.within, .slice A n c] 24)).alloc (.cells #[.int .i64 0, .int .i64 0, .int .i64 0, .int .i64 0, .int .i64 0, .int .i64 0] 54))) := ⟨below_alloc (below_alloc (Below.refl _ _) _) _⟩
 have HX : Sd (((w.alloc (.cells #[.int .i64 p.last, .int .i64 p.hour, .int .i64 p.day, .int .i64 p.week, .int .i64 p.month, .int .i64 p.year, .int .i64 p.within, .slice A n c] 24)).alloc (.cells #[.int .i64 0, .int .i64 0, .int .i64 0, .int .i64 0, .int .i64 0, .int .i64 0] 54)).heap[w.heap.size]? = some (.cells #[.int .i64 p.last, .int .i64 p.hour, .int .i64 p.day, .int .i64 p.week, .int .i64 p.month, .int .i64 p.year, .int .i64 p.within, .slice A n c] 24 (0, 0))) := ⟨blk_below (blk_new _ _) (below_alloc (Below.refl _ _) _)⟩
 have HY : Sd (((w.alloc (.cells #[.int .i64 p.last, .int .i64 p.hour, .int .i64 p.day, .int .i64 p.week, .int .i64 p.month, .int .i64 p.year, .int .i64 p.within, .slice A n c] 24)).alloc (.cells #[.int .i64 0, .int .i64 0, .int .i64 0, .int .i64 0, .int .i64 0, .int .i64 0] 54)).heap[w.heap.size + 1]? = some (.cells #[.int .i64 0, .int .i64 0, .int .i64 0, .int .i64 0, .int .i64 0, .int .i64 0] 54 (0, 0))) := ⟨by have h := blk_new (w.alloc (.cells #[.int .i64 p.last, .int .i64 p.hour, .int .i64 p.day, .int .i64 p.week, .int .i64 p.month, .int .i64 p.year, .int .i64 p.within, .slice A n c] 24)) (.cells #[.int .i64 0, .int .i64 0, .int .i64 0, .int .i64 0, .int .i64 0, .int .i64 0] 54); rwa [show (w.alloc (.cells #[.int .i64 p.last, .int .i64 p.hour, .int .i64 p.day, .int .i64 p.week, .int .i64 p.month, .int .i64 p.year, .int .i64 p.within, .slice A n c] 24)).heap.size = w.heap.size + 1 from by simp] at h⟩
 go_enter Tryz.func29, Tryz.ntmps29
 go_upto_region 1 with (fail)
 generalize ((w.alloc (.cells #[.int .i64 p.last, .int .i64 p.hour, .int .i64 p.day, .int .i64 p.week, .int .i64 p.month, .int .i64 p.year, .int .i64 p.within, .slice A n c] 24)).alloc (.cells #[.int .i64 0, .int .i64 0, .int .i64 0, .int .i64 0, .int .i64 0, .int .i64 0] 54)) = W0 at HX HY HB0 ⊢
 have HG : Sd (w.heap.size ≤ w.heap.size + 1) := ⟨by omega⟩
 generalize w.heap.size + 1 = gy at HY HG ⊢
 have x0 : W0.cell? ⟨w.heap.size, 0, none⟩ = some (.int .i64 p.last) := (blk_cell HX.out 0).trans rfl
 have x1 : W0.cell? ⟨w.heap.size, 1, none⟩ = some (.int .i64 p.hour) := (blk_cell HX.out 1).trans rfl
 have x2 : W0.cell? ⟨w.heap.size, 2, none⟩ = some (.int .i64 p.day) := (blk_cell HX.out 2).trans rfl
 have x3 : W0.cell? ⟨w.heap.size, 3, none⟩ = some (.int .i64 p.week) := (blk_cell HX.out 3).trans rfl
 have x4 : W0.cell? ⟨w.heap.size, 4, none⟩ = some (.int .i64 p.month) := (blk_cell HX.out 4).trans rfl
 have x5 : W0.cell? ⟨w.heap.size, 5, none⟩ = some (.int .i64 p.year) := (blk_cell HX.out 5).trans rfl
 go_wp2_with ((refine wpList_store_new rfl 54 (.tmp 2) (.tmp 15) rfl gy #[.int .i64 0, .int .i64 0, .int .i64 0, .int .i64 0, .int .i64 0, .int .i64 0] [.int .i64 p.last, .int .i64 p.hour, .int .i64 p.day, .int .i64 p.week, .int .i64 p.month, .int .i64 p.year] 54 rfl rfl HY.out rfl s54 (by simp [Value.oneCell']) ?_; intro w1 hb hg; have HB1 := Sd.mk hb; have HG1 := Sd.mk hg; clear hb hg))
 refine bodyPost_ret (results1 rfl _ ⟨gy, 0, none⟩ rfl (run_load_any w1 _ 54 [.int .i64 p.last, .int .i64 p.hour, .int .i64 p.day, .int .i64 p.week, .int .i64 p.month, .int .i64 p.year] _ (cells_blk HB1.out) Tryz.underlying54 rfl s54)) rfl ?_
 exact ⟨rfl, pw_below_grown HB0.out _ HB0.out.size HG1.out (fun k hk => by injection hk with hk; rw [← hk]; exact HG.out)⟩
def zeroU (p : Pol) : Bool := p.last == 0 && (p.hour == 0 && (p.day == 0 && (p.week == 0 && (p.month == 0 && p.year == 0))))
def silentP (p : Pol) : Bool := zeroU p && (p.within == 0 && ((p.tags.length : Int) == 0))
theorem eq3_run (d : Nat) (a b : Int) (w : World) : (Op.equalIn (d + 1) 3 (.int .i64 a) (.int .i64 b)).run Tryz.prog w = .ok (a == b) w := by
 have hu3 := Tryz.underlying3
 simp [Op.equalIn, go_sem]
theorem part3_run (xs : Array Value) (o : Nat) (v : Value) (h : xs[o]? = some v) (w : World) : (part 3 xs o).run Tryz.prog w = .ok v w := by
 have hu3 := Tryz.underlying3
 simp [part, go_sem, h]
theorem item3_run (d : Nat) (xs ys : Array Value) (i : Nat) (is : List Nat) (a b : Int) (h1 : xs[i]? = some (.int .i64 a)) (h2 : ys[i]? = some (.int .i64 b)) (w : World) :
  (Op.eqItems (d + 1) 3 1 xs ys (i :: is)).run Tryz.prog w = if (a == b) = true then (Op.eqItems (d + 1) 3 1 xs ys is).run Tryz.prog w else .ok false w := by
 rw [Op.eqItems]
 simp only [Nat.mul_one, Sem.run_bind, part3_run _ _ _ h1, part3_run _ _ _ h2, Result.andThen_ok, eq3_run]
 cases (a == b) <;> simp
theorem items54 (d : Nat) (p : Pol) (w : World) : (Op.eqItems (d + 1) 3 1 #[.int .i64 p.last, .int .i64 p.hour, .int .i64 p.day, .int .i64 p.week, .int .i64 p.month, .int .i64 p.year] #[.int .i64 0, .int .i64 0, .int .i64 0, .int .i64 0, .int .i64 0, .int .i64 0] [0, 1, 2, 3, 4, 5]).run Tryz.prog w = .ok (zeroU p) w := by
 rw [item3_run d _ _ 0 _ p.last 0 rfl rfl, item3_run d _ _ 1 _ p.hour 0 rfl rfl, item3_run d _ _ 2 _ p.day 0 rfl rfl, item3_run d _ _ 3 _ p.week 0 rfl rfl, item3_run d _ _ 4 _ p.month 0 rfl rfl, item3_run d _ _ 5 _ p.year 0 rfl rfl]
 unfold zeroU
 cases p.last == 0
 ·rfl
 cases p.hour == 0
 ·rfl
 cases p.day == 0
 ·rfl
 cases p.week == 0
 ·rfl
 cases p.month == 0
 ·rfl
 cases p.year == 0
 ·rfl
 rfl
theorem eql54 {o : Oper} {a : Act} {m n : Nat} {p : Pol} (hop : o.op = Op.binOp BinOp.eql 54 (.tmp m) (.tmp n) 54) (hx : a.eval (.tmp m) = aggU p) (hy : a.eval (.tmp n) = .agg #[.int .i64 0, .int .i64 0, .int .i64 0, .int .i64 0, .int .i64 0, .int .i64 0]) (wq : World) : (execOp a.eval o).run Tryz.prog wq = .ok (.value (.bool (zeroU p))) wq := by
 have hu54 := Tryz.underlying54
 have hu3 := Tryz.underlying3
 simp only [Act.eval] at hx hy
 obtain ⟨i3, hi3⟩ : ∃ i, Tryz.prog.info? 3 = some i := Option.isSome_iff_exists.1 (by kernel_rfl)
 have hc3 : Tryz.prog.cellsOf 3 = 1 := by kernel_rfl
 have h : (Op.equalIn 10000 54 (aggU p) (.agg #[.int .i64 0, .int .i64 0, .int .i64 0, .int .i64 0, .int .i64 0, .int .i64 0])).run Tryz.prog wq = .ok (zeroU p) wq := by
  have h := run_equalIn_array (P := Tryz.prog) (w := wq) 9999 #[.int .i64 p.last, .int .i64 p.hour, .int .i64 p.day, .int .i64 p.week, .int .i64 p.month, .int .i64 p.year] #[.int .i64 0, .int .i64 0, .int .i64 0, .int .i64 0, .int .i64 0, .int .i64 0] hu54 hi3
  rw [hc3, show List.range 6 = [0, 1, 2, 3, 4, 5] from rfl] at h
  exact h.trans (items54 9998 p wq)
 simp [execOp, hop, hx, hy, go_sem, h]
theorem wpList_eql54 {ops : Array Oper} {rest : List Oper} {o : Oper} {a : Act} {w : World} {Q : Exit → Act → World → Prop} (hgd : o.guard = none) {m n : Nat} {p : Pol} (hop : o.op = Op.binOp BinOp.eql 54 (.tmp m) (.tmp n) 54) (hx : a.eval (.tmp m) = aggU p) (hy : a.eval (.tmp n) = .agg #[.int .i64 0, .int .i64 0, .int .i64 0, .int .i64 0, .int .i64 0, .int .i64 0])
  (h : wpList Tryz.prog ops Q rest (a.put o.dst (.bool (zeroU p))) w) : wpList Tryz.prog ops Q (o :: rest) a w := by
 refine wpList_step fun K hK => ?_
 rw [if_pos (wanted_none hgd)]
 unfold Oper.wp
 rw [eql54 hop hx hy]
 exact hK _ _ h
theorem silent_calls (p : Pol) (A : Option Addr) (c : Nat) (w : World) (hl : (p.tags.length : Int) < 9223372036854775807) : Calls Tryz.prog 23 #[aggP p A p.tags.length c] w fun e w' => e = .returned (.bool (silentP p)) ∧ Below w.heap.size w w' := by
 have hu24 := Tryz.underlying24
 have hu54 := Tryz.underlying54
 have hun := fun W => units_calls p A p.tags.length c W
 have HL := Sd.mk hl
 clear hl
 have HB0 : Sd (Below w.heap.size w (w.alloc (.cells #[.int .i64 p.last, .int .i64 p.hour, .int .i64 p.day, .int .i64 p.week, .int .i64 p.month, .int .i64 p.year, .int .i64 p.within, .slice A p.tags.length c] 24))) := ⟨below_alloc (Below.refl _ _) _⟩
 have hcs : ∃ S z y, S = silentP p ∧ zeroU p = z ∧ (p.within == 0) = y ∧ S = (z && (y && ((p.tags.length : Int) == 0))) := ⟨_, _, _, rfl, rfl, rfl, rfl⟩
 obtain ⟨S, z, y, hS, hz, hw, hS2⟩ := hcs
 rw [← hS]
 clear hS
 have HSS := Sd.mk hS2
 clear hS2
 cases z <;> cases y
 all_goals
  go_enter Tryz.func23, Tryz.ntmps23
  go_wp2_with (fail)
  refine (hun _).mono ?_
  rintro e w1 ⟨rfl, hB⟩
  have HX : Sd (w1.heap[w.heap.size]? = some (.cells #[.int .i64 p.last, .int .i64 p.hour, .int .i64 p.day, .int .i64 p.week, .int .i64 p.month, .int .i64 p.year, .int .i64 p.within, .slice A p.tags.length c] 24 (0, 0))) := ⟨blk_below (blk_new _ _) hB⟩
  have HB1 := Sd.mk (below_step HB0.out hB)
  have x6 : w1.cell? ⟨w.heap.size, 6, none⟩ = some (.int .i64 p.within) := (blk_cell HX.out 6).trans rfl
  have x7 : w1.cell? ⟨w.heap.size, 7, none⟩ = some (.slice A p.tags.length c) := (blk_cell HX.out 7).trans rfl
  clear hB
  go_wp2_with ((with_reducible refine gate_dst (N := 6) rfl ?_); refine wpList_eql54 (m := 4) (n := 5) (p := p) rfl (by rfl) (by rfl) (by rfl) ?_)
  go_ret
  exact ⟨by rw [HSS.out]; rfl, HB1.out⟩
end Go.Proofs.YtpdkgpmcmebefaaGreatDoor.Q
