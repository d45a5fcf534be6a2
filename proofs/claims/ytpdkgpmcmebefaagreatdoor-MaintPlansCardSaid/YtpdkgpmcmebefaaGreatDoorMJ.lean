/- Of the proof about maint: several texts, joined. -/
import Derived.Test.YtpdkgpmcmebefaaGreatDoorMI
import Derived.Deep.RegionHeld3
import Derived.Deep.DrawnRows
import Derived.Deep.DeepCutAuto
import Derived.RegionTactic
import Derived.ChangeAlike
import Derived.Test.YtpdkgpmcmebefaaGreatDoorMG
import Derived.Sort.OwnSorted
set_option maxHeartbeats 16000000
set_option maxRecDepth 100000
set_option linter.unusedVariables false
set_option linter.unusedSimpArgs false
namespace Go.Proofs.YtpdkgpmcmebefaaGreatDoor.Q
open Go.RowKit Go.Proofs.YtpdkgpmcmebefaaGreatDoorW.PrintWords Go.Proofs.YtpdkgpmcmebefaaGreatDoorW.PrintLast Go.Proofs.YtpdkgpmcmebefaaGreatDoorW.PrintMore
attribute [local go_sem] max2_int min2_int max_two min_two max_three min_three max_four min_four
attribute [local go_sem ↓] Go.wp_at_zero Go.wp_at_succ
def okU (n : Int) : Bool := decide (0 ≤ n) && decide (n ≤ 4096)
def tagsP (l : List ByteArray) : Bool := risesP (fun s => wordP s 32) lessS l
def polP (p : Pol) : Bool := (unitsP p).all okU && (decide (0 ≤ p.within) && (decide (p.within ≤ 1099511627776) && tagsP p.tags))
theorem index54 (p : Pol) (k : Nat) (hk : k < 6) (w : World) : (Instr.index 54 (aggU p) (.int .i64 (k : Int))).run Tryz.prog w = .ok (.int .i64 (rd (unitsP p) (k : Int))) w := by
 rcases (show k = 0 ∨ k = 1 ∨ k = 2 ∨ k = 3 ∨ k = 4 ∨ k = 5 by omega) with rfl | rfl | rfl | rfl | rfl | rfl <;> kernel_rfl
theorem below_set6 {w W : World} {g : Nat} (h : Below w.heap.size w W) (hg : w.heap.size ≤ g) (v0 v1 v2 v3 v4 v5 : Value) : Below w.heap.size w ((((((W.setCell ⟨g, 0, none⟩ v0).setCell ⟨g, 1, none⟩ v1).setCell ⟨g, 2, none⟩ v2).setCell ⟨g, 3, none⟩ v3).setCell ⟨g, 4, none⟩ v4).setCell ⟨g, 5, none⟩ v5) := below_set (below_set (below_set (below_set (below_set (below_set h hg) hg) hg) hg) hg) hg
def t32 : ByteArray := ⟨(Lib.repeatL (⟨#[116]⟩ : ByteArray).data.toList 32).toArray⟩
theorem t32_size : (t32.size : Int) = 32 := by decide +kernel
def likeP (tags : List ByteArray) : S28 := ⟨0, ⟨#[104]⟩, [], tags, t32, ⟨#[]⟩⟩
theorem like_snap (tags : List ByteArray) : snapP (likeP tags) = tagsP tags := by
 unfold snapP likeP tagsP
 dsimp only
 have h1 : wordP ⟨#[104]⟩ 64 = true := by decide +kernel
 have h2 : risesP pathP lessP [] = true := rises_good (by decide) (fun i hi => by simp at hi)
 have h3 : ((t32.size : Int) == 32) = true := by rw [t32_size]; rfl
 have h4 : (⟨#[]⟩ : ByteArray).toList.isEmpty = true := by decide +kernel
 rw [h1, h2, h3, h4]
 simp
theorem tagsP_len {l : List ByteArray} (h : 64 < l.length) : tagsP l = false := by
 unfold tagsP risesP
 rw [decide_eq_false (by omega)]
 rfl
theorem all_at {p : Pol} {k : Nat} (hk : k < 6) (h : okU (rd (unitsP p) (k : Int)) = false) : (unitsP p).all okU = false := by
 rw [List.all_eq_false]
 refine ⟨(unitsP p)[k]'(by simpa [unitsP] using hk), List.getElem_mem _, ?_⟩
 have : rd (unitsP p) (k : Int) = (unitsP p)[k]'(by simpa [unitsP] using hk) := by
  unfold rd
  rw [Int.toNat_natCast, List.getD_eq_getElem?_getD, List.getElem?_eq_getElem (by simpa [unitsP] using hk)]
  rfl
 rw [← this, h]
 simp
theorem all_good {p : Pol} (h : ∀ k : Nat, k < 6 → okU (rd (unitsP p) (k : Int)) = true) : (unitsP p).all okU = true := by
 have a0 := h 0 (by omega); have a1 := h 1 (by omega); have a2 := h 2 (by omega); have a3 := h 3 (by omega); have a4 := h 4 (by omega); have a5 := h 5 (by omega)
 simp [rd, unitsP] at a0 a1 a2 a3 a4 a5
 simp [unitsP, a0, a1, a2, a3, a4, a5]
theorem kcheck_calls (p : Pol) (A : Option Addr) (c : Nat) (w : World) (h : Kd.C Kd.string w A p.tags.length p.tags) (hs : ∀ s ∈ p.tags, (s.size : Int) < 9223372036854775808) (hl : p.tags.length ≤ 1000) :
  Calls Tryz.prog 19 #[aggP p A p.tags.length c] w fun e w' => e = .returned (.int .i64 (if polP p = true then 0 else 1)) ∧ Below w.heap.size w w' := by
 have hu24 := Tryz.underlying24
 have hu28 := Tryz.underlying28
 have HUN := Sd.mk (fun W => units_calls p A p.tags.length c W)
 have HC := Sd.mk (And.intro h (And.intro hs hl))
 obtain ⟨r, hr⟩ : ∃ r : Int, r = if polP p = true then 0 else 1 := ⟨_, rfl⟩
 rw [← hr]
 have HRR := Sd.mk hr
 clear hr
 have HR : Sd (polP p = ((unitsP p).all okU && (decide (0 ≤ p.within) && (decide (p.within ≤ 1099511627776) && tagsP p.tags)))) := ⟨rfl⟩
 generalize polP p = R at HR HRR
 clear h hs hl
 have HB0 : Sd (Below w.heap.size w (w.alloc (.cells #[.int .i64 p.last, .int .i64 p.hour, .int .i64 p.day, .int .i64 p.week, .int .i64 p.month, .int .i64 p.year, .int .i64 p.within, .slice A p.tags.length c] 24))) := ⟨below_alloc (Below.refl _ _) _⟩
 go_enter Tryz.func19, Tryz.ntmps19
 go_wp2_with (fail)
 refine (HUN.out _).mono ?_
 rintro e w1 ⟨rfl, hB⟩
 have HX : Sd (w1.heap[w.heap.size]? = some (.cells #[.int .i64 p.last, .int .i64 p.hour, .int .i64 p.day, .int .i64 p.week, .int .i64 p.month, .int .i64 p.year, .int .i64 p.within, .slice A p.tags.length c] 24 (0, 0))) := ⟨blk_below (blk_new _ _) hB⟩
 have HB1 := Sd.mk (below_step HB0.out hB)
 clear hB HUN
 go_wp2_with (fail)
 go_loop [4, 8] (fun v4 v8 => ∃ k : Nat, k ≤ 6 ∧ v8 = .int .i64 k ∧ Sd (∀ j : Nat, j < k → okU (rd (unitsP p) (j : Int)) = true)) (fun v4 v8 => 7 - (intOf v8).toNat)
 case atStart => exact ⟨0, by omega, rfl, ⟨fun j hj => by omega⟩⟩
 case round =>
  obtain ⟨k, hk, rfl, HK⟩ := hrel
  by_cases hlt : k < 6
  ·have hix := fun W => index54 p k hlt W
   have HA := Sd.mk (fun h => all_at (p := p) hlt h)
   have HN := Sd.mk (fun h => (fun j hj => if e : j = k then by rw [e]; exact h else HK.out j (by omega) : ∀ j : Nat, j < k + 1 → okU (rd (unitsP p) (j : Int)) = true))
   generalize rd (unitsP p) (k : Int) = n at hix HA HN
   have hcs : n < 0 ∨ (0 ≤ n ∧ 4096 < n) ∨ (0 ≤ n ∧ n ≤ 4096) := by omega
   rcases hcs with h1 | ⟨h1, h2⟩ | ⟨h1, h2⟩
   ·have d1 : decide (n < 0) = true := decide_eq_true h1
    have HF : Sd (R = false) := ⟨by rw [HR.out, HA.out (by unfold okU; rw [decide_eq_false (by omega)]; rfl)]; rfl⟩
    clear h1
    go_wp2_with (fail)
    go_ret
    exact ⟨by rw [HRR.out, HF.out]; rfl, HB1.out⟩
   ·have d1 : decide (n < 0) = false := decide_eq_false (by omega)
    have d2 : decide (4096 < n) = true := decide_eq_true h2
    have HF : Sd (R = false) := ⟨by rw [HR.out, HA.out (by unfold okU; rw [decide_eq_false (show ¬ n ≤ 4096 by omega)]; simp)]; rfl⟩
    clear h1 h2
    go_wp2_with (fail)
    go_ret
    exact ⟨by rw [HRR.out, HF.out]; rfl, HB1.out⟩
   ·have d1 : decide (n < 0) = false := decide_eq_false (by omega)
    have d2 : decide (4096 < n) = false := decide_eq_false (by omega)
    have HNN := Sd.mk (HN.out (by unfold okU; rw [decide_eq_true h1, decide_eq_true h2]; rfl))
    clear h1 h2 HN HA
    go_wp2_with (fail)
    go_round
    case rel => exact ⟨k + 1, by omega, by go_num, HNN⟩
    case measure => (simp [intOf]; omega)
  ·obtain rfl : k = 6 := by omega
   have HG : Sd (R = (decide (0 ≤ p.within) && (decide (p.within ≤ 1099511627776) && tagsP p.tags))) := ⟨by rw [HR.out, all_good HK.out, Bool.true_and]⟩
   clear HR HK
   go_upto_region 7 with (fail)
   have x6 : w1.cell? ⟨w.heap.size, 6, none⟩ = some (.int .i64 p.within) := (blk_cell HX.out 6).trans rfl
   have x7 : w1.cell? ⟨w.heap.size, 7, none⟩ = some (.slice A p.tags.length c) := (blk_cell HX.out 7).trans rfl
   have hS : ∀ W : World, Below w1.heap.size w1 W → (W.cell? ⟨w.heap.size, 7, none⟩ = some (.slice A p.tags.length c) ∧ Below w1.heap.size w1 W) := fun W hB => ⟨pw_cell_below hB x7, hB⟩
   have hK1 : ∀ W W' : World, (W.cell? ⟨w.heap.size, 7, none⟩ = some (.slice A p.tags.length c) ∧ Below w1.heap.size w1 W) → Below W.heap.size W W' → (W'.cell? ⟨w.heap.size, 7, none⟩ = some (.slice A p.tags.length c) ∧ Below w1.heap.size w1 W') := fun W W' h hB => hS _ (below_step h.2 hB)
   have hrp : ∀ W, Calls Tryz.prog 30 #[.string ⟨#[116]⟩, .int .i64 32] W fun e w' => e = .returned (.string t32) ∧ Below W.heap.size W w' := fun W => Tryz.strings_Repeat ⟨#[116]⟩ 32 W (by decide) (by decide +kernel)
   generalize hT : t32 = T at hrp
   have HT := Sd.mk hT
   clear hT
   have xn := World.new_ne w1 _ x7
   have HCK : Sd (∀ W, Below w.heap.size w W → Calls Tryz.prog 20 #[.agg #[.int .i64 0, .string ⟨#[104]⟩, .slice none 0 0, .slice A p.tags.length c, .string T, .string ⟨#[]⟩]] W fun e w' => e = .returned (.int .i64 (if tagsP p.tags = true then 0 else 200)) ∧ Below W.heap.size W w') := ⟨fun W hW => by
    have h := snap_Check_calls (likeP p.tags) none A 0 c W (Kd.C_nil Kd.string _) (Kd.C_below HC.out.1 hW) (show ((⟨#[104]⟩ : ByteArray).size : Int) < 9223372036854775808 by decide) (fun q hq => by simp [likeP] at hq) HC.out.2.1
    rw [like_snap] at h
    unfold likeP at h
    rw [HT.out] at h
    exact h⟩
   go_region_held3 (fun W => W.cell? ⟨w.heap.size, 7, none⟩ = some (.slice A p.tags.length c) ∧ Below w1.heap.size w1 W) (first | (with_reducible exact hS _ (below_set6 HB9 (Nat.le_refl _) _ _ _ _ _ _)) | (with_reducible exact hS _ HB9) | (with_reducible exact hS _ (below_alloc HB9 _)) | (with_reducible exact hS _ (below_drew (Below.refl _ _))) | (with_reducible exact hS _ (below_alloc (below_drew (Below.refl _ _)) _))) ((go_at_call 30; (with_reducible refine (hrp _).mono ?_); rintro e w9 ⟨rfl, hB⟩; have HB9 : Below w1.heap.size w1 w9 := (hK1 _ _ (by assumption) hB).2; try (have hbk : w9.heap[w1.heap.size]? = some (.cells #[.int .i64 0, .string ⟨#[]⟩, .slice none 0 0, .slice none 0 0, .string ⟨#[]⟩, .string ⟨#[]⟩] 28 (0, 0)) := blk_below (by (exact blk_new _ _)) hB; have z0 : w9.cell? ⟨w1.heap.size, 0, none⟩ = some (.int .i64 0) := (blk_cell hbk 0).trans rfl; have zf0 := blk_frozen hbk 0; have z1 : w9.cell? ⟨w1.heap.size, 1, none⟩ = some (.string ⟨#[]⟩) := (blk_cell hbk 1).trans rfl; have zf1 := blk_frozen hbk 1; have z2 : w9.cell? ⟨w1.heap.size, 2, none⟩ = some (.slice none 0 0) := (blk_cell hbk 2).trans rfl; have zf2 := blk_frozen hbk 2; have z3 : w9.cell? ⟨w1.heap.size, 3, none⟩ = some (.slice none 0 0) := (blk_cell hbk 3).trans rfl; have zf3 := blk_frozen hbk 3; have z4 : w9.cell? ⟨w1.heap.size, 4, none⟩ = some (.string ⟨#[]⟩) := (blk_cell hbk 4).trans rfl; have zf4 := blk_frozen hbk 4; have z5 : w9.cell? ⟨w1.heap.size, 5, none⟩ = some (.string ⟨#[]⟩) := (blk_cell hbk 5).trans rfl; have zf5 := blk_frozen hbk 5)))
   all_goals clear xn hS hK1 hrp
   ·have HBL : Sd ((w9.alloc (.cells #[.int .i64 0, .string ⟨#[104]⟩, .slice none 0 0, .slice A p.tags.length c, .string T, .string ⟨#[]⟩] 28)).heap[w9.heap.size]? = some (.cells #[.int .i64 0, .string ⟨#[104]⟩, .slice none 0 0, .slice A p.tags.length c, .string T, .string ⟨#[]⟩] 28 (0, 0))) := ⟨blk_new _ _⟩
    have HB13 : Sd (Below w1.heap.size w1 (w9.alloc (.cells #[.int .i64 0, .string ⟨#[104]⟩, .slice none 0 0, .slice A p.tags.length c, .string T, .string ⟨#[]⟩] 28))) := ⟨below_alloc HB9 _⟩
    have HB3 := Sd.mk (below_step HB1.out HB13.out)
    generalize (w9.alloc (.cells #[.int .i64 0, .string ⟨#[104]⟩, .slice none 0 0, .slice A p.tags.length c, .string T, .string ⟨#[]⟩] 28)) = W3 at HBL HB13 HB3 ⊢
    generalize w9.heap.size = gx at HBL ⊢
    clear HB9 hB
    have y6 : W3.cell? ⟨w.heap.size, 6, none⟩ = some (.int .i64 p.within) := pw_cell_below HB13.out x6
    have y7 : W3.cell? ⟨w.heap.size, 7, none⟩ = some (.slice A p.tags.length c) := pw_cell_below HB13.out x7
    have l0 : W3.cell? ⟨gx, 0, none⟩ = some (.int .i64 0) := (blk_cell HBL.out 0).trans rfl
    have l1 : W3.cell? ⟨gx, 1, none⟩ = some (.string ⟨#[104]⟩) := (blk_cell HBL.out 1).trans rfl
    have l2 : W3.cell? ⟨gx, 2, none⟩ = some (.slice none 0 0) := (blk_cell HBL.out 2).trans rfl
    have l3 : W3.cell? ⟨gx, 3, none⟩ = some (.slice A p.tags.length c) := (blk_cell HBL.out 3).trans rfl
    have l4 : W3.cell? ⟨gx, 4, none⟩ = some (.string T) := (blk_cell HBL.out 4).trans rfl
    have l5 : W3.cell? ⟨gx, 5, none⟩ = some (.string ⟨#[]⟩) := (blk_cell HBL.out 5).trans rfl
    have hck := HCK.out W3 HB3.out
    have hcs : p.within < 0 ∨ (0 ≤ p.within ∧ 1099511627776 < p.within) ∨ (0 ≤ p.within ∧ p.within ≤ 1099511627776 ∧ 64 < p.tags.length) ∨ (0 ≤ p.within ∧ p.within ≤ 1099511627776 ∧ p.tags.length ≤ 64 ∧ tagsP p.tags = false) ∨ (0 ≤ p.within ∧ p.within ≤ 1099511627776 ∧ p.tags.length ≤ 64 ∧ tagsP p.tags = true) := by cases tagsP p.tags <;> simp <;> omega
    rcases hcs with h1 | ⟨h1, h2⟩ | ⟨h1, h2, h3⟩ | ⟨h1, h2, h3, h4⟩ | ⟨h1, h2, h3, h4⟩
    ·have HF : Sd (R = false) := ⟨by rw [HG.out, decide_eq_false (by omega)]; rfl⟩
     have d1 : decide (p.within < 0) = true := decide_eq_true h1
     clear h1
     go_wp2_with (fail)
     go_ret
     exact ⟨by rw [HRR.out, HF.out]; rfl, HB3.out⟩
    ·have HF : Sd (R = false) := ⟨by rw [HG.out, decide_eq_false (show ¬ p.within ≤ 1099511627776 by omega)]; simp⟩
     have d1 : decide (p.within < 0) = false := decide_eq_false (by omega)
     have d2 : decide (1099511627776 < p.within) = true := decide_eq_true h2
     clear h1 h2
     go_wp2_with (fail)
     go_ret
     exact ⟨by rw [HRR.out, HF.out]; rfl, HB3.out⟩
    ·have HF : Sd (R = false) := ⟨by rw [HG.out, tagsP_len h3]; simp⟩
     have d1 : decide (p.within < 0) = false := decide_eq_false (by omega)
     have d2 : decide (1099511627776 < p.within) = false := decide_eq_false (by omega)
     have d3 : decide (64 < (p.tags.length : Int)) = true := decide_eq_true (by omega)
     have d4 : decide (64 < p.tags.length) = true := decide_eq_true h3
     clear h1 h2 h3
     go_wp2_with (fail)
     go_ret
     exact ⟨by rw [HRR.out, HF.out]; rfl, HB3.out⟩
    ·have HF : Sd (R = false) := ⟨by rw [HG.out, h4]; simp⟩
     have d1 : decide (p.within < 0) = false := decide_eq_false (by omega)
     have d2 : decide (1099511627776 < p.within) = false := decide_eq_false (by omega)
     have d3 : decide (64 < (p.tags.length : Int)) = false := decide_eq_false (by omega)
     have d4 : decide (64 < p.tags.length) = false := decide_eq_false (by omega)
     rw [h4] at hck
     have HCC := Sd.mk hck
     clear h1 h2 h3 h4 hck
     go_wp2_with (go_at_call 20; (with_reducible refine HCC.out.mono ?_); rintro e w4 ⟨rfl, hB⟩; have HB4 := Sd.mk (below_step HB3.out hB); clear hB)
     go_ret
     exact ⟨by rw [HRR.out, HF.out]; rfl, HB4.out⟩
    ·have HF : Sd (R = true) := ⟨by rw [HG.out, h4, decide_eq_true h1, decide_eq_true h2]; rfl⟩
     have d1 : decide (p.within < 0) = false := decide_eq_false (by omega)
     have d2 : decide (1099511627776 < p.within) = false := decide_eq_false (by omega)
     have d3 : decide (64 < (p.tags.length : Int)) = false := decide_eq_false (by omega)
     have d4 : decide (64 < p.tags.length) = false := decide_eq_false (by omega)
     rw [h4] at hck
     have HCC := Sd.mk hck
     clear h1 h2 h3 h4 hck
     go_wp2_with (go_at_call 20; (with_reducible refine HCC.out.mono ?_); rintro e w4 ⟨rfl, hB⟩; have HB4 := Sd.mk (below_step HB3.out hB); clear hB)
     go_ret
     exact ⟨by rw [HRR.out, HF.out]; rfl, HB4.out⟩
   ·have HBL : Sd (((((((w9.setCell ⟨w1.heap.size, 0, none⟩ (.int .i64 0)).setCell ⟨w1.heap.size, 1, none⟩ (.string ⟨#[104]⟩)).setCell ⟨w1.heap.size, 2, none⟩ (.slice none 0 0)).setCell ⟨w1.heap.size, 3, none⟩ (.slice A p.tags.length c)).setCell ⟨w1.heap.size, 4, none⟩ (.string T)).setCell ⟨w1.heap.size, 5, none⟩ (.string ⟨#[]⟩)).heap[w1.heap.size]? = some (.cells #[.int .i64 0, .string ⟨#[104]⟩, .slice none 0 0, .slice A p.tags.length c, .string T, .string ⟨#[]⟩] 28 (0, 0))) := ⟨blk_set (blk_set (blk_set (blk_set (blk_set (blk_set hbk 0 _) 1 _) 2 _) 3 _) 4 _) 5 _⟩
    have HB13 : Sd (Below w1.heap.size w1 ((((((w9.setCell ⟨w1.heap.size, 0, none⟩ (.int .i64 0)).setCell ⟨w1.heap.size, 1, none⟩ (.string ⟨#[104]⟩)).setCell ⟨w1.heap.size, 2, none⟩ (.slice none 0 0)).setCell ⟨w1.heap.size, 3, none⟩ (.slice A p.tags.length c)).setCell ⟨w1.heap.size, 4, none⟩ (.string T)).setCell ⟨w1.heap.size, 5, none⟩ (.string ⟨#[]⟩))) := ⟨below_set6 HB9 (Nat.le_refl _) _ _ _ _ _ _⟩
    have HB3 := Sd.mk (below_step HB1.out HB13.out)
    clear z0 zf0 z1 zf1 z2 zf2 z3 zf3 z4 zf4 z5 zf5
    generalize ((((((w9.setCell ⟨w1.heap.size, 0, none⟩ (.int .i64 0)).setCell ⟨w1.heap.size, 1, none⟩ (.string ⟨#[104]⟩)).setCell ⟨w1.heap.size, 2, none⟩ (.slice none 0 0)).setCell ⟨w1.heap.size, 3, none⟩ (.slice A p.tags.length c)).setCell ⟨w1.heap.size, 4, none⟩ (.string T)).setCell ⟨w1.heap.size, 5, none⟩ (.string ⟨#[]⟩)) = W3 at HBL HB13 HB3 ⊢
    obtain ⟨gx, hgx⟩ : ∃ gx, gx = w1.heap.size := ⟨_, rfl⟩
    rw [← hgx] at HBL ⊢
    clear HB9 hB hbk hgx
    have y6 : W3.cell? ⟨w.heap.size, 6, none⟩ = some (.int .i64 p.within) := pw_cell_below HB13.out x6
    have y7 : W3.cell? ⟨w.heap.size, 7, none⟩ = some (.slice A p.tags.length c) := pw_cell_below HB13.out x7
    have l0 : W3.cell? ⟨gx, 0, none⟩ = some (.int .i64 0) := (blk_cell HBL.out 0).trans rfl
    have l1 : W3.cell? ⟨gx, 1, none⟩ = some (.string ⟨#[104]⟩) := (blk_cell HBL.out 1).trans rfl
    have l2 : W3.cell? ⟨gx, 2, none⟩ = some (.slice none 0 0) := (blk_cell HBL.out 2).trans rfl
    have l3 : W3.cell? ⟨gx, 3, none⟩ = some (.slice A p.tags.length c) := (blk_cell HBL.out 3).trans rfl
    have l4 : W3.cell? ⟨gx, 4, none⟩ = some (.string T) := (blk_cell HBL.out 4).trans rfl
    have l5 : W3.cell? ⟨gx, 5, none⟩ = some (.string ⟨#[]⟩) := (blk_cell HBL.out 5).trans rfl
    have hck := HCK.out W3 HB3.out
    have hcs : p.within < 0 ∨ (0 ≤ p.within ∧ 1099511627776 < p.within) ∨ (0 ≤ p.within ∧ p.within ≤ 1099511627776 ∧ 64 < p.tags.length) ∨ (0 ≤ p.within ∧ p.within ≤ 1099511627776 ∧ p.tags.length ≤ 64 ∧ tagsP p.tags = false) ∨ (0 ≤ p.within ∧ p.within ≤ 1099511627776 ∧ p.tags.length ≤ 64 ∧ tagsP p.tags = true) := by cases tagsP p.tags <;> simp <;> omega
    rcases hcs with h1 | ⟨h1, h2⟩ | ⟨h1, h2, h3⟩ | ⟨h1, h2, h3, h4⟩ | ⟨h1, h2, h3, h4⟩
    ·have HF : Sd (R = false) := ⟨by rw [HG.out, decide_eq_false (by omega)]; rfl⟩
     have d1 : decide (p.within < 0) = true := decide_eq_true h1
     clear h1
     go_wp2_with (fail)
     go_ret
     exact ⟨by rw [HRR.out, HF.out]; rfl, HB3.out⟩
    ·have HF : Sd (R = false) := ⟨by rw [HG.out, decide_eq_false (show ¬ p.within ≤ 1099511627776 by omega)]; simp⟩
     have d1 : decide (p.within < 0) = false := decide_eq_false (by omega)
     have d2 : decide (1099511627776 < p.within) = true := decide_eq_true h2
     clear h1 h2
     go_wp2_with (fail)
     go_ret
     exact ⟨by rw [HRR.out, HF.out]; rfl, HB3.out⟩
    ·have HF : Sd (R = false) := ⟨by rw [HG.out, tagsP_len h3]; simp⟩
     have d1 : decide (p.within < 0) = false := decide_eq_false (by omega)
     have d2 : decide (1099511627776 < p.within) = false := decide_eq_false (by omega)
     have d3 : decide (64 < (p.tags.length : Int)) = true := decide_eq_true (by omega)
     have d4 : decide (64 < p.tags.length) = true := decide_eq_true h3
     clear h1 h2 h3
     go_wp2_with (fail)
     go_ret
     exact ⟨by rw [HRR.out, HF.out]; rfl, HB3.out⟩
    ·have HF : Sd (R = false) := ⟨by rw [HG.out, h4]; simp⟩
     have d1 : decide (p.within < 0) = false := decide_eq_false (by omega)
     have d2 : decide (1099511627776 < p.within) = false := decide_eq_false (by omega)
     have d3 : decide (64 < (p.tags.length : Int)) = false := decide_eq_false (by omega)
     have d4 : decide (64 < p.tags.length) = false := decide_eq_false (by omega)
     rw [h4] at hck
     have HCC := Sd.mk hck
     clear h1 h2 h3 h4 hck
     go_wp2_with (go_at_call 20; (with_reducible refine HCC.out.mono ?_); rintro e w4 ⟨rfl, hB⟩; have HB4 := Sd.mk (below_step HB3.out hB); clear hB)
     go_ret
     exact ⟨by rw [HRR.out, HF.out]; rfl, HB4.out⟩
    ·have HF : Sd (R = true) := ⟨by rw [HG.out, h4, decide_eq_true h1, decide_eq_true h2]; rfl⟩
     have d1 : decide (p.within < 0) = false := decide_eq_false (by omega)
     have d2 : decide (1099511627776 < p.within) = false := decide_eq_false (by omega)
     have d3 : decide (64 < (p.tags.length : Int)) = false := decide_eq_false (by omega)
     have d4 : decide (64 < p.tags.length) = false := decide_eq_false (by omega)
     rw [h4] at hck
     have HCC := Sd.mk hck
     clear h1 h2 h3 h4 hck
     go_wp2_with (go_at_call 20; (with_reducible refine HCC.out.mono ?_); rintro e w4 ⟨rfl, hB⟩; have HB4 := Sd.mk (below_step HB3.out hB); clear hB)
     go_ret
     exact ⟨by rw [HRR.out, HF.out]; rfl, HB4.out⟩
def GSt (w0 w : World) (p : Pol) (A : Option Addr) (c gp gu gw : Nat) (us : List Seen) (ks : List Bool) (W : World) : Prop :=
 W.heap[gp]? = some (.cells #[.int .i64 p.last, .int .i64 p.hour, .int .i64 p.day, .int .i64 p.week, .int .i64 p.month, .int .i64 p.year, .int .i64 p.within, .slice A p.tags.length c] 24 (0, 0)) ∧ W.heap[gu]? = some (.cells (encU us).toArray 68 (0, 0)) ∧ WSt W gw ks ∧ Below w0.heap.size w0 W ∧ w.grownBy W (some gw)
theorem GSt.below {w0 w W W' : World} {p : Pol} {A : Option Addr} {c gp gu gw : Nat} {us : List Seen} {ks : List Bool} (h : GSt w0 w p A c gp gu gw us ks W) (hb : Below W.heap.size W W') : GSt w0 w p A c gp gu gw us ks W' :=
 ⟨blk_below h.1 hb, blk_below h.2.1 hb, h.2.2.1.below hb, below_step h.2.2.2.1 hb, h.2.2.2.2.trans (grown_of_below hb _)⟩
theorem GSt.why {w0 w W : World} {p : Pol} {A : Option Addr} {c gp gu gw : Nat} {us : List Seen} {ks : List Bool} (h : GSt w0 w p A c gp gu gw us ks W) (h1 : gp ≠ gw) (h2 : gu ≠ gw) (h3 : w0.heap.size ≤ gw) {i : Nat} (hi : i < ks.length) {v : Int} (hv : v ≠ 0) : GSt w0 w p A c gp gu gw us (ks.set i true) (W.setCell ⟨gw, i, none⟩ (.int .i64 v)) :=
 ⟨blk_grown h.1 (grown_set _ _ _ _) h1, blk_grown h.2.1 (grown_set _ _ _ _) h2, h.2.2.1.set hi v hv, below_set h.2.2.2.1 h3, h.2.2.2.2.trans (grown_set _ _ _ _)⟩
theorem GSt.unit {w0 w W W' : World} {p : Pol} {A : Option Addr} {c gp gu gw : Nat} {us us' : List Seen} {ks : List Bool} (h : GSt w0 w p A c gp gu gw us ks W) (h1 : gp ≠ gu) (h2 : gw ≠ gu) (h3 : w0.heap.size ≤ gu) (h4 : w.heap.size ≤ gu) (hb : W'.heap[gu]? = some (.cells (encU us').toArray 68 (0, 0))) (hg : W.grownBy W' (some gu)) : GSt w0 w p A c gp gu gw us' ks W' :=
 ⟨blk_grown h.1 hg h1, hb, h.2.2.1.grown hg h2, pw_below_grown h.2.2.2.1 _ h.2.2.2.1.size hg (fun k hk => by rw [← Option.some.inj hk]; exact h3), ⟨hg.os.trans h.2.2.2.2.os, hg.tape.trans h.2.2.2.2.tape, hg.output.trans h.2.2.2.2.output, Nat.le_trans h.2.2.2.2.size hg.size, fun k hk hn => (hg.block k (Nat.lt_of_lt_of_le hk h.2.2.2.2.size) (fun e => by have := Option.some.inj e; omega)).trans (h.2.2.2.2.block k hk hn)⟩⟩
theorem or_ne (v y : Int) (hy : BitVec.ofInt 64 y ≠ 0#64) : bits .or .i64 v y ≠ 0 := by
 unfold bits
 intro h
 dsimp only at h
 rw [IntKind.wrap_i64] at h
 have hlt := (BitVec.ofInt IntKind.i64.bits v ||| BitVec.ofInt IntKind.i64.bits y).isLt
 have h0 : (BitVec.ofInt IntKind.i64.bits v ||| BitVec.ofInt IntKind.i64.bits y).toNat = 0 := by
  have : 2 ^ IntKind.i64.bits = 18446744073709551616 := by decide
  omega
 have h1 : (BitVec.ofInt 64 v ||| BitVec.ofInt 64 y) = 0#64 := BitVec.eq_of_toNat_eq h0
 exact hy (BitVec.or_eq_zero_iff.1 h1).2
theorem pow_ne (u : Nat) (h : 1 ≤ u ∧ u ≤ 5) : BitVec.ofInt 64 (wrap64 (2 ^ u)) ≠ 0#64 := by
 rw [wrap_id (by rcases (show u = 1 ∨ u = 2 ∨ u = 3 ∨ u = 4 ∨ u = 5 by omega) with rfl | rfl | rfl | rfl | rfl <;> decide)]
 rcases (show u = 1 ∨ u = 2 ∨ u = 3 ∨ u = 4 ∨ u = 5 by omega) with rfl | rfl | rfl | rfl | rfl <;> decide
theorem pgroup_calls (p : Pol) (A As : Option Addr) (c cs c1 gpl gw : Nat) (l : List S28) (pl : List Nat) (ks : List Bool) (w0 w : World) (hC : Kd.C k28 w0 As l.length l) (hT : MonthT w0) (hA : Kd.C Kd.string w0 A p.tags.length p.tags) (hB : Below w0.heap.size w0 w) (hW : WSt w gw ks) (hwl : ks.length = l.length) (hgw : w0.heap.size ≤ gw) (hP : IRow w gpl pl) (hne : gpl ≠ gw) (hpl : ∀ i ∈ pl, i < l.length) (hlen : pl.length ≤ 1000) (hl : ∀ x ∈ l, 0 ≤ x.f0 ∧ x.f0 ≤ 1099511627776 ∧ x.f3.length ≤ 1000) (hll : l.length ≤ 1000) (htag : p.tags.length ≤ 1000) :
  Calls Tryz.prog 22 #[aggP p A p.tags.length c, .slice As l.length cs, .slice (some ⟨gpl, 0, none⟩) pl.length c1, .slice (some ⟨gw, 0, none⟩) l.length l.length] w fun e w' => e = .returned (.tuple #[]) ∧ WSt w' gw (gFold p l pl ks pl.length).2 ∧ w.grownBy w' (some gw) := by
 have hu24 := Tryz.underlying24
 have hu28 := Tryz.underlying28
 have HC := Sd.mk (And.intro hC (And.intro hT hA))
 have HE := Sd.mk (And.intro hgw (And.intro hne (And.intro hlen (And.intro hll (And.intro htag hwl)))))
 have HPL := Sd.mk hpl
 have HL := Sd.mk hl
 have HP := Sd.mk hP
 have HUN := Sd.mk (fun W => units_calls p A p.tags.length c W)
 have HG0 : Sd (GSt w0 w p A c w.heap.size (w.heap.size + 1) gw us0 ks ((w.alloc (.cells #[.int .i64 p.last, .int .i64 p.hour, .int .i64 p.day, .int .i64 p.week, .int .i64 p.month, .int .i64 p.year, .int .i64 p.within, .slice A p.tags.length c] 24)).alloc (.cells #[.int .i64 0, .int .i64 0, .bool false, .int .i64 0, .int .i64 0, .bool false, .int .i64 0, .int .i64 0, .bool false, .int .i64 0, .int .i64 0, .bool false, .int .i64 0, .int .i64 0, .bool false, .int .i64 0, .int .i64 0, .bool false] 68))) := ⟨by
  have hb2 : Below w.heap.size w ((w.alloc (.cells #[.int .i64 p.last, .int .i64 p.hour, .int .i64 p.day, .int .i64 p.week, .int .i64 p.month, .int .i64 p.year, .int .i64 p.within, .slice A p.tags.length c] 24)).alloc (.cells #[.int .i64 0, .int .i64 0, .bool false, .int .i64 0, .int .i64 0, .bool false, .int .i64 0, .int .i64 0, .bool false, .int .i64 0, .int .i64 0, .bool false, .int .i64 0, .int .i64 0, .bool false, .int .i64 0, .int .i64 0, .bool false] 68)) := below_alloc (below_alloc (Below.refl _ _) _) _
  refine ⟨blk_below (blk_new _ _) (below_alloc (Below.refl _ _) _), ?_, hW.below hb2, below_step hB hb2, grown_of_below hb2 _⟩
  have h := blk_new (w.alloc (.cells #[.int .i64 p.last, .int .i64 p.hour, .int .i64 p.day, .int .i64 p.week, .int .i64 p.month, .int .i64 p.year, .int .i64 p.within, .slice A p.tags.length c] 24)) (.cells #[.int .i64 0, .int .i64 0, .bool false, .int .i64 0, .int .i64 0, .bool false, .int .i64 0, .int .i64 0, .bool false, .int .i64 0, .int .i64 0, .bool false, .int .i64 0, .int .i64 0, .bool false, .int .i64 0, .int .i64 0, .bool false] 68)
  rwa [show (w.alloc (.cells #[.int .i64 p.last, .int .i64 p.hour, .int .i64 p.day, .int .i64 p.week, .int .i64 p.month, .int .i64 p.year, .int .i64 p.within, .slice A p.tags.length c] 24)).heap.size = w.heap.size + 1 from by simp] at h⟩
 have HBW := Sd.mk hB
 have HWL : Sd (gw < w.heap.size) := ⟨by obtain ⟨ws, h1, _⟩ := hW; exact blk_lt h1⟩
 clear hC hT hA hgw hne hlen htag hwl hpl hl hP hW hB hll
 go_enter Tryz.func22, Tryz.ntmps22
 go_wp2_with (fail)
 obtain ⟨gp, hgp⟩ : ∃ gp, gp = w.heap.size := ⟨_, rfl⟩
 obtain ⟨gu, hgu⟩ : ∃ gu, gu = w.heap.size + 1 := ⟨_, rfl⟩
 have HN : Sd (gp ≠ gw ∧ gu ≠ gw ∧ gp ≠ gu ∧ gw ≠ gu ∧ w0.heap.size ≤ gu ∧ w.heap.size ≤ gu) := ⟨by have h1 := HWL.out; have h2 := HBW.out.size; subst hgp hgu; omega⟩
 rw [← hgu, ← hgp] at HG0
 rw [← hgu, ← hgp]
 generalize ((w.alloc (.cells #[.int .i64 p.last, .int .i64 p.hour, .int .i64 p.day, .int .i64 p.week, .int .i64 p.month, .int .i64 p.year, .int .i64 p.within, .slice A p.tags.length c] 24)).alloc (.cells #[.int .i64 0, .int .i64 0, .bool false, .int .i64 0, .int .i64 0, .bool false, .int .i64 0, .int .i64 0, .bool false, .int .i64 0, .int .i64 0, .bool false, .int .i64 0, .int .i64 0, .bool false, .int .i64 0, .int .i64 0, .bool false] 68)) = W0 at HG0 ⊢
 clear hgp hgu HWL
 go_loopw [16] (fun v16 wr => ∃ k : Nat, k ≤ pl.length ∧ v16 = .int .i64 k ∧ Sd (GSt w0 w p A c gp gu gw (gFold p l pl ks k).1 (gFold p l pl ks k).2 wr)) (fun v16 _ => pl.length - (intOf v16).toNat)
 case atStart => exact ⟨0, Nat.zero_le _, rfl, HG0⟩
 case round =>
  clear HG0
  obtain ⟨k, hk, rfl, HG⟩ := hrel
  by_cases hlt : k < pl.length
  ·have hok := gFold_ok p l pl ks k
   have hstep := gFold_succ p l pl ks k
   unfold gStep at hstep
   obtain ⟨i, hi⟩ : ∃ i, pl[k]? = some i := ⟨_, List.getElem?_eq_getElem hlt⟩
   have hgd : pl.getD k 0 = i := by rw [List.getD_eq_getElem?_getD, hi]; rfl
   rw [hgd] at hstep
   generalize gFold p l pl ks k = st at HG hok hstep
   have hil := HPL.out i (List.mem_of_getElem? hi)
   obtain ⟨ad, B2, d2, B3, d3, e1, x0, x1, x2, x3, x4, x5, _, hx2, _, hx3⟩ := at_T28 HC.out.1 (i : Int) (by omega) (by omega)
   rw [Int.toNat_natCast] at x0 x1 x2 x3 x4 x5
   replace x0 := pw_cell_below HG.out.2.2.2.1 x0
   replace x1 := pw_cell_below HG.out.2.2.2.1 x1
   replace x2 := pw_cell_below HG.out.2.2.2.1 x2
   replace x3 := pw_cell_below HG.out.2.2.2.1 x3
   replace x4 := pw_cell_below HG.out.2.2.2.1 x4
   replace x5 := pw_cell_below HG.out.2.2.2.1 x5
   have hxl : atS l i ∈ l := by
    unfold atS rd_T28
    rw [Int.toNat_natCast, List.getD_eq_getElem?_getD, List.getElem?_eq_getElem hil]
    exact List.getElem_mem _
   have hxx := HL.out _ hxl
   have hfx : rd_T28 l (i : Int) = atS l i := rfl
   rw [hfx] at x0 x1 x2 x3 x4 x5 hx2 hx3
   generalize hX : atS l i = x at x0 x1 x2 x3 x4 x5 hx2 hx3 hxx hstep
   clear hfx hxl hgd
   have HST := Sd.mk hstep
   have HOK := Sd.mk hok
   have HX3 := Sd.mk hx3
   have HXX := Sd.mk hxx
   have HI := Sd.mk (And.intro hi (And.intro hX hlt))
   have c0 := (HP.out.grown HG.out.2.2.2.2 HE.out.2.1).cell hi
   clear hstep hok hx2 hx3 hxx hi hX hk
   have p0 : wr.cell? ⟨gp, 0, none⟩ = some (.int .i64 p.last) := (blk_cell HG.out.1 0).trans rfl
   have p0n : wr.heap.size ≠ gp := World.new_ne wr _ p0
   have p0m : gp ≠ wr.heap.size := p0n.symm
   have p0l : gp < wr.heap.size := World.block_lt_of_cell? wr _ p0
   cases e1
   go_upto_if 28 with (fail)
   have HG1 := Sd.mk (HG.out.below (below_alloc (Below.refl wr.heap.size wr) (.cells #[.int .i64 x.f0, .string x.f1, .slice B2 x.f2.length d2, .slice B3 x.f3.length d3, .string x.f4, .string x.f5] 28)))
   have HGX : Sd ((wr.alloc (.cells #[.int .i64 x.f0, .string x.f1, .slice B2 x.f2.length d2, .slice B3 x.f3.length d3, .string x.f4, .string x.f5] 28)).heap[wr.heap.size]? = some (.cells #[.int .i64 x.f0, .string x.f1, .slice B2 x.f2.length d2, .slice B3 x.f3.length d3, .string x.f4, .string x.f5] 28 (0, 0))) := ⟨blk_new _ _⟩
   have HXN : Sd (w.heap.size ≤ wr.heap.size ∧ wr.heap.size ≠ gw ∧ wr.heap.size ≠ gu) := ⟨by
    have h1 := HG.out.2.2.2.2.size
    obtain ⟨ws, h2, _⟩ := HG.out.2.2.1
    have h3 := blk_lt h2
    have h4 := blk_lt HG.out.2.1
    omega⟩
   clear x0 x1 x2 x3 x4 x5 c0 p0 p0n p0m p0l
   generalize (wr.alloc (.cells #[.int .i64 x.f0, .string x.f1, .slice B2 x.f2.length d2, .slice B3 x.f3.length d3, .string x.f4, .string x.f5] 28)) = W1 at HG1 HGX ⊢
   generalize wr.heap.size = gx at HGX HXN ⊢
   clear HG
   go_cut [] (fun wc => Sd (GSt w0 w p A c gp gu gw (st.1) (st.2.set i (st.2.getD i false || decide ((k : Int) < p.last))) wc) ∧ Sd (wc.heap[gx]? = some (.cells #[.int .i64 x.f0, .string x.f1, .slice B2 x.f2.length d2, .slice B3 x.f3.length d3, .string x.f4, .string x.f5] 28 (0, 0))))
   case first =>
    have hi2 : i < st.2.length := by have := HOK.out.2; have := HE.out.2.2.2.2.2; omega
    by_cases hb : (k : Int) < p.last
    ·have hb1 : decide ((k : Int) < p.last) = true := decide_eq_true hb
     obtain ⟨v, hv, hf⟩ := HG1.out.2.2.1.cell hi2
     go_wp2_with (fail)
     go_meet
     case rel => exact ⟨⟨by rw [hb1]; have h := HG1.out.why HN.out.1 HN.out.2.1 HE.out.1 hi2 (or_ne v 1 (by decide)); rwa [Bool.or_true]⟩, ⟨blk_grown HGX.out (grown_set _ _ _ _) HXN.out.2.1⟩⟩
    ·have hb1 : decide ((k : Int) < p.last) = false := decide_eq_false hb
     go_wp2_with (fail)
     go_meet
     case rel => exact ⟨⟨by rw [hb1, set_self]; exact HG1.out⟩, HGX⟩
   case rest =>
    obtain ⟨HG2, HX2⟩ := hcut
    clear HG1 HGX
    have q0 : wc.cell? ⟨gp, 0, none⟩ = some (.int .i64 p.last) := (blk_cell HG2.out.1 0).trans rfl
    have q1 : wc.cell? ⟨gp, 1, none⟩ = some (.int .i64 p.hour) := (blk_cell HG2.out.1 1).trans rfl
    have q2 : wc.cell? ⟨gp, 2, none⟩ = some (.int .i64 p.day) := (blk_cell HG2.out.1 2).trans rfl
    have q3 : wc.cell? ⟨gp, 3, none⟩ = some (.int .i64 p.week) := (blk_cell HG2.out.1 3).trans rfl
    have q4 : wc.cell? ⟨gp, 4, none⟩ = some (.int .i64 p.month) := (blk_cell HG2.out.1 4).trans rfl
    have q5 : wc.cell? ⟨gp, 5, none⟩ = some (.int .i64 p.year) := (blk_cell HG2.out.1 5).trans rfl
    have q6 : wc.cell? ⟨gp, 6, none⟩ = some (.int .i64 p.within) := (blk_cell HG2.out.1 6).trans rfl
    have q7 : wc.cell? ⟨gp, 7, none⟩ = some (.slice A p.tags.length c) := (blk_cell HG2.out.1 7).trans rfl
    go_wp2_with (fail)
    refine (HUN.out _).mono ?_
    rintro e w3 ⟨rfl, hB⟩
    have HG3 := Sd.mk (HG2.out.below hB)
    have HX3b := Sd.mk (blk_below HX2.out hB)
    clear HG2 HX2 hB q0 q1 q2 q3 q4 q5 q6 q7
    obtain ⟨b1, hb1⟩ : ∃ b1, b1 = decide ((k : Int) < p.last) := ⟨_, rfl⟩
    have HB1 := Sd.mk hb1
    rw [← hb1] at HG3
    clear hb1
    go_wp2_with (fail)
    go_loopw [37] (fun v37 wi => ∃ u : Nat, u ≤ 6 ∧ v37 = .int .i64 u ∧ Sd (GSt w0 w p A c gp gu gw ((uFold p x.f0 st.1 u).2) (st.2.set i (st.2.getD i false || (b1 || (uFold p x.f0 st.1 u).1))) wi) ∧ Sd (wi.heap[gx]? = some (.cells #[.int .i64 x.f0, .string x.f1, .slice B2 x.f2.length d2, .slice B3 x.f3.length d3, .string x.f4, .string x.f5] 28 (0, 0)))) (fun v37 _ => 6 - (intOf v37).toNat)
    case atStart => exact ⟨0, by omega, rfl, ⟨by show GSt _ _ _ _ _ _ _ _ st.1 (st.2.set i (st.2.getD i false || (b1 || false))) _; rw [Bool.or_false]; exact HG3.out⟩, HX3b⟩
    case round =>
     clear HG3 HX3b
     obtain ⟨u, hu, rfl, HGI, HXI⟩ := hrel
     by_cases h6 : u < 6
     ·have hix := fun W => index54 p u h6 W
      have hstep := uFold_succ p x.f0 st.1 u
      unfold uStep at hstep
      have hmid := uFold_mid p x.f0 st.1 k HOK.out.1 u (by omega)
      generalize uFold p x.f0 st.1 u = s at HGI hstep hmid
      by_cases h0 : u = 0
      ·subst h0
       rw [if_pos rfl] at hstep
       have HS := Sd.mk hstep
       clear hstep hmid hix
       have hix0 : ∀ W, (Instr.index 54 (aggU p) (.int .i64 0)).run Tryz.prog W = .ok (.int .i64 p.last) W := fun _ => by kernel_rfl
       go_wp2_with (fail)
       go_quiet (fail)
       go_wp2_with (fail)
       go_roundw
       case rel => exact ⟨1, by omega, by (rfl), ⟨by rw [HS.out]; exact HGI.out.below (pw_below_drewN (Below.refl _ _) _)⟩, ⟨blk_drewN HXI.out _⟩⟩
       case measure => simp [intOf]
      ·rw [if_neg h0] at hstep
       have hul : u < s.2.length := by rw [hmid.1]; exact h6
       have hge : s.2.getD u seen0 = s.2[u] := by rw [List.getD_eq_getElem?_getD, List.getElem?_eq_getElem hul]; rfl
       rw [hge] at hstep
       have hkp : 0 ≤ s.2[u].kept ∧ s.2[u].kept ≤ 100000 := by
        have h1 := hmid.2 u h6
        rw [hge, if_neg (Nat.lt_irrefl u)] at h1
        have h2 := HI.out.2.2
        have h3 := HE.out.2.2.1
        omega
       obtain ⟨most, hmost⟩ : ∃ m, m = rd (unitsP p) (u : Int) := ⟨_, rfl⟩
       have hkeep := fun W (hG : GSt w0 w p A c gp gu gw (s.2) (st.2.set i (st.2.getD i false || (b1 || s.1))) W) => keeps_calls gu s.2 u x.f0 most W (HC.out.2.1.below hG.2.2.2.1) hG.2.1 hmid.1 (by omega) HXX.out.1 HXX.out.2.1 hkp
       rw [← hmost] at hix hstep
       clear hmost
       generalize keepsP s.2[u] (keyI (u : Int) x.f0) most = r at hkeep hstep
       have HK := Sd.mk hkeep
       have HS := Sd.mk hstep
       have g0 : wr.cell? ⟨gx, 0, none⟩ = some (.int .i64 x.f0) := (blk_cell HXI.out 0).trans rfl
       have d0 : decide ((0 : Int) < (u : Int)) = true := decide_eq_true (by omega)
       have d1 : decide (0 < u) = true := decide_eq_true (by omega)
       have p0 := eq_true (show (0 : Int) ≤ (u : Int) by omega)
       have p1 := eq_true (show (u : Int) < 6 by omega)
       have h1u := eq_true (show 1 ≤ u by omega)
       clear hkeep hstep hge hkp hmid
       go_wp2_with (fail)
       have hq : ∀ W, Below wr.heap.size wr W → Calls Tryz.prog 42 #[.pointer (some ⟨gu, u * 3, none⟩), .int .i64 (u : Int), .int .i64 x.f0, .int .i64 most] W fun e w' => e = .returned (.bool r.1) ∧ w'.heap[gu]? = some (.cells (encU (s.2.set u r.2)).toArray 68 (0, 0)) ∧ W.grownBy w' (some gu) := fun W hW => by
        rw [Nat.mul_comm u 3]
        exact HK.out W (HGI.out.below hW)
       have HQ := Sd.mk hq
       clear hq
       go_region_held3 (fun W => W.cell? ⟨gx, 0, none⟩ = some (.int .i64 x.f0)) (first | (with_reducible assumption) | (with_reducible exact pw_cell_below (below_drew (Below.refl _ _)) g0)) ((go_at_call 42; (with_reducible refine (HQ.out _ (by (exact below_drew (Below.refl _ _)))).mono ?_); rintro e w9 ⟨rfl, hU9, hg9⟩; have g9 : w9.cell? ⟨gx, 0, none⟩ = some (.int .i64 x.f0) := (blk_cell (blk_grown (blk_drew HXI.out) hg9 HXN.out.2.2) 0).trans rfl))
       have HG9 : Sd (GSt w0 w p A c gp gu gw (s.2.set u r.2) (st.2.set i (st.2.getD i false || (b1 || s.1))) w9) := ⟨(HGI.out.below (below_drew (Below.refl _ _))).unit HN.out.2.2.1 HN.out.2.2.2.1 HN.out.2.2.2.2.1 HN.out.2.2.2.2.2 hU9 hg9⟩
       have HX9 := Sd.mk (blk_grown (blk_drew HXI.out) hg9 HXN.out.2.2)
       have hi2 : i < st.2.length := by have := HOK.out.2; have := HE.out.2.2.2.2.2; omega
       clear hU9 hg9 g0 g9 HQ HK HGI HXI hix
       obtain ⟨rb, rs⟩ := r
       dsimp only at HG9 HS ⊢
       cases rb
       ·go_wp2_with (fail)
        go_roundw
        case rel => exact ⟨u + 1, by omega, by go_num, ⟨by rw [HS.out]; dsimp only; rw [Bool.or_false]; exact HG9.out⟩, HX9⟩
        case measure => (simp [intOf]; omega)
       ·obtain ⟨v, hv, hf⟩ := HG9.out.2.2.1.cell (i := i) (by rw [List.length_set]; exact hi2)
        have hil2 := eq_true (show (i : Int) < (l.length : Int) by omega)
        have hi0 := eq_true (show (0 : Int) ≤ (i : Int) by omega)
        go_wp2_with (fail)
        go_region
        go_wp2_with (fail)
        go_roundw
        case rel => exact ⟨u + 1, by omega, by go_num, ⟨by
         rw [HS.out]
         dsimp only
         have h := (HG9.out.why HN.out.1 HN.out.2.1 HE.out.1 (by rw [List.length_set]; exact hi2) (or_ne v (wrap64 (2 ^ u)) (pow_ne u (by omega)))).below (below_drew (Below.refl _ _))
         rw [List.set_set] at h
         rw [Bool.or_true, Bool.or_true, Bool.or_true]
         exact h⟩, ⟨blk_drew (blk_grown HX9.out (grown_set _ _ _ _) HXN.out.2.1)⟩⟩
        case measure => (simp [intOf]; omega)
     ·obtain rfl : u = 6 := by omega
      generalize uFold p x.f0 st.1 6 = s at HGI HST
      have hi2 : i < st.2.length := by have := HOK.out.2; have := HE.out.2.2.2.2.2; omega
      obtain ⟨i0, hi0⟩ : ∃ i0, pl[0]? = some i0 := ⟨_, List.getElem?_eq_getElem (by omega)⟩
      have hgd0 : pl.getD 0 0 = i0 := by rw [List.getD_eq_getElem?_getD, hi0]; rfl
      have hil0 := HPL.out i0 (List.mem_of_getElem? hi0)
      obtain ⟨ad2, _, _, _, _, e2, y0, _⟩ := at_T28 HC.out.1 (i0 : Int) (by omega) (by omega)
      rw [Int.toNat_natCast] at y0
      have hfy : rd_T28 l (i0 : Int) = atS l i0 := rfl
      rw [hfy] at y0
      replace y0 := pw_cell_below HGI.out.2.2.2.1 y0
      injection e2 with e2
      subst e2
      have HNE : Sd (nearP p l pl x = (decide (0 < p.within) && decide (wrap64 ((atS l i0).f0 - x.f0) ≤ p.within))) := ⟨by unfold nearP; rw [hgd0]⟩
      have z0 := (HP.out.grown HGI.out.2.2.2.2 HE.out.2.1).cell hi0
      generalize (atS l i0).f0 = t0 at y0 HNE
      have g0 : wr.cell? ⟨gx, 0, none⟩ = some (.int .i64 x.f0) := (blk_cell HXI.out 0).trans rfl
      have g3 : wr.cell? ⟨gx, 3, none⟩ = some (.slice B3 x.f3.length d3) := (blk_cell HXI.out 3).trans rfl
      have g6 : wr.cell? ⟨gp, 6, none⟩ = some (.int .i64 p.within) := (blk_cell HGI.out.1 6).trans rfl
      have q0 := eq_true (show (0 : Int) ≤ (i0 : Int) by omega)
      have q1 := eq_true (show (i0 : Int) < (l.length : Int) by omega)
      have q2 := eq_true (show (0 : Int) < (pl.length : Int) by omega)
      have q3 := eq_true (show 0 < pl.length by omega)
      have q4 := eq_true (show (0 : Int) ≤ (i : Int) by omega)
      have q5 := eq_true (show (i : Int) < (l.length : Int) by omega)
      have ngx : gx ≠ gw := HXN.out.2.1
      have ngx2 : gw ≠ gx := fun e => ngx e.symm
      obtain ⟨v, hv, hf⟩ := HGI.out.2.2.1.cell (i := i) (by rw [List.length_set]; exact hi2)
      obtain ⟨n1, n2, nb, hn1, hn2, hnb⟩ : ∃ n1 n2 nb, decide (0 < p.within) = n1 ∧ decide (wrap64 (t0 - x.f0) ≤ p.within) = n2 ∧ nearP p l pl x = nb := ⟨_, _, _, rfl, rfl, rfl⟩
      rw [hn1, hn2, hnb] at HNE
      rw [hnb] at HST
      clear hgd0 hi0 hnb hfy hil0
      have hkb : k ≤ 1000 := by have := HI.out.2.2; have := HE.out.2.2.1; omega
      go_upto_region 14 with (fail)
      go_cut [78] (fun v78 wc => v78 = .bool nb ∧ Sd (GSt w0 w p A c gp gu gw (s.2) (st.2.set i (st.2.getD i false || (b1 || s.1))) wc) ∧ Sd (wc.heap[gx]? = some (.cells #[.int .i64 x.f0, .string x.f1, .slice B2 x.f2.length d2, .slice B3 x.f3.length d3, .string x.f4, .string x.f5] 28 (0, 0))))
      case first =>
       cases n1 <;> cases n2
       all_goals
        have HNB : Sd (nb = _) := HNE
        clear HNE
        go_quiet (fail)
        go_wp2_with (fail)
        go_meet
        case rel => exact ⟨by rw [HNB.out]; rfl, ⟨HGI.out.below (pw_below_drewN (Below.refl _ _) _)⟩, ⟨blk_drewN HXI.out _⟩⟩
      case rest =>
       obtain ⟨rfl, HG4, HX4⟩ := hcut
       clear g0 g3 g6 y0 z0 hv hf q0 q1 q2 q3 hn1 hn2 HNE HGI HXI
       obtain ⟨v, hv, hf⟩ := HG4.out.2.2.1.cell (i := i) (by rw [List.length_set]; exact hi2)
       go_upto_if 78 with (fail)
       go_cut [] (fun wc => Sd (GSt w0 w p A c gp gu gw (s.2) (st.2.set i (st.2.getD i false || ((b1 || s.1) || nb))) wc) ∧ Sd (wc.heap[gx]? = some (.cells #[.int .i64 x.f0, .string x.f1, .slice B2 x.f2.length d2, .slice B3 x.f3.length d3, .string x.f4, .string x.f5] 28 (0, 0))))
       case first =>
        cases nb
        ·go_wp2_with (fail)
         go_meet
         case rel => exact ⟨⟨by rw [Bool.or_false]; exact HG4.out⟩, HX4⟩
        ·go_wp2_with (fail)
         go_meet
         case rel => exact ⟨⟨by
          have h := HG4.out.why HN.out.1 HN.out.2.1 HE.out.1 (by rw [List.length_set]; exact hi2) (or_ne v 64 (by decide))
          rw [List.set_set] at h
          rw [Bool.or_true, Bool.or_true]
          exact h⟩, ⟨blk_grown HX4.out (grown_set _ _ _ _) ngx⟩⟩
       case rest =>
        obtain ⟨HG5, HX5⟩ := hcut
        clear hv hf HG4 HX4
        have g3 : wc.cell? ⟨gx, 3, none⟩ = some (.slice B3 x.f3.length d3) := (blk_cell HX5.out 3).trans rfl
        go_wp2_with (fail)
        refine (containsf_calls B3 d3 x.f3 44 #[.pointer (some ⟨gp, 0, none⟩)] (hasTag p.tags) wc (Kd.C_below HX3.out HG5.out.2.2.2.1) (Nat.le_trans HXX.out.2.2 (by decide)) (tag_asks gp p A c x.f3 wc HG5.out.1 (Kd.C_below HC.out.2.2 HG5.out.2.2.2.1) (Nat.le_trans HE.out.2.2.2.2.1 (by decide)))).mono ?_
        rintro e w6 ⟨rfl, hB⟩
        have HG6 := Sd.mk (HG5.out.below hB)
        obtain ⟨tb, htb⟩ : ∃ tb, tb = x.f3.any (hasTag p.tags) := ⟨_, rfl⟩
        have HTB : Sd (tagB p x = tb) := ⟨htb.symm⟩
        rw [← htb]
        clear htb hB HG5 HX5 g3
        obtain ⟨v6, hv6, hf6⟩ := HG6.out.2.2.1.cell (i := i) (by rw [List.length_set]; exact hi2)
        cases tb
        ·go_wp2_with (fail)
         go_roundw
         case rel => exact ⟨k + 1, HI.out.2.2, by go_num, ⟨by rw [HST.out, HTB.out, ← HB1.out]; dsimp only; rw [Bool.or_false]; exact HG6.out⟩⟩
         case measure => (have := HI.out.2.2; simp [intOf]; omega)
        ·go_wp2_with (fail)
         go_roundw
         case rel => exact ⟨k + 1, HI.out.2.2, by go_num, ⟨by
          rw [HST.out, HTB.out]
          dsimp only
          have h := HG6.out.why HN.out.1 HN.out.2.1 HE.out.1 (by rw [List.length_set]; exact hi2) (or_ne v6 128 (by decide))
          rw [List.set_set] at h
          rw [Bool.or_true, Bool.or_true]
          exact h⟩⟩
         case measure => (have := HI.out.2.2; simp [intOf]; omega)
  ·obtain rfl : k = pl.length := by omega
   go_wp2_with (fail)
   go_end0
   exact ⟨rfl, HG.out.2.2.1, HG.out.2.2.2.2⟩
end Go.Proofs.YtpdkgpmcmebefaaGreatDoor.Q
namespace Go.Proofs.YtpdkgpmcmebefaaGreatDoor.Q
open Go.RowKit Go.Proofs.YtpdkgpmcmebefaaGreatDoorW.PrintWords Go.Proofs.YtpdkgpmcmebefaaGreatDoorW.PrintLast Go.Proofs.YtpdkgpmcmebefaaGreatDoorW.PrintMore
attribute [local go_sem] max2_int min2_int max_two min_two max_three min_three max_four min_four
theorem IRow_of_R {w : World} {base : Nat} {ok : Nat → Prop} {g n c : Nat} {sl : List Nat} (h : kN.R 3 w base ok (.slice (some ⟨g, 0, none⟩) n c) sl) : IRow w g sl ∧ n = sl.length ∧ base ≤ g := by
 have ho := Kd.own_of_R h
 have hb := own_base ho g rfl
 rcases ho.2 with ⟨hv, _⟩ | ⟨g', cap', cur, hv, _, hblk, _, _, _, h4⟩
 ·cases hv
 ·injection hv with hv e1 e2
  injection hv with hv
  injection hv with hv
  subst hv e1
  refine ⟨⟨cur, 3, hblk, fun j x hx => ?_⟩, rfl, hb⟩
  have hj : j < sl.length := (List.getElem?_eq_some_iff.1 hx).1
  have h5 := congrArg (·[j]?) h4
  rw [Nat.mul_one, List.getElem?_take_of_lt hj, Array.getElem?_toList] at h5
  rw [h5]
  unfold encs
  rw [List.getElem?_map, hx]
  rfl
theorem make_why (n : Nat) (hn : n ≤ 1000) (W : World) : ∃ cs : Array Value, (Instr.makeSlice 39 (.int .i64 (n : Int)) (.int .i64 (n : Int))).run Tryz.prog W = .ok (.slice (some ⟨W.heap.size, 0, none⟩) n n) (W.alloc (.cells cs 3)) ∧ cs.toList = List.replicate n (.int .i64 0) := by
 obtain ⟨i, hi, hz⟩ := Option.map_eq_some_iff.1 info3'
 simp only [Prod.mk.injEq] at hz
 have h := run_makeSlice (P := Tryz.prog) W 39 3 i (.int .i64 0) Tryz.underlying39 hi hz.1 .i64 .i64 n n (by omega) (by omega) (by rw [hz.2.1, Int.toNat_natCast]; omega) (by rw [hz.2.2]; omega) (by omega)
 rw [hz.2.1] at h
 simp only [Int.toNat_natCast] at h
 refine ⟨_, h, ?_⟩
 rw [Nat.mul_one]
 rw [List.eq_replicate_iff]
 refine ⟨by rw [Array.length_toList, size_madeCells], fun v hv => ?_⟩
 simp only [madeCells, Value.cells, Array.toList_map, List.mem_map] at hv
 obtain ⟨j, _, rfl⟩ := hv
 simp [Nat.mod_one]
theorem WSt_made {W : World} {cs : Array Value} {n : Nat} (h : cs.toList = List.replicate n (.int .i64 0)) : WSt (W.alloc (.cells cs 3)) W.heap.size (List.replicate n false) := by
 refine ⟨List.replicate n 0, ?_, by simp, fun j hj => ?_⟩
 ·rw [blk_new]
  congr 2
  apply Array.toList_inj.1
  rw [h]
  simp
 ·have hjn : j < n := by simpa using hj
  simp [List.getD_eq_getElem?_getD, hjn]
def AllSnap (l : List S28) : Bool := l.all snapP
def appC (p : Pol) (l : List S28) : Int := if polP p = true then (if AllSnap l = true then 0 else 200) else 1
noncomputable def grpK (p : Pol) (l : List S28) (sls : List (List Nat)) : List Bool := sls.foldl (fun ks sl => (gFold p l sl ks sl.length).2) (List.replicate l.length false)
noncomputable def appK (p : Pol) (l : List S28) (sls : List (List Nat)) : List Bool := if silentP p = true then List.replicate l.length true else grpK p l sls
def SortsOf (l : List S28) (sls : List (List Nat)) : Prop := sls.length = (ordK l l.length).length ∧ ∀ (j : Nat) (s : ByteArray) (sl : List Nat), (ordK l l.length)[j]? = some s → sls[j]? = some sl → sl.Perm (posG l l.length s.data.toList) ∧ sl.Pairwise (fun i k => cN l i k < 0)
def InL (l : List S28) : Prop := l.length ≤ 1000 ∧ ∀ x ∈ l, x.f2.length ≤ 1000 ∧ x.f3.length ≤ 1000 ∧ (x.f1.size : Int) < 9223372036854775808 ∧ (∀ q ∈ x.f2, q.size ≤ 300) ∧ ∀ q ∈ x.f3, (q.size : Int) < 9223372036854775808
theorem good_of {l : List S28} (h : InL l) (hs : AllSnap l = true) : GoodL l ∧ ∀ x ∈ l, 0 ≤ x.f0 ∧ x.f0 ≤ 1099511627776 ∧ x.f3.length ≤ 1000 := by
 have hall := List.all_eq_true.1 hs
 refine ⟨⟨h.1, fun x hx => ⟨(h.2 x hx).1, (h.2 x hx).2.1, ?_⟩⟩, fun x hx => ?_⟩
 ·have hx2 := h.2 x hx
  have hp := hall x hx
  unfold snapP at hp
  rw [Bool.and_eq_true, Bool.and_eq_true, Bool.and_eq_true] at hp
  have hw := hp.2.2.1
  unfold wordP at hw
  rw [Bool.and_eq_true, Bool.and_eq_true, decide_eq_true_eq, decide_eq_true_eq] at hw
  have h64 := hw.2.2
  rw [List.map_cons, List.sum_cons]
  have hsum : ∀ q : List ByteArray, (∀ s ∈ q, s.size ≤ 300) → (q.map fun s => s.size + 1).sum ≤ q.length * 301 := by
   intro q hq
   induction q with
   | nil => simp
   | cons a q ih =>
    have h1 := ih (fun s hs => hq s (List.mem_cons_of_mem _ hs))
    have h2 := hq a List.mem_cons_self
    rw [List.map_cons, List.sum_cons, List.length_cons]
    omega
  have h1 := hsum x.f2 hx2.2.2.2.1
  have h2 := hx2.1
  have h3 : x.f2.length * 301 ≤ 1000 * 301 := Nat.mul_le_mul_right _ h2
  omega
 ·have hp := hall x hx
  unfold snapP at hp
  rw [Bool.and_eq_true, Bool.and_eq_true, decide_eq_true_eq, decide_eq_true_eq] at hp
  exact ⟨hp.1, hp.2.1, (h.2 x hx).2.1⟩
theorem at_H {w : World} {A : Option Addr} {n : Nat} {xs : List (Nat × Nat × Nat)} (h : Kd.C kH w A n xs) (i : Nat) (hi : i < n) (x : Nat × Nat × Nat) (hx : xs[i]? = some x) : ∃ ad, A = some ad ∧ w.cell? (ad.add i) = some (.slice (some ⟨x.1, 0, none⟩) x.2.1 x.2.2) := by
 obtain ⟨ad, c, e, _, hK, hc0⟩ := Kd.C_get h x (i : Int) (by omega) (by omega)
 have hc : ∀ j u, c[j]? = some u → w.cell? (ad.add ((i : Int).toNat * 1 + j)) = some u := hc0
 have hx2 : xs.getD (i : Int).toNat x = x := by rw [Int.toNat_natCast, List.getD_eq_getElem?_getD, hx]; rfl
 rw [hx2] at hK
 have hcc : c = [.slice (some ⟨x.1, 0, none⟩) x.2.1 x.2.2] := hK
 subst hcc
 have h3 := hc 0 _ rfl
 rw [Int.toNat_natCast, Nat.mul_one, Nat.add_zero] at h3
 exact ⟨ad, e, h3⟩
noncomputable def stepK (p : Pol) (l : List S28) (ks : List Bool) (sl : List Nat) : List Bool := (gFold p l sl ks sl.length).2
theorem stepK_len (p : Pol) (l : List S28) (ks : List Bool) (sl : List Nat) : (stepK p l ks sl).length = ks.length := (gFold_ok p l sl ks sl.length).2
theorem foldK_len (p : Pol) (l : List S28) : ∀ (sls : List (List Nat)) (ks : List Bool), (sls.foldl (stepK p l) ks).length = ks.length
 | [], _ => rfl
 | sl :: r, ks => by rw [List.foldl_cons, foldK_len p l r, stepK_len]
theorem foldK_take (p : Pol) (l : List S28) (sls : List (List Nat)) (ks : List Bool) (j : Nat) (sl : List Nat) (h : sls[j]? = some sl) : (sls.take (j + 1)).foldl (stepK p l) ks = stepK p l ((sls.take j).foldl (stepK p l) ks) sl := by
 rw [List.take_add_one, h]
 simp
theorem fill_set (ks : List Bool) (i : Nat) (h : i < ks.length) : (List.replicate i true ++ ks.drop i).set i true = List.replicate (i + 1) true ++ ks.drop (i + 1) := by
 rw [List.set_append_right _ _ (by simp), List.length_replicate, Nat.sub_self, List.drop_eq_getElem_cons h, List.set_cons_zero, List.replicate_succ']
 simp
theorem apply_calls (p : Pol) (A As : Option Addr) (c cs : Nat) (l : List S28) (w : World) (hC : Kd.C k28 w As l.length l) (hT : MonthT w) (hA : Kd.C Kd.string w A p.tags.length p.tags) (hL : InL l) (htl : p.tags.length ≤ 1000) (hts : ∀ s ∈ p.tags, (s.size : Int) < 9223372036854775808) :
  Calls Tryz.prog 14 #[aggP p A p.tags.length c, .slice As l.length cs] w fun e w' => ∃ v : Value, e = .returned (.tuple #[v, .int .i64 (appC p l)]) ∧ Below w.heap.size w w' ∧ (appC p l ≠ 0 → v = .slice none 0 0) ∧ (appC p l = 0 → ∃ gw sls, v = .slice (some ⟨gw, 0, none⟩) l.length l.length ∧ SortsOf l sls ∧ w.heap.size ≤ gw ∧ WSt w' gw (appK p l sls) ∧ (appK p l sls).length = l.length) := by
 have hu24 := Tryz.underlying24
 have hu28 := Tryz.underlying28
 have HL := Sd.mk hL
 have HC := Sd.mk (And.intro hC (And.intro hT hA))
 have HTG := Sd.mk (And.intro htl hts)
 have HKC := Sd.mk (fun W (hB : Below w.heap.size w W) => kcheck_calls p A c W (Kd.C_below hA hB) hts htl)
 have HB0 : Sd (Below w.heap.size w (w.alloc (.cells #[.int .i64 p.last, .int .i64 p.hour, .int .i64 p.day, .int .i64 p.week, .int .i64 p.month, .int .i64 p.year, .int .i64 p.within, .slice A p.tags.length c] 24))) := ⟨below_alloc (Below.refl _ _) _⟩
 clear hC hT hA hL htl hts
 by_cases hpol : polP p = true
 ·have HAC : Sd (appC p l = if AllSnap l = true then 0 else 200) := ⟨by unfold appC; rw [if_pos hpol]⟩
  rw [if_pos hpol] at HKC
  clear hpol
  go_enter Tryz.func14, Tryz.ntmps14
  go_wp2_with (fail)
  refine (HKC.out _ HB0.out).mono ?_
  rintro e w1 ⟨rfl, hB⟩
  have HB1 := Sd.mk (below_step HB0.out hB)
  have HX1 : Sd (w1.heap[w.heap.size]? = some (.cells #[.int .i64 p.last, .int .i64 p.hour, .int .i64 p.day, .int .i64 p.week, .int .i64 p.month, .int .i64 p.year, .int .i64 p.within, .slice A p.tags.length c] 24 (0, 0))) := ⟨blk_below (blk_new _ _) hB⟩
  clear hB HKC HB0
  have hll : l.length ≤ 1000 := HL.out.1
  have q1 : decide (4096 < (l.length : Int)) = false := decide_eq_false (by omega)
  have q2 : decide (4096 < l.length) = false := decide_eq_false (by omega)
  go_wp2_with (fail)
  go_loopw [24] (fun v24 wr => ∃ k : Nat, k ≤ l.length ∧ v24 = .int .i64 k ∧ Sd (∀ i : Nat, i < k → snapP (atS l i) = true) ∧ Sd (Below w.heap.size w wr) ∧ Sd (wr.heap[w.heap.size]? = some (.cells #[.int .i64 p.last, .int .i64 p.hour, .int .i64 p.day, .int .i64 p.week, .int .i64 p.month, .int .i64 p.year, .int .i64 p.within, .slice A p.tags.length c] 24 (0, 0)))) (fun v24 _ => l.length - (intOf v24).toNat)
  case atStart => exact ⟨0, Nat.zero_le _, rfl, ⟨fun i hi => by omega⟩, HB1, HX1⟩
  case round =>
   clear HB1 HX1
   obtain ⟨k, hk, rfl, HK, HB, HX⟩ := hrel
   by_cases hlt : k < l.length
   ·obtain ⟨ad, B2, d2, B3, d3, e1, x0, x1, x2, x3, x4, x5, _, hx2, _, hx3⟩ := at_T28 HC.out.1 (k : Int) (by omega) (by omega)
    rw [Int.toNat_natCast] at x0 x1 x2 x3 x4 x5
    have hxl : atS l k ∈ l := by
     unfold atS rd_T28
     rw [Int.toNat_natCast, List.getD_eq_getElem?_getD, List.getElem?_eq_getElem hlt]
     exact List.getElem_mem _
    have hxx := HL.out.2 _ hxl
    have hfx : rd_T28 l (k : Int) = atS l k := rfl
    rw [hfx] at x0 x1 x2 x3 x4 x5 hx2 hx3
    replace x0 := pw_cell_below HB.out x0
    replace x1 := pw_cell_below HB.out x1
    replace x2 := pw_cell_below HB.out x2
    replace x3 := pw_cell_below HB.out x3
    replace x4 := pw_cell_below HB.out x4
    replace x5 := pw_cell_below HB.out x5
    have HN : Sd (snapP (atS l k) = false → AllSnap l = false) := ⟨fun h => by
     unfold AllSnap
     rw [List.all_eq_false]
     exact ⟨_, hxl, by rw [h]; simp⟩⟩
    have HN2 : Sd (snapP (atS l k) = true → ∀ i : Nat, i < k + 1 → snapP (atS l i) = true) := ⟨fun h i hi => if e : i = k then by rw [e]; exact h else HK.out i (by omega)⟩
    generalize atS l k = x at x0 x1 x2 x3 x4 x5 hx2 hx3 hxx HN HN2
    have HCK := Sd.mk (fun W (hW : Below w.heap.size w W) => snap_Check_calls x B2 B3 d2 d3 W (Kd.C_below hx2 hW) (Kd.C_below hx3 hW) hxx.2.2.1 hxx.2.2.2.1 hxx.2.2.2.2)
    generalize snapP x = sp at HCK HN HN2
    clear hxl hxx hfx hx2 hx3
    cases e1
    go_wp2_with (fail)
    have hB1 : Below wr.heap.size wr (wr.alloc (.cells #[.int .i64 x.f0, .string x.f1, .slice B2 x.f2.length d2, .slice B3 x.f3.length d3, .string x.f4, .string x.f5] 28)) := below_alloc (Below.refl _ _) _
    refine (HCK.out _ (below_step HB.out hB1)).mono ?_
    rintro e w3 ⟨rfl, hB⟩
    have HB3 := Sd.mk (below_step HB.out (below_step hB1 hB))
    have HX3 := Sd.mk (blk_below (blk_below HX.out hB1) hB)
    clear hB hB1 x0 x1 x2 x3 x4 x5 HCK HB HX
    cases sp
    ·have HF : Sd (appC p l = 200) := ⟨by rw [HAC.out, if_neg (by rw [HN.out rfl]; decide)]⟩
     go_wp2_with (fail)
     go_ret2
     exact ⟨_, by rw [HF.out]; rfl, HB3.out, fun _ => rfl, fun h => by rw [HF.out] at h; cases h⟩
    ·have HNN := Sd.mk (HN2.out rfl)
     go_wp2_with (fail)
     go_roundw
     case rel => exact ⟨k + 1, by omega, by go_num, HNN, HB3, HX3⟩
     case measure => (simp [intOf]; omega)
   ·obtain rfl : k = l.length := by omega
    have hals : AllSnap l = true := by
     unfold AllSnap
     rw [List.all_eq_true]
     intro x hx
     obtain ⟨i, hi, rfl⟩ := List.getElem_of_mem hx
     have h := HK.out i hi
     unfold atS rd_T28 at h
     rw [Int.toNat_natCast, List.getD_eq_getElem?_getD, List.getElem?_eq_getElem hi] at h
     exact h
    have HGL := Sd.mk (good_of HL.out hals)
    have HF : Sd (appC p l = 0) := ⟨by rw [HAC.out, if_pos hals]⟩
    obtain ⟨zc, hmk, hzc⟩ := make_why l.length hll wr
    clear hals HAC HK
    go_wp2_with (fail)
    have HW0 : Sd (WSt (wr.alloc (.cells zc 3)) wr.heap.size (List.replicate l.length false)) := ⟨WSt_made hzc⟩
    have HB0 : Sd (Below w.heap.size w (wr.alloc (.cells zc 3))) := ⟨below_alloc HB.out _⟩
    have HX0 : Sd ((wr.alloc (.cells zc 3)).heap[w.heap.size]? = some (.cells #[.int .i64 p.last, .int .i64 p.hour, .int .i64 p.day, .int .i64 p.week, .int .i64 p.month, .int .i64 p.year, .int .i64 p.within, .slice A p.tags.length c] 24 (0, 0))) := ⟨blk_below HX.out (below_alloc (Below.refl _ _) _)⟩
    have HGW : Sd (w.heap.size < wr.heap.size ∧ wr.heap.size < (wr.alloc (.cells zc 3)).heap.size) := ⟨blk_lt HX.out, by simp⟩
    clear hmk hzc HB HX
    generalize (wr.alloc (.cells zc 3)) = w4 at HW0 HB0 HX0 HGW ⊢
    generalize wr.heap.size = gw at HW0 HGW ⊢
    refine (groups_calls As cs l w w4 HC.out.1 HB0.out HGL.out.1).mono ?_
    rintro e w5 ⟨v, sls, V, rfl, hsl, hR, hB, hrows⟩
    obtain ⟨outs, houts⟩ : ∃ outs, outs = (ordK l l.length).map (fun s => ((V s).1, (posG l l.length s.data.toList).length, (V s).2)) := ⟨_, rfl⟩
    rw [← houts] at hR
    have hol : outs.length = (ordK l l.length).length := by rw [houts, List.length_map]
    have HSR : Sd (SortsOf l sls) := ⟨hsl, fun j s sl h1 h2 => ⟨(hrows j s sl h1 h2).1, (hrows j s sl h1 h2).2.1⟩⟩
    have HRW : Sd (∀ (j : Nat) (o : Nat × Nat × Nat) (sl : List Nat), outs[j]? = some o → sls[j]? = some sl → o.2.1 = sl.length ∧ IRow w5 o.1 sl ∧ w4.heap.size ≤ o.1 ∧ sl.length ≤ 1000 ∧ ∀ i ∈ sl, i < l.length) := ⟨fun j o sl h1 h2 => by
     rw [houts, List.getElem?_map] at h1
     obtain ⟨s, hs, rfl⟩ := Option.map_eq_some_iff.1 h1
     obtain ⟨k1, k2, k3⟩ := hrows j s sl hs h2
     obtain ⟨r1, r2, r3⟩ := IRow_of_R k3
     have r4 := posG_len l l.length s.data.toList
     have r5 := HL.out.1
     have r6 : (posG l l.length s.data.toList).length = sl.length := r2
     exact ⟨r2, r1, r3, by omega, fun i hi => (posG_mem.1 ((k1.mem_iff).1 hi)).1⟩⟩
    obtain ⟨Ao, co, rfl, hco, hCo⟩ := Kd.R_reads hR
    have HR := Sd.mk hR
    have HSL : Sd (sls.length = outs.length ∧ outs.length ≤ 1000) := ⟨by rw [hsl, hol], by rw [hol]; exact Nat.le_trans (ordK_len l _) HL.out.1⟩
    have HB5 := Sd.mk (below_step HB0.out hB)
    have HX5 := Sd.mk (blk_below HX0.out hB)
    have HW5 := Sd.mk (HW0.out.below hB)
    have HS5 : Sd (w4.heap.size ≤ w5.heap.size) := ⟨hB.size⟩
    clear hsl hR hrows houts hol hco hCo hB HW0 HB0 HX0
    go_wp2_with (fail)
    go_loopw [40] (fun v40 wg => ∃ j : Nat, j ≤ outs.length ∧ v40 = .int .i64 j ∧ Sd (WSt wg gw ((sls.take j).foldl (stepK p l) (List.replicate l.length false))) ∧ Sd (w5.grownBy wg (some gw))) (fun v40 _ => outs.length - (intOf v40).toNat)
    case atStart => exact ⟨0, Nat.zero_le _, rfl, HW5, ⟨grown_of_below (Below.refl _ _) _⟩⟩
    case round =>
     clear HW5
     obtain ⟨j, hj, rfl, HWj, HGj⟩ := hrel
     have HBj : Sd (Below w.heap.size w wr) := ⟨pw_below_grown HB5.out _ HB5.out.size HGj.out (fun k hk => by have := HGW.out; rw [← Option.some.inj hk]; omega)⟩
     have HXj : Sd (wr.heap[w.heap.size]? = some (.cells #[.int .i64 p.last, .int .i64 p.hour, .int .i64 p.day, .int .i64 p.week, .int .i64 p.month, .int .i64 p.year, .int .i64 p.within, .slice A p.tags.length c] 24 (0, 0))) := ⟨blk_grown HX5.out HGj.out (by have := HGW.out; omega)⟩
     by_cases hjl : j < outs.length
     ·obtain ⟨o, ho⟩ : ∃ o, outs[j]? = some o := ⟨_, List.getElem?_eq_getElem hjl⟩
      obtain ⟨sl, hsl⟩ : ∃ sl, sls[j]? = some sl := ⟨_, List.getElem?_eq_getElem (by have := HSL.out.1; omega)⟩
      obtain ⟨r1, r2, r3, r4, r5⟩ := HRW.out j o sl ho hsl
      have hRj : kH.R 39 wr w4.heap.size (fun _ => True) (.slice Ao outs.length co) outs := Kd.R_grown2 HR.out rfl HGj.out (fun k hk he => by
       obtain ⟨i1, o1⟩ := Kd.R_own HR.out
       have h1 := own_base o1 k he.symm
       have h2 := HGW.out
       rw [← Option.some.inj hk] at h1
       omega)
      obtain ⟨ad, e0, hcell⟩ := at_H (Kd.R_reads' hRj).2.2 j hjl o ho
      rw [r1] at hcell
      have hne : o.1 ≠ gw := by have := HGW.out; omega
      have HPG := Sd.mk (pgroup_calls p A As c cs o.2.2 o.1 gw l sl _ w wr HC.out.1 HC.out.2.1 HC.out.2.2 HBj.out HWj.out (by rw [foldK_len, List.length_replicate]) (by have := HGW.out; omega) (r2.grown HGj.out hne) hne r5 r4 HGL.out.2 HL.out.1 HTG.out.1)
      have HFT := Sd.mk (foldK_take p l sls (List.replicate l.length false) j sl hsl)
      have hjb : j ≤ 1000 := by have := HSL.out.2; omega
      have q10 : wr.cell? ⟨w.heap.size, 0, none⟩ = some (.int .i64 p.last) := (blk_cell HXj.out 0).trans rfl
      have q11 : wr.cell? ⟨w.heap.size, 1, none⟩ = some (.int .i64 p.hour) := (blk_cell HXj.out 1).trans rfl
      have q12 : wr.cell? ⟨w.heap.size, 2, none⟩ = some (.int .i64 p.day) := (blk_cell HXj.out 2).trans rfl
      have q13 : wr.cell? ⟨w.heap.size, 3, none⟩ = some (.int .i64 p.week) := (blk_cell HXj.out 3).trans rfl
      have q14 : wr.cell? ⟨w.heap.size, 4, none⟩ = some (.int .i64 p.month) := (blk_cell HXj.out 4).trans rfl
      have q15 : wr.cell? ⟨w.heap.size, 5, none⟩ = some (.int .i64 p.year) := (blk_cell HXj.out 5).trans rfl
      have q16 : wr.cell? ⟨w.heap.size, 6, none⟩ = some (.int .i64 p.within) := (blk_cell HXj.out 6).trans rfl
      have q17 : wr.cell? ⟨w.heap.size, 7, none⟩ = some (.slice A p.tags.length c) := (blk_cell HXj.out 7).trans rfl
      cases e0
      clear ho hsl r1 r2 r3 r4 r5 hRj hne hj
      go_wp2_with (fail)
      refine HPG.out.mono ?_
      rintro e w6 ⟨rfl, hw6, hg6⟩
      have HW6 := Sd.mk hw6
      have HG6 : Sd (w5.grownBy w6 (some gw)) := ⟨HGj.out.trans hg6⟩
      clear hw6 hg6 HPG
      go_wp2_with (fail)
      go_roundw
      case rel => exact ⟨j + 1, hjl, by go_num, ⟨by rw [HFT.out]; exact HW6.out⟩, HG6⟩
      case measure => (simp [intOf]; omega)
     ·obtain rfl : j = outs.length := by omega
      clear hjl hj
      obtain ⟨ks, hks⟩ : ∃ ks, ks = (sls.take outs.length).foldl (stepK p l) (List.replicate l.length false) := ⟨_, rfl⟩
      rw [← hks] at HWj
      have HKS : Sd (ks = grpK p l sls ∧ ks.length = l.length) := ⟨by
       rw [← HSL.out.1, List.take_length] at hks
       exact ⟨hks, by rw [hks, foldK_len, List.length_replicate]⟩⟩
      clear hks
      have q10 : wr.cell? ⟨w.heap.size, 0, none⟩ = some (.int .i64 p.last) := (blk_cell HXj.out 0).trans rfl
      have q11 : wr.cell? ⟨w.heap.size, 1, none⟩ = some (.int .i64 p.hour) := (blk_cell HXj.out 1).trans rfl
      have q12 : wr.cell? ⟨w.heap.size, 2, none⟩ = some (.int .i64 p.day) := (blk_cell HXj.out 2).trans rfl
      have q13 : wr.cell? ⟨w.heap.size, 3, none⟩ = some (.int .i64 p.week) := (blk_cell HXj.out 3).trans rfl
      have q14 : wr.cell? ⟨w.heap.size, 4, none⟩ = some (.int .i64 p.month) := (blk_cell HXj.out 4).trans rfl
      have q15 : wr.cell? ⟨w.heap.size, 5, none⟩ = some (.int .i64 p.year) := (blk_cell HXj.out 5).trans rfl
      have q16 : wr.cell? ⟨w.heap.size, 6, none⟩ = some (.int .i64 p.within) := (blk_cell HXj.out 6).trans rfl
      have q17 : wr.cell? ⟨w.heap.size, 7, none⟩ = some (.slice A p.tags.length c) := (blk_cell HXj.out 7).trans rfl
      have HSC := Sd.mk (silent_calls p A c wr (by have := HTG.out.1; omega))
      go_wp2_with (fail)
      refine HSC.out.mono ?_
      rintro e w6 ⟨rfl, hB⟩
      have HW6 := Sd.mk (HWj.out.below hB)
      have HB6 := Sd.mk (below_step HBj.out hB)
      obtain ⟨sb, hsb⟩ : ∃ sb, sb = silentP p := ⟨_, rfl⟩
      have HSB := Sd.mk hsb
      rw [← hsb]
      clear hsb hB HSC q10 q11 q12 q13 q14 q15 q16 q17
      cases sb
      ·have HAP : Sd (appK p l sls = ks) := ⟨by unfold appK; rw [← HSB.out, if_neg (by decide), HKS.out.1]⟩
       go_wp2_with (fail)
       go_ret2
       exact ⟨_, by rw [HF.out]; rfl, HB6.out, fun h => absurd HF.out h, fun _ => ⟨gw, sls, rfl, HSR.out, by have := HGW.out; omega, by rw [HAP.out]; exact HW6.out, by rw [HAP.out]; exact HKS.out.2⟩⟩
      ·have HAP : Sd (appK p l sls = List.replicate l.length true) := ⟨by unfold appK; rw [← HSB.out, if_pos rfl]⟩
       go_wp2_with (fail)
       go_loopw [54] (fun v54 wg => ∃ i : Nat, i ≤ l.length ∧ v54 = .int .i64 i ∧ Sd (WSt wg gw (List.replicate i true ++ ks.drop i)) ∧ Sd (Below w.heap.size w wg)) (fun v54 _ => l.length - (intOf v54).toNat)
       case atStart => exact ⟨0, Nat.zero_le _, rfl, HW6, HB6⟩
       case round =>
        clear HW6 HB6
        obtain ⟨i, hi, rfl, HWi, HBi⟩ := hrel
        by_cases hil : i < l.length
        ·have hfl : i < (List.replicate i true ++ ks.drop i).length := by have := HKS.out.2; simp; omega
         obtain ⟨v, hv, hf⟩ := HWi.out.cell hfl
         have HSET := Sd.mk (HWi.out.set hfl 1 (by decide))
         rw [fill_set ks i (by have := HKS.out.2; omega)] at HSET
         clear hfl
         go_wp2_with (fail)
         go_roundw
         case rel => exact ⟨i + 1, hil, by go_num, HSET, ⟨below_set HBi.out (by have := HGW.out; omega)⟩⟩
         case measure => (simp [intOf]; omega)
        ·obtain rfl : i = l.length := by omega
         have HWF : Sd (WSt wr gw (List.replicate l.length true)) := ⟨by
          have h := HWi.out
          rw [← HKS.out.2, List.drop_length, List.append_nil, HKS.out.2] at h
          exact h⟩
         clear hil hi
         go_wp2_with (fail)
         go_ret2
         exact ⟨_, by rw [HF.out]; rfl, HBi.out, fun h => absurd HF.out h, fun _ => ⟨gw, sls, rfl, HSR.out, by have := HGW.out; omega, by rw [HAP.out]; exact HWF.out, by rw [HAP.out]; simp⟩⟩
 ·have HAC : Sd (appC p l = 1) := ⟨by unfold appC; rw [if_neg hpol]⟩
  rw [if_neg hpol] at HKC
  clear hpol
  go_enter Tryz.func14, Tryz.ntmps14
  go_wp2_with (fail)
  refine (HKC.out _ HB0.out).mono ?_
  rintro e w1 ⟨rfl, hB⟩
  have HB1 := Sd.mk (below_step HB0.out hB)
  clear hB HKC HB0
  go_wp2_with (fail)
  go_ret2
  exact ⟨_, by rw [HAC.out]; rfl, HB1.out, fun _ => rfl, fun h => by rw [HAC.out] at h; cases h⟩
end Go.Proofs.YtpdkgpmcmebefaaGreatDoor.Q
namespace Go.Proofs.YtpdkgpmcmebefaaGreatDoor.Q
open Go.RowKit Go.Sort Go.Proofs Go.Proofs.YtpdkgpmcmebefaaGreatDoorW.PrintWords Go.Proofs.YtpdkgpmcmebefaaGreatDoorW.PrintLast Go.Proofs.YtpdkgpmcmebefaaGreatDoorW.PrintMore
attribute [local go_sem] max2_int min2_int max_two min_two max_three min_three max_four min_four
theorem bl_irrefl : ∀ x : List UInt8, Op.bytesLess x x = false
 | [] => rfl
 | a :: x => by
  rw [Op.bytesLess, bl_irrefl x]
  simp
theorem bl_trans : ∀ x y z : List UInt8, Op.bytesLess x y = true → Op.bytesLess y z = true → Op.bytesLess x z = true
 | _, [], _, h, _ => by simp [Op.bytesLess] at h
 | _, _ :: _, [], _, h => by simp [Op.bytesLess] at h
 | [], _ :: _, _ :: _, _, _ => rfl
 | a :: x, b :: y, c :: z, h, h' => by
  simp only [Op.bytesLess, Bool.or_eq_true, decide_eq_true_eq, Bool.and_eq_true, beq_iff_eq] at h h' ⊢
  rcases h with h | ⟨rfl, h⟩
  ·rcases h' with h' | ⟨rfl, h'⟩
   ·exact .inl (UInt8.lt_trans h h')
   ·exact .inl h
  ·rcases h' with h' | ⟨rfl, h'⟩
   ·exact .inl h'
   ·exact .inr ⟨rfl, bl_trans x y z h h'⟩
theorem bl_tri : ∀ x y : List UInt8, Op.bytesLess x y = false → Op.bytesLess y x = false → x = y
 | [], [], _, _ => rfl
 | [], _ :: _, h, _ => by simp [Op.bytesLess] at h
 | _ :: _, [], _, h => by simp [Op.bytesLess] at h
 | a :: x, b :: y, h, h' => by
  simp only [Op.bytesLess, Bool.or_eq_false_iff, decide_eq_false_iff_not] at h h'
  have hab : a = b := by
   apply UInt8.toNat_inj.1
   have h1 := h.1
   have h2 := h'.1
   rw [UInt8.lt_iff_toNat_lt] at h1 h2
   omega
  subst hab
  have h1 := h.2
  have h2 := h'.2
  simp only [beq_self_eq_true, Bool.true_and] at h1 h2
  rw [bl_tri x y h1 h2]
def Rising (l : List ByteArray) : Prop := l.Pairwise fun a b => Op.bytesLess a.toList b.toList = true
theorem rising_eq : ∀ {l r : List ByteArray}, Rising l → Rising r → (∀ s, s ∈ l ↔ s ∈ r) → l = r
 | [], [], _, _, _ => rfl
 | [], b :: r, _, _, h => by have := (h b).2 (by simp); simp at this
 | a :: l, [], _, _, h => by have := (h a).1 (by simp); simp at this
 | a :: l, b :: r, hl, hr, h => by
  obtain ⟨h1, h2⟩ := List.pairwise_cons.1 hl
  obtain ⟨h3, h4⟩ := List.pairwise_cons.1 hr
  have nl : ∀ {x y : ByteArray}, Op.bytesLess x.toList y.toList = true → Op.bytesLess y.toList x.toList = true → False := fun {x y} hx hy => by
   have := bl_trans _ _ _ hx hy
   rw [bl_irrefl] at this
   cases this
  have hab : a = b := by
   rcases List.mem_cons.1 ((h a).1 (by simp)) with e | e
   ·exact e
   ·rcases List.mem_cons.1 ((h b).2 (by simp)) with e' | e'
    ·exact e'.symm
    ·exact (nl (h3 _ e) (h1 _ e')).elim
  subst hab
  congr 1
  refine rising_eq h2 h4 fun s => ?_
  have hs := h s
  simp only [List.mem_cons] at hs
  constructor
  ·intro hm
   rcases hs.1 (.inr hm) with e | e
   ·subst e
    exact (nl (h1 _ hm) (h1 _ hm)).elim
   ·exact e
  ·intro hm
   rcases hs.2 (.inr hm) with e | e
   ·subst e
    exact (nl (h3 _ hm) (h3 _ hm)).elim
   ·exact e
theorem bl_total {a b : ByteArray} (h : Op.bytesLess a.toList b.toList = false) (hne : a ≠ b) : Op.bytesLess b.toList a.toList = true := by
 cases h2 : Op.bytesLess b.toList a.toList with
 | true => rfl
 | false => exact absurd (eq_of_toList (bl_tri _ _ h h2)) hne
theorem ins_rising {o : List ByteArray} {p : ByteArray} {j : Nat} (hr : Rising o) (hj : j ≤ o.length) (h1 : ∀ t s, t < j → o[t]? = some s → Op.bytesLess s.toList p.toList = true) (h2 : ∀ s, o[j]? = some s → Op.bytesLess s.toList p.toList = false ∧ s ≠ p) :
  Rising (o.take j ++ p :: o.drop j) ∧ ∀ s, s ∈ o.take j ++ p :: o.drop j ↔ s ∈ o ∨ s = p := by
 have hm : ∀ s, s ∈ o.take j ++ p :: o.drop j ↔ s ∈ o ∨ s = p := fun s => by
  conv => rhs; rw [← List.take_append_drop j o]
  simp only [List.mem_append, List.mem_cons]
  constructor
  ·rintro (h | h | h)
   ·exact .inl (.inl h)
   ·exact .inr h
   ·exact .inl (.inr h)
  ·rintro ((h | h) | h)
   ·exact .inl h
   ·exact .inr (.inr h)
   ·exact .inr (.inl h)
 have ht : ∀ s ∈ o.take j, Op.bytesLess s.toList p.toList = true := fun s hs => by
  obtain ⟨t, ht, rfl⟩ := List.getElem_of_mem hs
  have htj : t < j := by have := List.length_take_le j o; rw [List.length_take] at ht; omega
  rw [List.getElem_take]
  exact h1 t _ htj (List.getElem?_eq_getElem (by omega))
 have hd : ∀ s ∈ o.drop j, Op.bytesLess p.toList s.toList = true := fun s hs => by
  obtain ⟨t, ht, rfl⟩ := List.getElem_of_mem hs
  rw [List.length_drop] at ht
  rw [List.getElem_drop]
  have hjl : j < o.length := by omega
  obtain ⟨h3, h4⟩ := h2 _ (List.getElem?_eq_getElem hjl)
  have h5 := bl_total h3 h4
  rcases Nat.eq_zero_or_pos t with h6 | h6
  ·subst h6; exact h5
  ·exact bl_trans _ _ _ h5 (List.pairwise_iff_getElem.1 hr j (j + t) hjl (by omega) (by omega))
 refine ⟨?_, hm⟩
 have hsp : Rising (o.take j ++ o.drop j) := by rw [List.take_append_drop]; exact hr
 obtain ⟨p1, p2, p3⟩ := List.pairwise_append.1 hsp
 refine List.pairwise_append.2 ⟨p1, List.pairwise_cons.2 ⟨hd, p2⟩, fun a ha b hb => ?_⟩
 rcases List.mem_cons.1 hb with rfl | hb
 ·exact ht a ha
 ·exact p3 a ha b hb
def packB (x : List UInt8) : ByteArray := ⟨x.toArray⟩
theorem packB_data (x : List UInt8) : (packB x).data.toList = x := rfl
theorem packB_list (x : List UInt8) : (packB x).toList = x := by rw [toList_data, packB_data]
theorem packB_of (s : ByteArray) : packB s.data.toList = s := data_inj rfl
theorem keeps_iff (d : Array (List UInt8)) (j : Nat) : Lib.keeps d j = true ↔ j = 0 ∨ d[j]! ≠ d[j - 1]! := by
 unfold Lib.keeps
 simp
theorem compact_mem (zs : List (List UInt8)) (x : List UInt8) : x ∈ Lib.compact zs ↔ x ∈ zs := by
 unfold Lib.compact Lib.compactUpTo
 rw [List.mem_map]
 constructor
 ·rintro ⟨i, hi, rfl⟩
  have h1 : i < zs.length := List.mem_range.1 (List.mem_filter.1 hi).1
  simp [h1]
 ·intro hx
  obtain ⟨i, hi, he⟩ := List.getElem_of_mem hx
  have key : ∀ n i, i ≤ n → ∀ hi : i < zs.length, zs[i] = x → ∃ a, a ∈ (List.range zs.length).filter (Lib.keeps zs.toArray) ∧ zs.toArray[a]! = x := by
   intro n
   induction n with
   | zero =>
    intro i hin hi he
    obtain rfl : i = 0 := by omega
    refine ⟨0, List.mem_filter.2 ⟨List.mem_range.2 hi, (keeps_iff _ _).2 (.inl rfl)⟩, ?_⟩
    simp [hi, he]
   | succ n ih =>
    intro i hin hi he
    by_cases hk : Lib.keeps zs.toArray i = true
    ·refine ⟨i, List.mem_filter.2 ⟨List.mem_range.2 hi, hk⟩, ?_⟩
     simp [hi, he]
    ·have h2 : ¬ (i = 0 ∨ zs.toArray[i]! ≠ zs.toArray[i - 1]!) := fun h => hk ((keeps_iff _ _).2 h)
     have h3 : i ≠ 0 := fun h => h2 (.inl h)
     have h4 : zs.toArray[i]! = zs.toArray[i - 1]! := Decidable.byContradiction fun h => h2 (.inr h)
     refine ih (i - 1) (by omega) (by omega) ?_
     rw [← he]
     simpa [hi, show i - 1 < zs.length by omega] using h4.symm
  exact key i i (Nat.le_refl _) hi he
theorem compact_rising (zs : List (List UInt8)) (h : zs.Pairwise fun a b => decide (a ≤ b) = true) : (Lib.compact zs).Pairwise fun a b => a < b := by
 unfold Lib.compact Lib.compactUpTo
 refine List.pairwise_map.2 ?_
 have hr : ((List.range zs.length).filter (Lib.keeps zs.toArray)).Pairwise (· < ·) := List.Pairwise.filter _ List.pairwise_lt_range
 refine List.Pairwise.imp_of_mem (fun {i j} hi hj hij => ?_) hr
 obtain ⟨hi1, _⟩ := List.mem_filter.1 hi
 obtain ⟨hj1, hj2⟩ := List.mem_filter.1 hj
 have hil := List.mem_range.1 hi1
 have hjl := List.mem_range.1 hj1
 have hle : ∀ a b, a ≤ b → ∀ hb : b < zs.length, zs.toArray[a]! ≤ zs.toArray[b]! := fun a b hab hb => by
  have ha : a < zs.length := by omega
  have e1 : zs.toArray[a]! = zs[a] := by simp [ha]
  have e2 : zs.toArray[b]! = zs[b] := by simp [hb]
  rw [e1, e2]
  rcases Nat.lt_or_ge a b with hlt | hge
  ·exact odt (List.pairwise_iff_getElem.1 h a b ha hb hlt)
  ·obtain rfl : a = b := by omega
   exact List.le_refl _
 have h1 := hle i (j - 1) (by omega) (by omega)
 have h2 := hle (j - 1) j (by omega) hjl
 rcases (keeps_iff _ _).1 hj2 with h3 | h3
 ·omega
 ·have h4 : zs.toArray[j - 1]! < zs.toArray[j]! := Decidable.byContradiction fun hn => h3 (List.le_antisymm (List.not_lt.1 hn) h2)
  exact List.lt_of_le_of_lt h1 h4
theorem rising_pack {zs : List (List UInt8)} (h : zs.Pairwise fun a b => a < b) : Rising (zs.map packB) := by
 refine List.pairwise_map.2 (h.imp fun {a b} hab => ?_)
 rw [packB_list, packB_list]
 exact (bl_lt a b).2 hab
theorem pack_enc (zs : List (List UInt8)) : encs Value.string (zs.map packB) = zs.map encStr := by simp [encs, packB, Function.comp_def]
theorem unpack (l : List ByteArray) : (l.map fun s => s.data.toList).map packB = l := by
 rw [List.map_map]
 conv => rhs; rw [← List.map_id l]
 exact List.map_congr_left fun s _ => packB_of s
theorem sort_calls (v : Value) (l : List ByteArray) (base : Nat) (ok : Nat → Prop) (w : World) (h : Kd.R Kd.string 9 w base ok v l) (hl : l.length ≤ 100000) :
  Calls Tryz.prog 16 #[v] w fun e w' => e = .returned (.tuple #[]) ∧ Kd.R Kd.string 9 w' base ok v (((l.map fun s => s.data.toList).mergeSort fun x y => decide (x ≤ y)).map packB) ∧ w.grownBy w' v.ownBlock := by
 obtain ⟨zs, hz⟩ : ∃ zs, zs = l.map fun s => s.data.toList := ⟨_, rfl⟩
 have hl0 : l = zs.map packB := by rw [hz, unpack]
 have hlen : zs.length = l.length := by rw [hz]; simp
 rw [← hz]
 clear hz
 have ho := Kd.own_of_R h
 have hok := h.1
 rw [hl0, pack_enc] at ho
 simp only [List.length_map] at ho
 clear h
 rcases ho.2 with ⟨rfl, h0⟩ | ⟨g, cap, cur, rfl, hg, hb, h1, h2, h3, h4⟩
 ·refine (Tryz.slices_Sort_string_none none 0 w).mono ?_
  rintro e w' ⟨rfl, rfl⟩
  have : zs = [] := List.length_eq_zero_iff.1 h0
  subst this
  exact ⟨rfl, by simpa using Kd.R_nil Kd.string 9 w' base ok, grown_of_below (Below.refl _ _) _⟩
 ·refine (Tryz.slices_Sort_string g 0 cap zs w (holds_of_block hb (by simpa using h4)) (blk_lt hb) (by omega)).mono ?_
  rintro e w' ⟨rfl, n, os, rfl⟩
  refine ⟨rfl, ?_, grownBy_sorted _⟩
  refine Kd.R_of_own ?_ hok
  rw [pack_enc, List.length_map, List.length_mergeSort]
  exact ownsRow_sorted (by simp) hg hb h1 h2 h3
theorem compact_calls (v : Value) (l : List ByteArray) (base : Nat) (ok : Nat → Prop) (w : World) (h : Kd.R Kd.string 9 w base ok v l) (hl : l.length ≤ 100000) :
  Calls Tryz.prog 17 #[v] w fun e w' => ∃ v', e = .returned v' ∧ Kd.R Kd.string 9 w' base ok v' ((Lib.compact (l.map fun s => s.data.toList)).map packB) ∧ w.grownBy w' v.ownBlock := by
 obtain ⟨zs, hz⟩ : ∃ zs, zs = l.map fun s => s.data.toList := ⟨_, rfl⟩
 have hl0 : l = zs.map packB := by rw [hz, unpack]
 have hlen : zs.length = l.length := by rw [hz]; simp
 rw [← hz]
 clear hz
 have ho := Kd.own_of_R h
 have hok := h.1
 rw [hl0, pack_enc] at ho
 simp only [List.length_map] at ho
 clear h
 rcases ho.2 with ⟨rfl, h0⟩ | ⟨g, cap, cur, rfl, hg, hb, h1, h2, h3, h4⟩
 ·refine (Tryz.slices_Compact_string_empty none 0 w).mono ?_
  rintro e w' ⟨rfl, rfl⟩
  have : zs = [] := List.length_eq_zero_iff.1 h0
  subst this
  exact ⟨_, rfl, Kd.R_nil Kd.string 9 w' base ok, grown_of_below (Below.refl _ _) _⟩
 ·refine (Tryz.slices_Compact_string g 0 cap zs w (holds_of_block hb (by simpa using h4)) (by omega) h1).mono ?_
  rintro e w' ⟨rfl, n, rfl⟩
  have hcl : (Lib.compact zs).length ≤ zs.length := by
   unfold Lib.compact Lib.compactUpTo
   rw [List.length_map]
   exact Nat.le_trans (List.length_filter_le _ _) (by simp)
  obtain ⟨ts, hts⟩ : ∃ ts, ts = Lib.compact zs ++ List.replicate (zs.length - (Lib.compact zs).length) [] := ⟨_, rfl⟩
  have htl : ts.length = zs.length := by rw [hts]; simp; omega
  rw [← hts]
  have hgw : w.grownBy (grow (putRow encStr (Sort.ahead w n) g 0 ts.toArray) #[]) (some g) := grownBy_sorted _
  have hrow := ownsRow_sorted (n := n) (os := #[]) (base := base) htl hg hb h1 h2 h3
  rw [grow_empty] at hgw hrow
  refine ⟨_, rfl, ?_, hgw⟩
  refine Kd.R_of_own ?_ hok
  rw [pack_enc, List.length_map]
  rcases hrow.2 with ⟨hv, _⟩ | ⟨g', cap', cur', hv, hg', hb', k1, k2, k3, k4⟩
  ·injection hv with hv
   cases hv
  ·injection hv with hv e1 e2
   injection hv with hv
   injection hv with hv
   subst hv e2
   refine ⟨by simp, .inr ⟨g, cap, cur', rfl, hg', hb', by omega, k2, k3, ?_⟩⟩
   have h5 : (cur'.toList.take (zs.length * 1)).take (Lib.compact zs).length = (ts.map encStr).take (Lib.compact zs).length := by rw [k4]
   rw [List.take_take, Nat.min_eq_left (by omega), ← List.map_take, hts, List.take_left'] at h5
   ·simpa using h5
   ·rfl
theorem sorted_pw (zs : List (List UInt8)) : (zs.mergeSort fun x y => decide (x ≤ y)).Pairwise fun a b => decide (a ≤ b) = true :=
 List.pairwise_mergeSort (fun a b c hab hbc => by simp only [decide_eq_true_eq] at *; exact List.le_trans hab hbc) (fun a b => by simp only [Bool.or_eq_true, decide_eq_true_eq]; exact List.le_total a b) zs
def risL (l : List ByteArray) : List ByteArray := (Lib.compact (((((l.map fun s => s.data.toList).mergeSort fun x y => decide (x ≤ y)).map packB)).map fun s => s.data.toList)).map packB
theorem risL_rising (l : List ByteArray) : Rising (risL l) := by
 unfold risL
 refine rising_pack (compact_rising _ ?_)
 rw [List.map_map, show ((fun s : ByteArray => s.data.toList) ∘ packB) = id from rfl, List.map_id]
 exact sorted_pw _
theorem risL_mem (l : List ByteArray) (s : ByteArray) : s ∈ risL l ↔ s ∈ l := by
 unfold risL
 rw [List.map_map, show ((fun s : ByteArray => s.data.toList) ∘ packB) = id from rfl, List.map_id, List.mem_map]
 constructor
 ·rintro ⟨x, hx, rfl⟩
  rw [compact_mem, List.mem_mergeSort, List.mem_map] at hx
  obtain ⟨t, ht, rfl⟩ := hx
  rw [packB_of]
  exact ht
 ·intro h
  refine ⟨s.data.toList, ?_, packB_of s⟩
  rw [compact_mem, List.mem_mergeSort]
  exact List.mem_map_of_mem h
theorem clone_calls (v : Value) (l : List ByteArray) (base : Nat) (ok : Nat → Prop) (w : World) (h : Kd.R Kd.string 9 w base ok v l) (hl : l.length ≤ 100000) :
  Calls Tryz.prog 15 #[v] w fun e w' => ∃ v', e = .returned v' ∧ Kd.R Kd.string 9 w' w.heap.size (fun _ => True) v' l ∧ Below w.heap.size w w' := by
 have ho := Kd.own_of_R h
 rcases ho.2 with ⟨rfl, h0⟩ | ⟨g, cap, cur, rfl, hg, hb, h1, h2, h3, h4⟩
 ·refine (Tryz.slices_Clone_string_nil 0 0 w).mono ?_
  rintro e w' ⟨rfl, rfl⟩
  have : l = [] := List.length_eq_zero_iff.1 h0
  subst this
  exact ⟨_, rfl, Kd.R_nil Kd.string 9 _ _ _, Below.refl _ _⟩
 ·refine (Tryz.slices_Clone_string g 0 l.length cap l w (Nat.le_refl _) (by omega) (fun j hj => ?_)).mono ?_
  ·have h5 := congrArg (·[j]?) h4
   rw [Nat.mul_one, List.getElem?_take_of_lt hj, Array.getElem?_toList] at h5
   rw [Nat.zero_add, blk_cell hb, h5]
   unfold encs
   rw [List.getElem?_map, List.getElem?_eq_getElem hj, List.getD_eq_getElem?_getD, List.getElem?_eq_getElem hj]
   rfl
  ·rintro e w' ⟨v', rfl, hR, _, hB⟩
   rw [List.take_length] at hR
   exact ⟨v', rfl, Kd.R_of_own hR (fun _ _ => trivial), hB⟩
theorem rising_calls (v : Value) (l : List ByteArray) (base : Nat) (ok : Nat → Prop) (w : World) (h : Kd.R Kd.string 9 w base ok v l) (hl : l.length ≤ 100000) :
  Calls Tryz.prog 12 #[v] w fun e w' => ∃ v', e = .returned v' ∧ Kd.R Kd.string 9 w' w.heap.size (fun _ => True) v' (risL l) ∧ Below w.heap.size w w' := by
 have HC := Sd.mk (clone_calls v l base ok w h hl)
 have HL := Sd.mk hl
 clear h hl
 go_enter Tryz.func12, Tryz.ntmps12
 go_wp2_with (fail)
 refine HC.out.mono ?_
 rintro e w1 ⟨v1, rfl, hR, hB⟩
 have HR1 := Sd.mk hR
 have HB1 := Sd.mk hB
 clear hR hB HC
 go_wp2_with (fail)
 refine (sort_calls v1 l w.heap.size _ w1 HR1.out HL.out).mono ?_
 rintro e w2 ⟨rfl, hR, hg⟩
 have HB2 : Sd (Below w.heap.size w w2) := ⟨pw_below_grown HB1.out _ HB1.out.size hg (fun k hk => by
  obtain ⟨i1, o1⟩ := Kd.R_own HR1.out
  exact own_base o1 k hk)⟩
 have HR2 := Sd.mk hR
 clear hR hg
 go_wp2_with (fail)
 refine (compact_calls v1 _ w.heap.size _ w2 HR2.out (by rw [List.length_map, List.length_mergeSort, List.length_map]; exact HL.out)).mono ?_
 rintro e w3 ⟨v3, rfl, hR, hg⟩
 have HB3 : Sd (Below w.heap.size w w3) := ⟨pw_below_grown HB2.out _ HB2.out.size hg (fun k hk => by
  obtain ⟨i1, o1⟩ := Kd.R_own HR2.out
  exact own_base o1 k hk)⟩
 have HR3 : Sd (Kd.R Kd.string 9 w3 w.heap.size (fun _ => True) v3 (risL l)) := ⟨hR⟩
 clear hR hg HR2
 go_wp2_with (fail)
 go_ret
 exact ⟨_, rfl, HR3.out, HB3.out⟩
end Go.Proofs.YtpdkgpmcmebefaaGreatDoor.Q
namespace Go.Proofs.YtpdkgpmcmebefaaGreatDoor.Q
open Go.RowKit Go.Proofs.YtpdkgpmcmebefaaGreatDoorW.PrintWords Go.Proofs.YtpdkgpmcmebefaaGreatDoorW.PrintLast Go.Proofs.YtpdkgpmcmebefaaGreatDoorW.PrintMore
attribute [local go_sem] max2_int min2_int max_two min_two max_three min_three max_four min_four
theorem WSt.kept {W W' : World} {g : Nat} {row : Option Nat} {ks : List Bool} (h : WSt W g ks) (hg : W.grownBy W' row) (hn : some g ≠ row) : WSt W' g ks := by
 obtain ⟨ws, h1, h2⟩ := h
 exact ⟨ws, (hg.block g (blk_lt h1) hn).trans h1, h2⟩
theorem WSt.cell2 {W : World} {g : Nat} {ks : List Bool} (h : WSt W g ks) {i : Nat} (hi : i < ks.length) : ∃ v : Int, W.cell? ⟨g, i, none⟩ = some (.int .i64 v) ∧ (v = 0 ↔ ks.getD i false = false) := by
 obtain ⟨ws, h1, h2, h3⟩ := h
 refine ⟨ws.getD i 0, (blk_cell h1 i).trans ?_, h3 i hi⟩
 have hw : i < ws.length := by omega
 rw [List.getElem?_toArray, List.getElem?_map, List.getElem?_eq_getElem hw, List.getD_eq_getElem?_getD, List.getElem?_eq_getElem hw]
 rfl
def forL (ks : List Bool) (k : Nat) : List Nat := (List.range k).filter fun i => !ks.getD i false
theorem forL_succ (ks : List Bool) (k : Nat) : forL ks (k + 1) = if ks.getD k false = true then forL ks k else forL ks k ++ [k] := by
 unfold forL
 rw [List.range_succ, List.filter_append]
 cases h : ks.getD k false
 ·rw [if_neg (by decide), List.filter_cons, h]
  rfl
 ·rw [if_pos rfl, List.filter_cons, h]
  exact List.append_nil _
theorem forL_len (ks : List Bool) (k : Nat) : (forL ks k).length ≤ k := by
 have := List.length_filter_le (fun i => !ks.getD i false) (List.range k)
 rwa [List.length_range] at this
theorem forget_calls (p : Pol) (A As : Option Addr) (c cs : Nat) (l : List S28) (w : World) (hC : Kd.C k28 w As l.length l) (hT : MonthT w) (hA : Kd.C Kd.string w A p.tags.length p.tags) (hL : InL l) (htl : p.tags.length ≤ 1000) (hts : ∀ s ∈ p.tags, (s.size : Int) < 9223372036854775808) :
  Calls Tryz.prog 11 #[aggP p A p.tags.length c, .slice As l.length cs] w fun e w' => ∃ v : Value, e = .returned (.tuple #[v, .int .i64 (appC p l)]) ∧ Below w.heap.size w w' ∧ (appC p l ≠ 0 → v = .slice none 0 0) ∧ (appC p l = 0 → ∃ sls, SortsOf l sls ∧ kN.R 3 w' w.heap.size (fun _ => True) v (forL (appK p l sls) l.length)) := by
 have hu24 := Tryz.underlying24
 have HL := Sd.mk hL
 have HAP := Sd.mk (fun W (hB : Below w.heap.size w W) => apply_calls p A As c cs l W (Kd.C_below hC hB) (hT.below hB) (Kd.C_below hA hB) hL htl hts)
 have HB0 : Sd (Below w.heap.size w (w.alloc (.cells #[.int .i64 p.last, .int .i64 p.hour, .int .i64 p.day, .int .i64 p.week, .int .i64 p.month, .int .i64 p.year, .int .i64 p.within, .slice A p.tags.length c] 24))) := ⟨below_alloc (Below.refl _ _) _⟩
 clear hC hT hA hL htl hts
 obtain ⟨r, hr⟩ : ∃ r, r = appC p l := ⟨_, rfl⟩
 rw [← hr] at HAP ⊢
 clear hr
 go_enter Tryz.func11, Tryz.ntmps11
 go_wp2_with (fail)
 refine (HAP.out _ HB0.out).mono ?_
 rintro e w1 ⟨v, rfl, hB, hne, heq⟩
 have HB1 := Sd.mk (below_step HB0.out hB)
 have HNE := Sd.mk hne
 have HEQ := Sd.mk heq
 have HS1 : Sd (w.heap.size ≤ (w.alloc (.cells #[.int .i64 p.last, .int .i64 p.hour, .int .i64 p.day, .int .i64 p.week, .int .i64 p.month, .int .i64 p.year, .int .i64 p.within, .slice A p.tags.length c] 24)).heap.size) := ⟨HB0.out.size⟩
 clear hB HAP HB0 hne heq
 by_cases hr : r = 0
 ·obtain ⟨gw, sls, rfl, hso, hgw, hws, hln⟩ := HEQ.out hr
  have hrb : (r != 0) = false := bne_eq_false_iff_eq.2 hr
  have HR0 := Sd.mk hr
  clear hr
  obtain ⟨ks, hks⟩ : ∃ ks, ks = appK p l sls := ⟨_, rfl⟩
  rw [← hks] at hws hln
  have HW1 := Sd.mk hws
  have HLN := Sd.mk hln
  have HSO := Sd.mk (And.intro hso hks)
  have HGW : Sd (w.heap.size ≤ gw) := ⟨Nat.le_trans HS1.out hgw⟩
  clear hso hgw hws hln hks HEQ HNE HS1
  have hll : l.length ≤ 1000 := HL.out.1
  go_wp2_with (fail)
  go_loopw [8, 22] (fun v8 v22 wi => ∃ i : Nat, i ≤ l.length ∧ v22 = .int .i64 i ∧ Sd (kN.R 3 wi w.heap.size (fun k => k ≠ gw) v8 (forL ks i)) ∧ Sd (WSt wi gw ks) ∧ Sd (Below w.heap.size w wi)) (fun _ v22 _ => l.length - (intOf v22).toNat)
  case atStart => exact ⟨0, Nat.zero_le _, rfl, ⟨Kd.R_nil kN 3 _ _ _⟩, HW1, HB1⟩
  case round =>
   clear HW1 HB1
   obtain ⟨i, hi, rfl, HRi, HWi, HBi⟩ := hrel
   by_cases hil : i < l.length
   ·obtain ⟨v, hv, hiff⟩ := HWi.out.cell2 (i := i) (by rw [HLN.out]; exact hil)
    have HFS := Sd.mk (forL_succ ks i)
    have HGL : Sd (gw < wr.heap.size) := ⟨by obtain ⟨ws, h1, _⟩ := HWi.out; exact blk_lt h1⟩
    by_cases hv0 : v = 0
    ·have hk := hiff.1 hv0
     have HF2 : Sd (forL ks (i + 1) = forL ks i ++ [i]) := ⟨by rw [HFS.out, hk, if_neg (by decide)]⟩
     subst hv0
     clear hk hiff
     go_wp2_with (((with_reducible refine gate_builtin (b := .append) (xs := #[.tmp 29, .tmp 31]) rfl ?_); at_builtin; refine Kd.R_append kN (w0 := w) w.heap.size ?hg (.tmp 29) (.tmp 31) 39 3 (.int .i64 0) 8 ?ho Tryz.underlying39 info3' rfl (by decide) (by omega) u8 (forL ks i) i [.int .i64 (i : Int)] (fun k => k ≠ gw) (fun _ => False) ?hs ?hx ?aP (fun _ hk => hk.elim) ?aF ?aO ?aB ?aS ?aL ?_; (case hg => rfl); (case ho => rfl); (case hs => rfl); (case hx => rfl); (case aP => exact rfl); (case aF => exact fun k hk => by have h := HGL.out; omega); (case aB => exact HBi.out); (case aO => exact HRi.out); (case aS => exact HBi.out.size); (case aL => have h1 := forL_len ks i; omega); intro v5 w5 ho hb hg hat; have HR5 := Sd.mk ho; have HB5 := Sd.mk hb; have HG5 := Sd.mk hg; clear ho hb hg hat))
     go_roundw
     case rel => exact ⟨i + 1, hil, by go_num, ⟨by rw [HF2.out]; exact HR5.out⟩, ⟨HWi.out.kept HG5.out (fun e => HRi.out.1 gw e.symm rfl)⟩, HB5⟩
     case measure => (simp [intOf]; omega)
    ·have hk : ks.getD i false = true := by
      cases h : ks.getD i false with
      | true => rfl
      | false => exact absurd (hiff.2 h) hv0
     have HF2 : Sd (forL ks (i + 1) = forL ks i) := ⟨by rw [HFS.out, hk, if_pos rfl]⟩
     have hvb : (v == 0) = false := beq_eq_false_iff_ne.2 hv0
     clear hk hiff hv0
     go_wp2_with (fail)
     go_roundw
     case rel => exact ⟨i + 1, hil, by go_num, ⟨by rw [HF2.out]; exact HRi.out⟩, HWi, HBi⟩
     case measure => (simp [intOf]; omega)
   ·obtain rfl : i = l.length := by omega
    clear hil hi
    go_wp2_with (fail)
    go_ret2
    exact ⟨_, by rw [HR0.out]; rfl, HBi.out, fun h => absurd HR0.out h, fun _ => ⟨sls, HSO.out.1, by rw [← HSO.out.2]; exact Kd.R_mono HRi.out (fun _ _ => trivial)⟩⟩
 ·have hrb : (r != 0) = true := bne_iff_ne.2 hr
  have HV := Sd.mk (HNE.out hr)
  have HRN := Sd.mk hr
  clear hr
  go_wp2_with (fail)
  go_ret2
  exact ⟨_, rfl, HB1.out, fun _ => rfl, fun h => absurd h HRN.out⟩
theorem at_N {w : World} {A : Option Addr} {n : Nat} {xs : List Nat} (h : Kd.C kN w A n xs) (i : Nat) (hi : i < n) (x : Nat) (hx : xs[i]? = some x) : ∃ ad, A = some ad ∧ w.cell? (ad.add i) = some (.int .i64 (x : Int)) := by
 obtain ⟨ad, c, e, _, hK, hc0⟩ := Kd.C_get h x (i : Int) (by omega) (by omega)
 have hc : ∀ j u, c[j]? = some u → w.cell? (ad.add ((i : Int).toNat * 1 + j)) = some u := hc0
 have hx2 : xs.getD (i : Int).toNat x = x := by rw [Int.toNat_natCast, List.getD_eq_getElem?_getD, hx]; rfl
 rw [hx2] at hK
 have hcc : c = [.int .i64 (x : Int)] := hK
 subst hcc
 have h3 := hc 0 _ rfl
 rw [Int.toNat_natCast, Nat.mul_one, Nat.add_zero] at h3
 exact ⟨ad, e, h3⟩
def planC (p : Pol) (ids : List ByteArray) (l : List S28) : Int := if ids.length = l.length then appC p l else 1
def idAt (ids : List ByteArray) (i : Nat) : ByteArray := rdOf ByteArray.empty ids (i : Int)
def PlanL (p : Pol) (ids : List ByteArray) (l : List S28) (out : List ByteArray) : Prop := (planC p ids l ≠ 0 → out = []) ∧ (planC p ids l = 0 → ∃ sls, SortsOf l sls ∧ out = risL ((forL (appK p l sls) l.length).map (idAt ids)))
theorem plan_calls (p : Pol) (A As Ai : Option Addr) (c cs ci : Nat) (l : List S28) (ids : List ByteArray) (w : World) (hC : Kd.C k28 w As l.length l) (hT : MonthT w) (hA : Kd.C Kd.string w A p.tags.length p.tags) (hI : Kd.C Kd.string w Ai ids.length ids) (hL : InL l) (htl : p.tags.length ≤ 1000) (hts : ∀ s ∈ p.tags, (s.size : Int) < 9223372036854775808) :
  Calls Tryz.prog 6 #[aggP p A p.tags.length c, .slice Ai ids.length ci, .slice As l.length cs] w fun e w' => ∃ (v : Value) (out : List ByteArray), e = .returned (.tuple #[v, .int .i64 (planC p ids l)]) ∧ Kd.R Kd.string 9 w' w.heap.size (fun _ => True) v out ∧ Below w.heap.size w w' ∧ PlanL p ids l out := by
 have hu24 := Tryz.underlying24
 have HL := Sd.mk hL
 have HI := Sd.mk hI
 have HFG := Sd.mk (fun W (hB : Below w.heap.size w W) => forget_calls p A As c cs l W (Kd.C_below hC hB) (hT.below hB) (Kd.C_below hA hB) hL htl hts)
 have HB0 : Sd (Below w.heap.size w (w.alloc (.cells #[.int .i64 p.last, .int .i64 p.hour, .int .i64 p.day, .int .i64 p.week, .int .i64 p.month, .int .i64 p.year, .int .i64 p.within, .slice A p.tags.length c] 24))) := ⟨below_alloc (Below.refl _ _) _⟩
 clear hC hT hA hL htl hts hI
 by_cases hlen : ids.length = l.length
 ·have HPC : Sd (planC p ids l = appC p l) := ⟨by unfold planC; rw [if_pos hlen]⟩
  have HLE := Sd.mk hlen
  have hl1 : ((ids.length : Int) != (l.length : Int)) = false := bne_eq_false_iff_eq.2 (by omega)
  have hl2 : (ids.length != l.length) = false := bne_eq_false_iff_eq.2 hlen
  have hll : l.length ≤ 1000 := HL.out.1
  clear hlen
  obtain ⟨r, hr⟩ : ∃ r, r = appC p l := ⟨_, rfl⟩
  rw [← hr] at HFG HPC
  clear hr
  go_enter Tryz.func6, Tryz.ntmps6
  go_wp2_with (fail)
  refine (HFG.out _ HB0.out).mono ?_
  rintro e w2 ⟨v, rfl, hB, hne, heq⟩
  have HB2 := Sd.mk (below_step HB0.out hB)
  have HNE := Sd.mk hne
  have HEQ := Sd.mk heq
  clear hB HFG HB0 hne heq
  by_cases hr : r = 0
  ·obtain ⟨sls, hso, hR⟩ := HEQ.out hr
   have hrb : (r != 0) = false := bne_eq_false_iff_eq.2 hr
   have HR0 := Sd.mk hr
   obtain ⟨fl, hfl⟩ : ∃ fl, fl = forL (appK p l sls) l.length := ⟨_, rfl⟩
   rw [← hfl] at hR
   have HFB : Sd (fl.length ≤ 1000 ∧ ∀ i ∈ fl, i < l.length) := ⟨by
    rw [hfl]
    exact ⟨Nat.le_trans (forL_len _ _) hll, fun i hi => by unfold forL at hi; exact List.mem_range.1 (List.mem_filter.1 hi).1⟩⟩
   have HSO := Sd.mk (And.intro hso hfl)
   obtain ⟨Ap, cp, rfl, hcp, hCp⟩ := Kd.R_reads hR
   have HCP := Sd.mk hCp
   clear hr hso hR hfl hcp hCp HEQ HNE
   go_wp2_with (fail)
   go_loopw [10, 29] (fun v10 v29 wj => ∃ j : Nat, j ≤ fl.length ∧ v29 = .int .i64 j ∧ Sd (Kd.R Kd.string 9 wj w2.heap.size (fun _ => True) v10 ((fl.take j).map (idAt ids))) ∧ Sd (Below w2.heap.size w2 wj)) (fun _ v29 _ => fl.length - (intOf v29).toNat)
   case atStart => exact ⟨0, Nat.zero_le _, rfl, ⟨Kd.R_nil Kd.string 9 _ _ _⟩, ⟨Below.refl _ _⟩⟩
   case round =>
    obtain ⟨j, hj, rfl, HRj, HBj⟩ := hrel
    by_cases hjl : j < fl.length
    ·obtain ⟨i, hi⟩ : ∃ i, fl[j]? = some i := ⟨_, List.getElem?_eq_getElem hjl⟩
     have hil := HFB.out.2 i (List.mem_of_getElem? hi)
     obtain ⟨ad, e0, hcell⟩ := at_N (Kd.C_below HCP.out HBj.out) j hjl i hi
     have hii : i < ids.length := by have := HLE.out; omega
     obtain ⟨ad2, e1, hcell2⟩ := Kd.at_string (Kd.C_below HI.out (below_step HB2.out HBj.out)) (i : Int) (by omega) (by omega)
     rw [Int.toNat_natCast] at hcell2
     have hcell3 : wr.cell? (ad2.add i) = some (.string (idAt ids i)) := hcell2
     have HTK : Sd ((fl.take (j + 1)).map (idAt ids) = (fl.take j).map (idAt ids) ++ [idAt ids i]) := ⟨by rw [List.take_add_one, hi]; simp⟩
     have hjb : j ≤ 1000 := by have := HFB.out.1; omega
     have p0 := eq_true (show (0 : Int) ≤ (i : Int) by omega)
     have p1 := eq_true (show (i : Int) < (ids.length : Int) by omega)
     cases e0
     cases e1
     clear hcell2 hi hil hj
     go_wp2_with (((with_reducible refine gate_builtin (b := .append) (xs := #[.tmp 33, .tmp 38]) rfl ?_); at_builtin; refine Kd.R_append Kd.string (w0 := w2) w2.heap.size ?hg (.tmp 33) (.tmp 38) 22 9 (.string ⟨#[]⟩) 16 ?ho Tryz.underlying22 info9 rfl (by decide) (by omega) u10 ((fl.take j).map (idAt ids)) (idAt ids i) [.string (idAt ids i)] (fun _ => True) (fun _ => False) ?hs ?hx ?aP (fun _ hk => hk.elim) (fun _ _ => trivial) ?aO ?aB ?aS ?aL ?_; (case hg => rfl); (case ho => rfl); (case hs => rfl); (case hx => rfl); (case aP => exact rfl); (case aB => exact HBj.out); (case aO => exact HRj.out); (case aS => exact HBj.out.size); (case aL => rw [List.length_map]; have h1 := List.length_take_le j fl; omega); intro v5 w5 ho hb hg hat; have HR5 := Sd.mk ho; have HB5 := Sd.mk hb; clear ho hb hg hat))
     go_roundw
     case rel => exact ⟨j + 1, hjl, by go_num, ⟨by rw [HTK.out]; exact HR5.out⟩, HB5⟩
     case measure => (simp [intOf]; omega)
    ·obtain rfl : j = fl.length := by omega
     have HRf : Sd (Kd.R Kd.string 9 wr w2.heap.size (fun _ => True) u10 (fl.map (idAt ids))) := ⟨by have h := HRj.out; rwa [List.take_length] at h⟩
     clear hjl hj HRj
     go_wp2_with (fail)
     refine (rising_calls u10 _ _ _ wr HRf.out (by rw [List.length_map]; have := HFB.out.1; omega)).mono ?_
     rintro e w5 ⟨v', rfl, hR, hB⟩
     have HR5 := Sd.mk (Kd.R_lower hR (Nat.le_trans HB2.out.size HBj.out.size))
     have HB5 := Sd.mk (below_step (below_step HB2.out HBj.out) hB)
     clear hR hB
     go_wp2_with (fail)
     go_ret2
     exact ⟨_, _, by rw [HPC.out, HR0.out]; rfl, HR5.out, HB5.out, fun h => absurd (HPC.out.trans HR0.out) h, fun _ => ⟨sls, HSO.out.1, by rw [← HSO.out.2]⟩⟩
  ·have hrb : (r != 0) = true := bne_iff_ne.2 hr
   have HRN := Sd.mk hr
   clear hr HNE HEQ
   go_wp2_with (fail)
   go_ret2
   exact ⟨_, [], by rw [HPC.out]; rfl, Kd.R_nil Kd.string 9 _ _ _, HB2.out, fun _ => rfl, fun h => absurd (HPC.out.symm.trans h) HRN.out⟩
 ·have HPC : Sd (planC p ids l = 1) := ⟨by unfold planC; rw [if_neg hlen]⟩
  have hl1 : ((ids.length : Int) != (l.length : Int)) = true := bne_iff_ne.2 (by omega)
  have hl2 : (ids.length != l.length) = true := bne_iff_ne.2 hlen
  clear hlen HFG
  go_enter Tryz.func6, Tryz.ntmps6
  go_wp2_with (fail)
  go_ret2
  exact ⟨_, [], by rw [HPC.out]; rfl, Kd.R_nil Kd.string 9 _ _ _, HB0.out, fun _ => rfl, fun h => by rw [HPC.out] at h; cases h⟩
end Go.Proofs.YtpdkgpmcmebefaaGreatDoor.Q
