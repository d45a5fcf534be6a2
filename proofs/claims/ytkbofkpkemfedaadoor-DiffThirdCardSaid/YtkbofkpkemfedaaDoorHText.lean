/- diff.Text walked: the lines of any changes, by the table of letters. -/
import Derived.Test.YtkbofkpkemfedaaDoorHTrees
import Derived.Deep.RegionHeld3


namespace Go.Proofs.YtkbofkpkemfedaaDoor.Q
open Go.RowKit Go.Proofs.YtkbofkpkemfedaaDoorW.PrintWords Go.Proofs.YtkbofkpkemfedaaDoorW.PrintLast Go.Proofs.YtkbofkpkemfedaaDoorW.PrintMore
attribute [local go_sem] max2_int min2_int max_two min_two max_three min_three max_four min_four
/-- A kind's letter. -/
def letter (n : Int) : ByteArray := if n = 1 then ⟨#[43]⟩ else if n = 2 then ⟨#[45]⟩ else if n = 3 then ⟨#[77]⟩ else if n = 4 then ⟨#[84]⟩ else if n = 5 then ⟨#[85]⟩ else ⟨#[63]⟩
/-- A change's line. -/
def lineOf (x : S32) : ByteArray := letter x.f1 ++ ⟨#[32]⟩ ++ x.f0
/-- What the package-level table of letters holds. -/
def Letters (w : World) : Prop := w.cell? ⟨0, 0, none⟩ = some (.string ⟨#[63]⟩) ∧ w.cell? ⟨0, 1, none⟩ = some (.string ⟨#[43]⟩) ∧ w.cell? ⟨0, 2, none⟩ = some (.string ⟨#[45]⟩) ∧ w.cell? ⟨0, 3, none⟩ = some (.string ⟨#[77]⟩) ∧ w.cell? ⟨0, 4, none⟩ = some (.string ⟨#[84]⟩) ∧ w.cell? ⟨0, 5, none⟩ = some (.string ⟨#[85]⟩)
theorem Letters.below {w w' : World} (h : Letters w) (hb : Below w.heap.size w w') : Letters w' := by
  obtain ⟨h0, h1, h2, h3, h4, h5⟩ := h
  have f : ∀ {a : Addr} {v : Value}, w.cell? a = some v → w'.cell? a = some v := fun {a v} h => (hb.cell (World.block_lt_of_cell? w _ h)).trans h
  exact ⟨f h0, f h1, f h2, f h3, f h4, f h5⟩
theorem alloc_drew (w : World) (o : Obj) : (w.alloc o).drew = w.drew.alloc o := rfl
theorem take_next {α β : Type} (l : List α) (z : α) (f : α → β) (x : Int) (h0 : 0 ≤ x) (h1 : x < l.length) : (l.take (x + 1).toNat).map f = (l.take x.toNat).map f ++ [f (l.getD x.toNat z)] := by
  rw [show (x + 1).toNat = x.toNat + 1 from by omega, List.take_add_one, List.map_append]
  congr 1
  have hl : x.toNat < l.length := by omega
  simp [List.getD_eq_getElem?_getD, List.getElem?_eq_getElem hl]
set_option maxHeartbeats 2000000 in
set_option maxRecDepth 100000 in
theorem diff_Text_calls (A0 : Option Addr) (c0 : Nat) (l : List S32) (w : World) (hr0 : Kd.C k32 w A0 l.length l) (hc0 : l.length ≤ c0) (hL : Letters w) (hlen : l.length ≤ 100000) (hsz : ∀ x ∈ l, x.f0.size ≤ 140737488355328) :
    Calls Tryd.prog 12 #[.slice A0 l.length c0] w fun e w' => ∃ v0_ : Value, e = .returned v0_ ∧ Kd.R Kd.string 9 w' w.heap.size (fun _ => True) v0_ (l.map lineOf) ∧ Below w.heap.size w w' := by
  have HR0 := Aside0.mk hr0
  have HC0 := Aside0.mk hc0
  have HL := Aside0.mk hL
  have HLen := Aside0.mk hlen
  have HSZ := Aside0.mk hsz
  clear hr0 hc0 hL hlen hsz
  have hu32 := Tryd.underlying32
  have HB := Aside0.mk (Below.refl w.heap.size w)
  go_enter Tryd.func12, Tryd.ntmps12
  go_wp2
  go_loopw [3, 9] (fun v3 v9 w' => ∃ x : Int, v9 = .int .i64 x ∧ Aside0 (0 ≤ x ∧ x ≤ l.length) ∧ Aside0 (Kd.R Kd.string 9 w' w.heap.size (fun _ => True) v3 ((l.take x.toNat).map lineOf)) ∧ Aside0 (Below w.heap.size w w')) (fun _ v9 _ => l.length + 1 - (intOf v9).toNat)
  case atStart => exact ⟨0, rfl, ⟨by omega⟩, ⟨by simpa using Kd.R_nil Kd.string 9 w w.heap.size (fun _ => True)⟩, HB⟩
  case round =>
    obtain ⟨x, rfl, HX, HO, HBW⟩ := hrel
    clear HB
    have hx0 := HX.out.1
    by_cases c2 : x < (l.length : Int)
    · have c2b0 : decide (x < (l.length : Int)) = true := decide_eq_true c2
      obtain ⟨ad, e1, hx1, hx2⟩ := at_T32 HR0.out x hx0 c2
      cases e1
      replace hx1 := (HBW.out.cell (World.block_lt_of_cell? w _ hx1)).trans hx1
      replace hx2 := (HBW.out.cell (World.block_lt_of_cell? w _ hx2)).trans hx2
      have HT := Aside0.mk (take_next l z32 lineOf x hx0 c2)
      have hmem : (rd_T32 l x) ∈ l := by
        unfold rd_T32
        rw [List.getD_eq_getElem?_getD, List.getElem?_eq_getElem (show x.toNat < l.length by omega)]
        exact List.getElem_mem _
      have hz := HSZ.out _ hmem
      have hzb := HLen.out
      have HLX : Aside0 (((l.take x.toNat).map lineOf).length ≤ 100000) := ⟨by simp only [List.length_map, List.length_take]; omega⟩
      clear hmem
      change Aside0 (List.map lineOf (List.take (x + 1).toNat l) = List.map lineOf (List.take x.toNat l) ++ [lineOf (rd_T32 l x)]) at HT
      generalize hD : rd_T32 l x = D at hx1 hx2 HT hz
      obtain ⟨p, K⟩ := D
      clear hD
      simp only at hx1 hx2 hz
      have hz1 : (9223372036854775807 < 1 + 1 + p.size) = False := eq_false (by omega)
      have hz2 : (9223372036854775807 < 2 + p.size) = False := eq_false (by omega)
      have hp1 := eq_true hx0
      have hp2 := eq_true c2
      have hK : K < 1 ∨ 5 < K ∨ K = 1 ∨ K = 2 ∨ K = 3 ∨ K = 4 ∨ K = 5 := by omega
      rcases hK with hK | hK | rfl | rfl | rfl | rfl | rfl
      · have k1 : decide (K < 1) = true := decide_eq_true hK
        have HLT : Aside0 (lineOf ⟨p, K⟩ = (⟨#[63]⟩ : ByteArray) ++ ⟨#[32]⟩ ++ p) := ⟨by simp only [lineOf, letter]; rw [if_neg (by omega), if_neg (by omega), if_neg (by omega), if_neg (by omega), if_neg (by omega)]⟩
        go_upto_region 8 with (first | ((with_reducible refine gate_dst (N := 5) rfl ?_); refine box_event ?hg (N := 5) ?hd (cs := #[.string (⟨#[]⟩ : ByteArray), .int .i64 0]) (t := 32) ?hr ?_; (case hd => rfl); (case hg => rfl); (case hr => first | (go_simp; done) | (go_simp; rfl)); intro gb hg w7 hbox hb; have hbs := HBW.out.size; have HO7 := Aside0.mk (Kd.R_below (Kd.R_elderB HO.out gb (Nat.le_of_eq hg.symm)) hb); have HB7 := Aside0.mk (below_step HBW.out hb); have BK7 := Aside0.mk hbox; have GE7 : Aside0 (w.heap.size ≤ gb) := ⟨by omega⟩; clear hb hbox hg hbs; have hcz8_0 : w7.cell? ⟨gb, 0, none⟩ = some (.string (⟨#[]⟩ : ByteArray)) := (blk_cell BK7.out 0).trans rfl; have hcz8_1 : w7.cell? ⟨gb, 1, none⟩ = some (.int .i64 0) := (blk_cell BK7.out 1).trans rfl; have hfz8_0 := blk_frozen BK7.out 0; have hfz8_1 := blk_frozen BK7.out 1))
        obtain ⟨w8, hw8⟩ : ∃ w8, w8 = (w7.setCell ⟨gb, 0, none⟩ (.string p)).setCell ⟨gb, 1, none⟩ (.int .i64 K) := ⟨_, rfl⟩
        have BK8 : Aside0 (w8.heap[gb]? = some (.cells #[.string p, .int .i64 K] 32 (0, 0))) := ⟨by rw [hw8]; refine blk_put (cs := #[.string p, .int .i64 0]) ?_ 1 _ rfl; refine blk_put (cs := #[.string (⟨#[]⟩ : ByteArray), .int .i64 0]) ?_ 0 _ rfl; exact BK7.out⟩
        have HO8 : Aside0 (Kd.R Kd.string 9 w8 w.heap.size (fun k_ => k_ ≠ gb) u3 ((l.take x.toNat).map lineOf)) := ⟨by rw [hw8]; exact Kd.R_far (p := ⟨gb, 1, none⟩) (Kd.R_far (p := ⟨gb, 0, none⟩) (Kd.R_mono HO7.out (fun k_ hk => (hk.2 : k_ ≠ gb))) (fun _ hk => hk) (.string p)) (fun _ hk => hk) (.int .i64 K)⟩
        have HB8 : Aside0 (Below w.heap.size w w8) := ⟨by rw [hw8]; refine below_set ?_ GE7.out; refine below_set ?_ GE7.out; exact HB7.out⟩
        have hcc : w8.cell? ⟨gb, 0, none⟩ = some (.string p) := (blk_cell BK8.out 0).trans rfl
        obtain ⟨hl0, hl1, hl2, hl3, hl4, hl5⟩ := HL.out.below HB8.out
        rw [← hw8]
        clear hw8 HO7 HB7 BK7 HO HBW hcz8_0 hcz8_1 hfz8_0 hfz8_1 hx1 hx2
        go_region_held3 (fun w' => w'.cell? ⟨0, 0, none⟩ = some (.string ⟨#[63]⟩) ∧ w'.cell? ⟨gb, 0, none⟩ = some (.string p)) (first | (exact ⟨hl0, hcc⟩) | assumption | go_keep)
          (first | ((rw [alloc_drew]); refine Kd.R_append_step Kd.string (w0 := w) (W := w8.drew) w.heap.size ?hw (.tmp 21) (.tmp 29) 40 9 (.string ⟨#[]⟩) 16 ?ho Tryd.underlying40 info9 rfl (by decide) (by omega) u3 ((l.take x.toNat).map lineOf) ((⟨#[63]⟩ : ByteArray) ++ ⟨#[32]⟩ ++ p) [.string ((⟨#[63]⟩ : ByteArray) ++ ⟨#[32]⟩ ++ p)] (fun k_ => k_ ≠ gb) (fun _ => False) ?hs ?hx ?aP (fun _ hk => hk.elim) ?aF ?aO ?aB ?aS ?aL ?_; (case hw => kernel_rfl); (case ho => rfl); (case hs => rfl); (case hx => rfl); (case aP => exact rfl); (case aF => exact fun k_ hk => Kd.freshB (g := gb) (blk_drewN BK8.out _) k_ hk); (case aB => exact pw_below_drewN HB8.out _); (case aO => exact Kd.R_drewN HO8.out _); (case aS => exact HB8.out.size); (case aL => have := HLX.out; omega); intro v9 w9 ho hb hg hat; have HO9 := Aside0.mk ho; have HB9 := Aside0.mk hb; have BK9 := Aside0.mk (blk_grown (g := gb) (blk_drewN BK8.out _) hg (Kd.R_away HO8.out (fun _ hk => hk))); have hl9 := (HL.out.below hb).1; have hc9 : w9.cell? ⟨gb, 0, none⟩ = some (.string p) := (blk_cell BK9.out 0).trans rfl; clear ho hb hg hat))
        go_wp2
        go_roundw
        case rel => exact ⟨x + 1, by first | rfl | (go_num; done), ⟨by omega⟩, ⟨by rw [HT.out, HLT.out]; exact Kd.R_mono HO9.out (fun _ _ => trivial)⟩, HB9⟩
        case measure => (simp [intOf]; omega)
      · have k1 : decide (K < 1) = false := decide_eq_false (by omega)
        have k2 : decide (K > 5) = true := decide_eq_true hK
        have k3 : decide (5 < K) = true := decide_eq_true hK
        have HLT : Aside0 (lineOf ⟨p, K⟩ = (⟨#[63]⟩ : ByteArray) ++ ⟨#[32]⟩ ++ p) := ⟨by simp only [lineOf, letter]; rw [if_neg (by omega), if_neg (by omega), if_neg (by omega), if_neg (by omega), if_neg (by omega)]⟩
        go_upto_region 8 with (first | ((with_reducible refine gate_dst (N := 5) rfl ?_); refine box_event ?hg (N := 5) ?hd (cs := #[.string (⟨#[]⟩ : ByteArray), .int .i64 0]) (t := 32) ?hr ?_; (case hd => rfl); (case hg => rfl); (case hr => first | (go_simp; done) | (go_simp; rfl)); intro gb hg w7 hbox hb; have hbs := HBW.out.size; have HO7 := Aside0.mk (Kd.R_below (Kd.R_elderB HO.out gb (Nat.le_of_eq hg.symm)) hb); have HB7 := Aside0.mk (below_step HBW.out hb); have BK7 := Aside0.mk hbox; have GE7 : Aside0 (w.heap.size ≤ gb) := ⟨by omega⟩; clear hb hbox hg hbs; have hcz8_0 : w7.cell? ⟨gb, 0, none⟩ = some (.string (⟨#[]⟩ : ByteArray)) := (blk_cell BK7.out 0).trans rfl; have hcz8_1 : w7.cell? ⟨gb, 1, none⟩ = some (.int .i64 0) := (blk_cell BK7.out 1).trans rfl; have hfz8_0 := blk_frozen BK7.out 0; have hfz8_1 := blk_frozen BK7.out 1))
        obtain ⟨w8, hw8⟩ : ∃ w8, w8 = (w7.setCell ⟨gb, 0, none⟩ (.string p)).setCell ⟨gb, 1, none⟩ (.int .i64 K) := ⟨_, rfl⟩
        have BK8 : Aside0 (w8.heap[gb]? = some (.cells #[.string p, .int .i64 K] 32 (0, 0))) := ⟨by rw [hw8]; refine blk_put (cs := #[.string p, .int .i64 0]) ?_ 1 _ rfl; refine blk_put (cs := #[.string (⟨#[]⟩ : ByteArray), .int .i64 0]) ?_ 0 _ rfl; exact BK7.out⟩
        have HO8 : Aside0 (Kd.R Kd.string 9 w8 w.heap.size (fun k_ => k_ ≠ gb) u3 ((l.take x.toNat).map lineOf)) := ⟨by rw [hw8]; exact Kd.R_far (p := ⟨gb, 1, none⟩) (Kd.R_far (p := ⟨gb, 0, none⟩) (Kd.R_mono HO7.out (fun k_ hk => (hk.2 : k_ ≠ gb))) (fun _ hk => hk) (.string p)) (fun _ hk => hk) (.int .i64 K)⟩
        have HB8 : Aside0 (Below w.heap.size w w8) := ⟨by rw [hw8]; refine below_set ?_ GE7.out; refine below_set ?_ GE7.out; exact HB7.out⟩
        have hcc : w8.cell? ⟨gb, 0, none⟩ = some (.string p) := (blk_cell BK8.out 0).trans rfl
        obtain ⟨hl0, hl1, hl2, hl3, hl4, hl5⟩ := HL.out.below HB8.out
        rw [← hw8]
        clear hw8 HO7 HB7 BK7 HO HBW hcz8_0 hcz8_1 hfz8_0 hfz8_1 hx1 hx2
        go_region_held3 (fun w' => w'.cell? ⟨0, 0, none⟩ = some (.string ⟨#[63]⟩) ∧ w'.cell? ⟨gb, 0, none⟩ = some (.string p)) (first | (exact ⟨hl0, hcc⟩) | assumption | go_keep)
          (first | ((rw [alloc_drew]); refine Kd.R_append_step Kd.string (w0 := w) (W := w8.drew) w.heap.size ?hw (.tmp 21) (.tmp 29) 40 9 (.string ⟨#[]⟩) 16 ?ho Tryd.underlying40 info9 rfl (by decide) (by omega) u3 ((l.take x.toNat).map lineOf) ((⟨#[63]⟩ : ByteArray) ++ ⟨#[32]⟩ ++ p) [.string ((⟨#[63]⟩ : ByteArray) ++ ⟨#[32]⟩ ++ p)] (fun k_ => k_ ≠ gb) (fun _ => False) ?hs ?hx ?aP (fun _ hk => hk.elim) ?aF ?aO ?aB ?aS ?aL ?_; (case hw => kernel_rfl); (case ho => rfl); (case hs => rfl); (case hx => rfl); (case aP => exact rfl); (case aF => exact fun k_ hk => Kd.freshB (g := gb) (blk_drewN BK8.out _) k_ hk); (case aB => exact pw_below_drewN HB8.out _); (case aO => exact Kd.R_drewN HO8.out _); (case aS => exact HB8.out.size); (case aL => have := HLX.out; omega); intro v9 w9 ho hb hg hat; have HO9 := Aside0.mk ho; have HB9 := Aside0.mk hb; have BK9 := Aside0.mk (blk_grown (g := gb) (blk_drewN BK8.out _) hg (Kd.R_away HO8.out (fun _ hk => hk))); have hl9 := (HL.out.below hb).1; have hc9 : w9.cell? ⟨gb, 0, none⟩ = some (.string p) := (blk_cell BK9.out 0).trans rfl; clear ho hb hg hat))
        go_wp2
        go_roundw
        case rel => exact ⟨x + 1, by first | rfl | (go_num; done), ⟨by omega⟩, ⟨by rw [HT.out, HLT.out]; exact Kd.R_mono HO9.out (fun _ _ => trivial)⟩, HB9⟩
        case measure => (simp [intOf]; omega)
      · skip
        have HLT : Aside0 (lineOf ⟨p, 1⟩ = (⟨#[43]⟩ : ByteArray) ++ ⟨#[32]⟩ ++ p) := ⟨by simp [lineOf, letter]⟩
        go_upto_region 8 with (first | ((with_reducible refine gate_dst (N := 5) rfl ?_); refine box_event ?hg (N := 5) ?hd (cs := #[.string (⟨#[]⟩ : ByteArray), .int .i64 0]) (t := 32) ?hr ?_; (case hd => rfl); (case hg => rfl); (case hr => first | (go_simp; done) | (go_simp; rfl)); intro gb hg w7 hbox hb; have hbs := HBW.out.size; have HO7 := Aside0.mk (Kd.R_below (Kd.R_elderB HO.out gb (Nat.le_of_eq hg.symm)) hb); have HB7 := Aside0.mk (below_step HBW.out hb); have BK7 := Aside0.mk hbox; have GE7 : Aside0 (w.heap.size ≤ gb) := ⟨by omega⟩; clear hb hbox hg hbs; have hcz8_0 : w7.cell? ⟨gb, 0, none⟩ = some (.string (⟨#[]⟩ : ByteArray)) := (blk_cell BK7.out 0).trans rfl; have hcz8_1 : w7.cell? ⟨gb, 1, none⟩ = some (.int .i64 0) := (blk_cell BK7.out 1).trans rfl; have hfz8_0 := blk_frozen BK7.out 0; have hfz8_1 := blk_frozen BK7.out 1))
        obtain ⟨w8, hw8⟩ : ∃ w8, w8 = (w7.setCell ⟨gb, 0, none⟩ (.string p)).setCell ⟨gb, 1, none⟩ (.int .i64 1) := ⟨_, rfl⟩
        have BK8 : Aside0 (w8.heap[gb]? = some (.cells #[.string p, .int .i64 1] 32 (0, 0))) := ⟨by rw [hw8]; refine blk_put (cs := #[.string p, .int .i64 0]) ?_ 1 _ rfl; refine blk_put (cs := #[.string (⟨#[]⟩ : ByteArray), .int .i64 0]) ?_ 0 _ rfl; exact BK7.out⟩
        have HO8 : Aside0 (Kd.R Kd.string 9 w8 w.heap.size (fun k_ => k_ ≠ gb) u3 ((l.take x.toNat).map lineOf)) := ⟨by rw [hw8]; exact Kd.R_far (p := ⟨gb, 1, none⟩) (Kd.R_far (p := ⟨gb, 0, none⟩) (Kd.R_mono HO7.out (fun k_ hk => (hk.2 : k_ ≠ gb))) (fun _ hk => hk) (.string p)) (fun _ hk => hk) (.int .i64 1)⟩
        have HB8 : Aside0 (Below w.heap.size w w8) := ⟨by rw [hw8]; refine below_set ?_ GE7.out; refine below_set ?_ GE7.out; exact HB7.out⟩
        have hcc : w8.cell? ⟨gb, 0, none⟩ = some (.string p) := (blk_cell BK8.out 0).trans rfl
        obtain ⟨hl0, hl1, hl2, hl3, hl4, hl5⟩ := HL.out.below HB8.out
        rw [← hw8]
        clear hw8 HO7 HB7 BK7 HO HBW hcz8_0 hcz8_1 hfz8_0 hfz8_1 hx1 hx2
        go_region_held3 (fun w' => w'.cell? ⟨0, 1, none⟩ = some (.string ⟨#[43]⟩) ∧ w'.cell? ⟨gb, 0, none⟩ = some (.string p)) (first | (exact ⟨hl1, hcc⟩) | assumption | go_keep)
          (first | ((rw [alloc_drew]); refine Kd.R_append_step Kd.string (w0 := w) (W := w8.drew) w.heap.size ?hw (.tmp 21) (.tmp 29) 40 9 (.string ⟨#[]⟩) 16 ?ho Tryd.underlying40 info9 rfl (by decide) (by omega) u3 ((l.take x.toNat).map lineOf) ((⟨#[43]⟩ : ByteArray) ++ ⟨#[32]⟩ ++ p) [.string ((⟨#[43]⟩ : ByteArray) ++ ⟨#[32]⟩ ++ p)] (fun k_ => k_ ≠ gb) (fun _ => False) ?hs ?hx ?aP (fun _ hk => hk.elim) ?aF ?aO ?aB ?aS ?aL ?_; (case hw => kernel_rfl); (case ho => rfl); (case hs => rfl); (case hx => rfl); (case aP => exact rfl); (case aF => exact fun k_ hk => Kd.freshB (g := gb) (blk_drewN BK8.out _) k_ hk); (case aB => exact pw_below_drewN HB8.out _); (case aO => exact Kd.R_drewN HO8.out _); (case aS => exact HB8.out.size); (case aL => have := HLX.out; omega); intro v9 w9 ho hb hg hat; have HO9 := Aside0.mk ho; have HB9 := Aside0.mk hb; have BK9 := Aside0.mk (blk_grown (g := gb) (blk_drewN BK8.out _) hg (Kd.R_away HO8.out (fun _ hk => hk))); have hl9 := (HL.out.below hb).2.1; have hc9 : w9.cell? ⟨gb, 0, none⟩ = some (.string p) := (blk_cell BK9.out 0).trans rfl; clear ho hb hg hat))
        go_wp2
        go_roundw
        case rel => exact ⟨x + 1, by first | rfl | (go_num; done), ⟨by omega⟩, ⟨by rw [HT.out, HLT.out]; exact Kd.R_mono HO9.out (fun _ _ => trivial)⟩, HB9⟩
        case measure => (simp [intOf]; omega)
      · skip
        have HLT : Aside0 (lineOf ⟨p, 2⟩ = (⟨#[45]⟩ : ByteArray) ++ ⟨#[32]⟩ ++ p) := ⟨by simp [lineOf, letter]⟩
        go_upto_region 8 with (first | ((with_reducible refine gate_dst (N := 5) rfl ?_); refine box_event ?hg (N := 5) ?hd (cs := #[.string (⟨#[]⟩ : ByteArray), .int .i64 0]) (t := 32) ?hr ?_; (case hd => rfl); (case hg => rfl); (case hr => first | (go_simp; done) | (go_simp; rfl)); intro gb hg w7 hbox hb; have hbs := HBW.out.size; have HO7 := Aside0.mk (Kd.R_below (Kd.R_elderB HO.out gb (Nat.le_of_eq hg.symm)) hb); have HB7 := Aside0.mk (below_step HBW.out hb); have BK7 := Aside0.mk hbox; have GE7 : Aside0 (w.heap.size ≤ gb) := ⟨by omega⟩; clear hb hbox hg hbs; have hcz8_0 : w7.cell? ⟨gb, 0, none⟩ = some (.string (⟨#[]⟩ : ByteArray)) := (blk_cell BK7.out 0).trans rfl; have hcz8_1 : w7.cell? ⟨gb, 1, none⟩ = some (.int .i64 0) := (blk_cell BK7.out 1).trans rfl; have hfz8_0 := blk_frozen BK7.out 0; have hfz8_1 := blk_frozen BK7.out 1))
        obtain ⟨w8, hw8⟩ : ∃ w8, w8 = (w7.setCell ⟨gb, 0, none⟩ (.string p)).setCell ⟨gb, 1, none⟩ (.int .i64 2) := ⟨_, rfl⟩
        have BK8 : Aside0 (w8.heap[gb]? = some (.cells #[.string p, .int .i64 2] 32 (0, 0))) := ⟨by rw [hw8]; refine blk_put (cs := #[.string p, .int .i64 0]) ?_ 1 _ rfl; refine blk_put (cs := #[.string (⟨#[]⟩ : ByteArray), .int .i64 0]) ?_ 0 _ rfl; exact BK7.out⟩
        have HO8 : Aside0 (Kd.R Kd.string 9 w8 w.heap.size (fun k_ => k_ ≠ gb) u3 ((l.take x.toNat).map lineOf)) := ⟨by rw [hw8]; exact Kd.R_far (p := ⟨gb, 1, none⟩) (Kd.R_far (p := ⟨gb, 0, none⟩) (Kd.R_mono HO7.out (fun k_ hk => (hk.2 : k_ ≠ gb))) (fun _ hk => hk) (.string p)) (fun _ hk => hk) (.int .i64 2)⟩
        have HB8 : Aside0 (Below w.heap.size w w8) := ⟨by rw [hw8]; refine below_set ?_ GE7.out; refine below_set ?_ GE7.out; exact HB7.out⟩
        have hcc : w8.cell? ⟨gb, 0, none⟩ = some (.string p) := (blk_cell BK8.out 0).trans rfl
        obtain ⟨hl0, hl1, hl2, hl3, hl4, hl5⟩ := HL.out.below HB8.out
        rw [← hw8]
        clear hw8 HO7 HB7 BK7 HO HBW hcz8_0 hcz8_1 hfz8_0 hfz8_1 hx1 hx2
        go_region_held3 (fun w' => w'.cell? ⟨0, 2, none⟩ = some (.string ⟨#[45]⟩) ∧ w'.cell? ⟨gb, 0, none⟩ = some (.string p)) (first | (exact ⟨hl2, hcc⟩) | assumption | go_keep)
          (first | ((rw [alloc_drew]); refine Kd.R_append_step Kd.string (w0 := w) (W := w8.drew) w.heap.size ?hw (.tmp 21) (.tmp 29) 40 9 (.string ⟨#[]⟩) 16 ?ho Tryd.underlying40 info9 rfl (by decide) (by omega) u3 ((l.take x.toNat).map lineOf) ((⟨#[45]⟩ : ByteArray) ++ ⟨#[32]⟩ ++ p) [.string ((⟨#[45]⟩ : ByteArray) ++ ⟨#[32]⟩ ++ p)] (fun k_ => k_ ≠ gb) (fun _ => False) ?hs ?hx ?aP (fun _ hk => hk.elim) ?aF ?aO ?aB ?aS ?aL ?_; (case hw => kernel_rfl); (case ho => rfl); (case hs => rfl); (case hx => rfl); (case aP => exact rfl); (case aF => exact fun k_ hk => Kd.freshB (g := gb) (blk_drewN BK8.out _) k_ hk); (case aB => exact pw_below_drewN HB8.out _); (case aO => exact Kd.R_drewN HO8.out _); (case aS => exact HB8.out.size); (case aL => have := HLX.out; omega); intro v9 w9 ho hb hg hat; have HO9 := Aside0.mk ho; have HB9 := Aside0.mk hb; have BK9 := Aside0.mk (blk_grown (g := gb) (blk_drewN BK8.out _) hg (Kd.R_away HO8.out (fun _ hk => hk))); have hl9 := (HL.out.below hb).2.2.1; have hc9 : w9.cell? ⟨gb, 0, none⟩ = some (.string p) := (blk_cell BK9.out 0).trans rfl; clear ho hb hg hat))
        go_wp2
        go_roundw
        case rel => exact ⟨x + 1, by first | rfl | (go_num; done), ⟨by omega⟩, ⟨by rw [HT.out, HLT.out]; exact Kd.R_mono HO9.out (fun _ _ => trivial)⟩, HB9⟩
        case measure => (simp [intOf]; omega)
      · skip
        have HLT : Aside0 (lineOf ⟨p, 3⟩ = (⟨#[77]⟩ : ByteArray) ++ ⟨#[32]⟩ ++ p) := ⟨by simp [lineOf, letter]⟩
        go_upto_region 8 with (first | ((with_reducible refine gate_dst (N := 5) rfl ?_); refine box_event ?hg (N := 5) ?hd (cs := #[.string (⟨#[]⟩ : ByteArray), .int .i64 0]) (t := 32) ?hr ?_; (case hd => rfl); (case hg => rfl); (case hr => first | (go_simp; done) | (go_simp; rfl)); intro gb hg w7 hbox hb; have hbs := HBW.out.size; have HO7 := Aside0.mk (Kd.R_below (Kd.R_elderB HO.out gb (Nat.le_of_eq hg.symm)) hb); have HB7 := Aside0.mk (below_step HBW.out hb); have BK7 := Aside0.mk hbox; have GE7 : Aside0 (w.heap.size ≤ gb) := ⟨by omega⟩; clear hb hbox hg hbs; have hcz8_0 : w7.cell? ⟨gb, 0, none⟩ = some (.string (⟨#[]⟩ : ByteArray)) := (blk_cell BK7.out 0).trans rfl; have hcz8_1 : w7.cell? ⟨gb, 1, none⟩ = some (.int .i64 0) := (blk_cell BK7.out 1).trans rfl; have hfz8_0 := blk_frozen BK7.out 0; have hfz8_1 := blk_frozen BK7.out 1))
        obtain ⟨w8, hw8⟩ : ∃ w8, w8 = (w7.setCell ⟨gb, 0, none⟩ (.string p)).setCell ⟨gb, 1, none⟩ (.int .i64 3) := ⟨_, rfl⟩
        have BK8 : Aside0 (w8.heap[gb]? = some (.cells #[.string p, .int .i64 3] 32 (0, 0))) := ⟨by rw [hw8]; refine blk_put (cs := #[.string p, .int .i64 0]) ?_ 1 _ rfl; refine blk_put (cs := #[.string (⟨#[]⟩ : ByteArray), .int .i64 0]) ?_ 0 _ rfl; exact BK7.out⟩
        have HO8 : Aside0 (Kd.R Kd.string 9 w8 w.heap.size (fun k_ => k_ ≠ gb) u3 ((l.take x.toNat).map lineOf)) := ⟨by rw [hw8]; exact Kd.R_far (p := ⟨gb, 1, none⟩) (Kd.R_far (p := ⟨gb, 0, none⟩) (Kd.R_mono HO7.out (fun k_ hk => (hk.2 : k_ ≠ gb))) (fun _ hk => hk) (.string p)) (fun _ hk => hk) (.int .i64 3)⟩
        have HB8 : Aside0 (Below w.heap.size w w8) := ⟨by rw [hw8]; refine below_set ?_ GE7.out; refine below_set ?_ GE7.out; exact HB7.out⟩
        have hcc : w8.cell? ⟨gb, 0, none⟩ = some (.string p) := (blk_cell BK8.out 0).trans rfl
        obtain ⟨hl0, hl1, hl2, hl3, hl4, hl5⟩ := HL.out.below HB8.out
        rw [← hw8]
        clear hw8 HO7 HB7 BK7 HO HBW hcz8_0 hcz8_1 hfz8_0 hfz8_1 hx1 hx2
        go_region_held3 (fun w' => w'.cell? ⟨0, 3, none⟩ = some (.string ⟨#[77]⟩) ∧ w'.cell? ⟨gb, 0, none⟩ = some (.string p)) (first | (exact ⟨hl3, hcc⟩) | assumption | go_keep)
          (first | ((rw [alloc_drew]); refine Kd.R_append_step Kd.string (w0 := w) (W := w8.drew) w.heap.size ?hw (.tmp 21) (.tmp 29) 40 9 (.string ⟨#[]⟩) 16 ?ho Tryd.underlying40 info9 rfl (by decide) (by omega) u3 ((l.take x.toNat).map lineOf) ((⟨#[77]⟩ : ByteArray) ++ ⟨#[32]⟩ ++ p) [.string ((⟨#[77]⟩ : ByteArray) ++ ⟨#[32]⟩ ++ p)] (fun k_ => k_ ≠ gb) (fun _ => False) ?hs ?hx ?aP (fun _ hk => hk.elim) ?aF ?aO ?aB ?aS ?aL ?_; (case hw => kernel_rfl); (case ho => rfl); (case hs => rfl); (case hx => rfl); (case aP => exact rfl); (case aF => exact fun k_ hk => Kd.freshB (g := gb) (blk_drewN BK8.out _) k_ hk); (case aB => exact pw_below_drewN HB8.out _); (case aO => exact Kd.R_drewN HO8.out _); (case aS => exact HB8.out.size); (case aL => have := HLX.out; omega); intro v9 w9 ho hb hg hat; have HO9 := Aside0.mk ho; have HB9 := Aside0.mk hb; have BK9 := Aside0.mk (blk_grown (g := gb) (blk_drewN BK8.out _) hg (Kd.R_away HO8.out (fun _ hk => hk))); have hl9 := (HL.out.below hb).2.2.2.1; have hc9 : w9.cell? ⟨gb, 0, none⟩ = some (.string p) := (blk_cell BK9.out 0).trans rfl; clear ho hb hg hat))
        go_wp2
        go_roundw
        case rel => exact ⟨x + 1, by first | rfl | (go_num; done), ⟨by omega⟩, ⟨by rw [HT.out, HLT.out]; exact Kd.R_mono HO9.out (fun _ _ => trivial)⟩, HB9⟩
        case measure => (simp [intOf]; omega)
      · skip
        have HLT : Aside0 (lineOf ⟨p, 4⟩ = (⟨#[84]⟩ : ByteArray) ++ ⟨#[32]⟩ ++ p) := ⟨by simp [lineOf, letter]⟩
        go_upto_region 8 with (first | ((with_reducible refine gate_dst (N := 5) rfl ?_); refine box_event ?hg (N := 5) ?hd (cs := #[.string (⟨#[]⟩ : ByteArray), .int .i64 0]) (t := 32) ?hr ?_; (case hd => rfl); (case hg => rfl); (case hr => first | (go_simp; done) | (go_simp; rfl)); intro gb hg w7 hbox hb; have hbs := HBW.out.size; have HO7 := Aside0.mk (Kd.R_below (Kd.R_elderB HO.out gb (Nat.le_of_eq hg.symm)) hb); have HB7 := Aside0.mk (below_step HBW.out hb); have BK7 := Aside0.mk hbox; have GE7 : Aside0 (w.heap.size ≤ gb) := ⟨by omega⟩; clear hb hbox hg hbs; have hcz8_0 : w7.cell? ⟨gb, 0, none⟩ = some (.string (⟨#[]⟩ : ByteArray)) := (blk_cell BK7.out 0).trans rfl; have hcz8_1 : w7.cell? ⟨gb, 1, none⟩ = some (.int .i64 0) := (blk_cell BK7.out 1).trans rfl; have hfz8_0 := blk_frozen BK7.out 0; have hfz8_1 := blk_frozen BK7.out 1))
        obtain ⟨w8, hw8⟩ : ∃ w8, w8 = (w7.setCell ⟨gb, 0, none⟩ (.string p)).setCell ⟨gb, 1, none⟩ (.int .i64 4) := ⟨_, rfl⟩
        have BK8 : Aside0 (w8.heap[gb]? = some (.cells #[.string p, .int .i64 4] 32 (0, 0))) := ⟨by rw [hw8]; refine blk_put (cs := #[.string p, .int .i64 0]) ?_ 1 _ rfl; refine blk_put (cs := #[.string (⟨#[]⟩ : ByteArray), .int .i64 0]) ?_ 0 _ rfl; exact BK7.out⟩
        have HO8 : Aside0 (Kd.R Kd.string 9 w8 w.heap.size (fun k_ => k_ ≠ gb) u3 ((l.take x.toNat).map lineOf)) := ⟨by rw [hw8]; exact Kd.R_far (p := ⟨gb, 1, none⟩) (Kd.R_far (p := ⟨gb, 0, none⟩) (Kd.R_mono HO7.out (fun k_ hk => (hk.2 : k_ ≠ gb))) (fun _ hk => hk) (.string p)) (fun _ hk => hk) (.int .i64 4)⟩
        have HB8 : Aside0 (Below w.heap.size w w8) := ⟨by rw [hw8]; refine below_set ?_ GE7.out; refine below_set ?_ GE7.out; exact HB7.out⟩
        have hcc : w8.cell? ⟨gb, 0, none⟩ = some (.string p) := (blk_cell BK8.out 0).trans rfl
        obtain ⟨hl0, hl1, hl2, hl3, hl4, hl5⟩ := HL.out.below HB8.out
        rw [← hw8]
        clear hw8 HO7 HB7 BK7 HO HBW hcz8_0 hcz8_1 hfz8_0 hfz8_1 hx1 hx2
        go_region_held3 (fun w' => w'.cell? ⟨0, 4, none⟩ = some (.string ⟨#[84]⟩) ∧ w'.cell? ⟨gb, 0, none⟩ = some (.string p)) (first | (exact ⟨hl4, hcc⟩) | assumption | go_keep)
          (first | ((rw [alloc_drew]); refine Kd.R_append_step Kd.string (w0 := w) (W := w8.drew) w.heap.size ?hw (.tmp 21) (.tmp 29) 40 9 (.string ⟨#[]⟩) 16 ?ho Tryd.underlying40 info9 rfl (by decide) (by omega) u3 ((l.take x.toNat).map lineOf) ((⟨#[84]⟩ : ByteArray) ++ ⟨#[32]⟩ ++ p) [.string ((⟨#[84]⟩ : ByteArray) ++ ⟨#[32]⟩ ++ p)] (fun k_ => k_ ≠ gb) (fun _ => False) ?hs ?hx ?aP (fun _ hk => hk.elim) ?aF ?aO ?aB ?aS ?aL ?_; (case hw => kernel_rfl); (case ho => rfl); (case hs => rfl); (case hx => rfl); (case aP => exact rfl); (case aF => exact fun k_ hk => Kd.freshB (g := gb) (blk_drewN BK8.out _) k_ hk); (case aB => exact pw_below_drewN HB8.out _); (case aO => exact Kd.R_drewN HO8.out _); (case aS => exact HB8.out.size); (case aL => have := HLX.out; omega); intro v9 w9 ho hb hg hat; have HO9 := Aside0.mk ho; have HB9 := Aside0.mk hb; have BK9 := Aside0.mk (blk_grown (g := gb) (blk_drewN BK8.out _) hg (Kd.R_away HO8.out (fun _ hk => hk))); have hl9 := (HL.out.below hb).2.2.2.2.1; have hc9 : w9.cell? ⟨gb, 0, none⟩ = some (.string p) := (blk_cell BK9.out 0).trans rfl; clear ho hb hg hat))
        go_wp2
        go_roundw
        case rel => exact ⟨x + 1, by first | rfl | (go_num; done), ⟨by omega⟩, ⟨by rw [HT.out, HLT.out]; exact Kd.R_mono HO9.out (fun _ _ => trivial)⟩, HB9⟩
        case measure => (simp [intOf]; omega)
      · skip
        have HLT : Aside0 (lineOf ⟨p, 5⟩ = (⟨#[85]⟩ : ByteArray) ++ ⟨#[32]⟩ ++ p) := ⟨by simp [lineOf, letter]⟩
        go_upto_region 8 with (first | ((with_reducible refine gate_dst (N := 5) rfl ?_); refine box_event ?hg (N := 5) ?hd (cs := #[.string (⟨#[]⟩ : ByteArray), .int .i64 0]) (t := 32) ?hr ?_; (case hd => rfl); (case hg => rfl); (case hr => first | (go_simp; done) | (go_simp; rfl)); intro gb hg w7 hbox hb; have hbs := HBW.out.size; have HO7 := Aside0.mk (Kd.R_below (Kd.R_elderB HO.out gb (Nat.le_of_eq hg.symm)) hb); have HB7 := Aside0.mk (below_step HBW.out hb); have BK7 := Aside0.mk hbox; have GE7 : Aside0 (w.heap.size ≤ gb) := ⟨by omega⟩; clear hb hbox hg hbs; have hcz8_0 : w7.cell? ⟨gb, 0, none⟩ = some (.string (⟨#[]⟩ : ByteArray)) := (blk_cell BK7.out 0).trans rfl; have hcz8_1 : w7.cell? ⟨gb, 1, none⟩ = some (.int .i64 0) := (blk_cell BK7.out 1).trans rfl; have hfz8_0 := blk_frozen BK7.out 0; have hfz8_1 := blk_frozen BK7.out 1))
        obtain ⟨w8, hw8⟩ : ∃ w8, w8 = (w7.setCell ⟨gb, 0, none⟩ (.string p)).setCell ⟨gb, 1, none⟩ (.int .i64 5) := ⟨_, rfl⟩
        have BK8 : Aside0 (w8.heap[gb]? = some (.cells #[.string p, .int .i64 5] 32 (0, 0))) := ⟨by rw [hw8]; refine blk_put (cs := #[.string p, .int .i64 0]) ?_ 1 _ rfl; refine blk_put (cs := #[.string (⟨#[]⟩ : ByteArray), .int .i64 0]) ?_ 0 _ rfl; exact BK7.out⟩
        have HO8 : Aside0 (Kd.R Kd.string 9 w8 w.heap.size (fun k_ => k_ ≠ gb) u3 ((l.take x.toNat).map lineOf)) := ⟨by rw [hw8]; exact Kd.R_far (p := ⟨gb, 1, none⟩) (Kd.R_far (p := ⟨gb, 0, none⟩) (Kd.R_mono HO7.out (fun k_ hk => (hk.2 : k_ ≠ gb))) (fun _ hk => hk) (.string p)) (fun _ hk => hk) (.int .i64 5)⟩
        have HB8 : Aside0 (Below w.heap.size w w8) := ⟨by rw [hw8]; refine below_set ?_ GE7.out; refine below_set ?_ GE7.out; exact HB7.out⟩
        have hcc : w8.cell? ⟨gb, 0, none⟩ = some (.string p) := (blk_cell BK8.out 0).trans rfl
        obtain ⟨hl0, hl1, hl2, hl3, hl4, hl5⟩ := HL.out.below HB8.out
        rw [← hw8]
        clear hw8 HO7 HB7 BK7 HO HBW hcz8_0 hcz8_1 hfz8_0 hfz8_1 hx1 hx2
        go_region_held3 (fun w' => w'.cell? ⟨0, 5, none⟩ = some (.string ⟨#[85]⟩) ∧ w'.cell? ⟨gb, 0, none⟩ = some (.string p)) (first | (exact ⟨hl5, hcc⟩) | assumption | go_keep)
          (first | ((rw [alloc_drew]); refine Kd.R_append_step Kd.string (w0 := w) (W := w8.drew) w.heap.size ?hw (.tmp 21) (.tmp 29) 40 9 (.string ⟨#[]⟩) 16 ?ho Tryd.underlying40 info9 rfl (by decide) (by omega) u3 ((l.take x.toNat).map lineOf) ((⟨#[85]⟩ : ByteArray) ++ ⟨#[32]⟩ ++ p) [.string ((⟨#[85]⟩ : ByteArray) ++ ⟨#[32]⟩ ++ p)] (fun k_ => k_ ≠ gb) (fun _ => False) ?hs ?hx ?aP (fun _ hk => hk.elim) ?aF ?aO ?aB ?aS ?aL ?_; (case hw => kernel_rfl); (case ho => rfl); (case hs => rfl); (case hx => rfl); (case aP => exact rfl); (case aF => exact fun k_ hk => Kd.freshB (g := gb) (blk_drewN BK8.out _) k_ hk); (case aB => exact pw_below_drewN HB8.out _); (case aO => exact Kd.R_drewN HO8.out _); (case aS => exact HB8.out.size); (case aL => have := HLX.out; omega); intro v9 w9 ho hb hg hat; have HO9 := Aside0.mk ho; have HB9 := Aside0.mk hb; have BK9 := Aside0.mk (blk_grown (g := gb) (blk_drewN BK8.out _) hg (Kd.R_away HO8.out (fun _ hk => hk))); have hl9 := (HL.out.below hb).2.2.2.2.2; have hc9 : w9.cell? ⟨gb, 0, none⟩ = some (.string p) := (blk_cell BK9.out 0).trans rfl; clear ho hb hg hat))
        go_wp2
        go_roundw
        case rel => exact ⟨x + 1, by first | rfl | (go_num; done), ⟨by omega⟩, ⟨by rw [HT.out, HLT.out]; exact Kd.R_mono HO9.out (fun _ _ => trivial)⟩, HB9⟩
        case measure => (simp [intOf]; omega)
    · have hxl : x = l.length := by have := HX.out; omega
      subst hxl
      go_wp2
      go_ret
      exact ⟨_, rfl, by have h := HO.out; simpa using h, HBW.out⟩
end Go.Proofs.YtkbofkpkemfedaaDoor.Q
