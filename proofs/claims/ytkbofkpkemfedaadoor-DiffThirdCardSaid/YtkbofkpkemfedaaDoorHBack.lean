/- Back, of the program and of the document, and the document's Text: walked; each change by itself. -/
import Derived.Test.YtkbofkpkemfedaaDoorHText
namespace Go.Proofs.YtkbofkpkemfedaaDoor.Q
open Go.RowKit Go.Proofs.YtkbofkpkemfedaaDoorW.PrintWords Go.Proofs.YtkbofkpkemfedaaDoorW.PrintLast Go.Proofs.YtkbofkpkemfedaaDoorW.PrintMore
attribute [local go_sem] max2_int min2_int max_two min_two max_three min_three max_four min_four
/-- A kind the other way. -/
def turned (n : Int) : Int := if n = 1 then 2 else if n = 2 then 1 else n
def back32 (x : S32) : S32 := ⟨x.f0, turned x.f1⟩
def back35 (x : S35) : S35 := ⟨x.f0, turned x.f1⟩
def line35 (x : S35) : ByteArray := letter x.f1 ++ ⟨#[32]⟩ ++ x.f0
set_option maxHeartbeats 2000000 in
set_option maxRecDepth 100000 in
theorem diff_Back_calls (A0 : Option Addr) (c0 : Nat) (l : List S32) (w : World) (hr0 : Kd.C k32 w A0 l.length l) (hc0 : l.length ≤ c0) (hlen : l.length ≤ 100000) (hsz : ∀ x ∈ l, x.f0.size ≤ 140737488355328) :
    Calls Tryd.prog 8 #[.slice A0 l.length c0] w fun e w' => ∃ v0_ : Value, e = .returned v0_ ∧ Kd.R k32 32 w' w.heap.size (fun _ => True) v0_ (l.map back32) ∧ Below w.heap.size w w' := by
  have HR0 := Aside0.mk hr0
  have HC0 := Aside0.mk hc0
  have HLen := Aside0.mk hlen
  have HSZ := Aside0.mk hsz
  clear hr0 hc0 hlen hsz
  have hu32 := Tryd.underlying32
  have HB := Aside0.mk (Below.refl w.heap.size w)
  go_enter Tryd.func8, Tryd.ntmps8
  go_wp2
  go_loopw [3, 8] (fun v3 v8 w' => ∃ x : Int, v8 = .int .i64 x ∧ Aside0 (0 ≤ x ∧ x ≤ l.length) ∧ Aside0 (Kd.R k32 32 w' w.heap.size (fun _ => True) v3 ((l.take x.toNat).map back32)) ∧ Aside0 (Below w.heap.size w w')) (fun _ v8 _ => l.length + 1 - (intOf v8).toNat)
  case atStart => exact ⟨0, rfl, ⟨by omega⟩, ⟨by simpa using Kd.R_nil k32 32 w w.heap.size (fun _ => True)⟩, HB⟩
  case round =>
    obtain ⟨x, rfl, HX, HO, HBW⟩ := hrel
    clear HB
    have hx0 := HX.out.1
    by_cases c2 : x < (l.length : Int)
    · have c2b0 : decide (x < (l.length : Int)) = true := decide_eq_true c2
      obtain ⟨ad, e1, hx1, hx2⟩ := at_T32 HR0.out x hx0 c2
      cases e1
      replace hx1 := (HBW.out.cell (World.block_lt_of_cell? w _ hx1)).trans hx1
      replace hx2 := (HBW.out.cell (World.block_lt_of_cell? w _ hx2)).trans hx2
      have HT := Aside0.mk (take_next l z32 back32 x hx0 c2)
      have hmem : (rd_T32 l x) ∈ l := by
        unfold rd_T32
        rw [List.getD_eq_getElem?_getD, List.getElem?_eq_getElem (show x.toNat < l.length by omega)]
        exact List.getElem_mem _
      have hz := HSZ.out _ hmem
      have hzb := HLen.out
      have HLX : Aside0 (((l.take x.toNat).map back32).length ≤ 100000) := ⟨by simp only [List.length_map, List.length_take]; omega⟩
      clear hmem
      change Aside0 (List.map back32 (List.take (x + 1).toNat l) = List.map back32 (List.take x.toNat l) ++ [back32 (rd_T32 l x)]) at HT
      generalize hD : rd_T32 l x = D at hx1 hx2 HT hz
      obtain ⟨p, K⟩ := D
      clear hD
      simp only at hx1 hx2 hz
      have hz1 : (9223372036854775807 < 1 + 1 + p.size) = False := eq_false (by omega)
      have hz2 : (9223372036854775807 < 2 + p.size) = False := eq_false (by omega)
      have hz3 : (9223372036854775807 < 1 + p.size) = False := eq_false (by omega)
      have hp1 := eq_true hx0
      have hp2 := eq_true c2
      have hK : K = 1 ∨ K = 2 ∨ (K ≠ 1 ∧ K ≠ 2) := by omega
      rcases hK with rfl | rfl | ⟨hK1, hK2⟩
      · skip
        have HLT : Aside0 (back32 ⟨p, 1⟩ = ⟨p, 2⟩) := ⟨by simp [back32, turned]⟩
        go_upto_region 5 with (first | ((with_reducible refine gate_dst (N := 5) rfl ?_); refine box_event ?hg (N := 5) ?hd (cs := #[.string (⟨#[]⟩ : ByteArray), .int .i64 0]) (t := 32) ?hr ?_; (case hd => rfl); (case hg => rfl); (case hr => first | (go_simp; done) | (go_simp; rfl)); intro gb hg w7 hbox hb; have hbs := HBW.out.size; have HO7 := Aside0.mk (Kd.R_below (Kd.R_elderB HO.out gb (Nat.le_of_eq hg.symm)) hb); have HB7 := Aside0.mk (below_step HBW.out hb); have BK7 := Aside0.mk hbox; have GE7 : Aside0 (w.heap.size ≤ gb) := ⟨by omega⟩; clear hb hbox hg hbs; have hcz8_0 : w7.cell? ⟨gb, 0, none⟩ = some (.string (⟨#[]⟩ : ByteArray)) := (blk_cell BK7.out 0).trans rfl; have hcz8_1 : w7.cell? ⟨gb, 1, none⟩ = some (.int .i64 0) := (blk_cell BK7.out 1).trans rfl; have hfz8_0 := blk_frozen BK7.out 0; have hfz8_1 := blk_frozen BK7.out 1))
        obtain ⟨w6, hw6⟩ : ∃ w6, w6 = (w7.setCell ⟨gb, 0, none⟩ (.string p)).setCell ⟨gb, 1, none⟩ (.int .i64 1) := ⟨_, rfl⟩
        have BK6 : Aside0 (w6.heap[gb]? = some (.cells #[.string p, .int .i64 1] 32 (0, 0))) := ⟨by rw [hw6]; refine blk_put (cs := #[.string p, .int .i64 0]) ?_ 1 _ rfl; refine blk_put (cs := #[.string (⟨#[]⟩ : ByteArray), .int .i64 0]) ?_ 0 _ rfl; exact BK7.out⟩
        have HO6 : Aside0 (Kd.R k32 32 w6 w.heap.size (fun k_ => k_ ≠ gb) u3 ((l.take x.toNat).map back32)) := ⟨by rw [hw6]; exact Kd.R_far (p := ⟨gb, 1, none⟩) (Kd.R_far (p := ⟨gb, 0, none⟩) (Kd.R_mono HO7.out (fun k_ hk => (hk.2 : k_ ≠ gb))) (fun _ hk => hk) (.string p)) (fun _ hk => hk) (.int .i64 1)⟩
        have HB6 : Aside0 (Below w.heap.size w w6) := ⟨by rw [hw6]; refine below_set ?_ GE7.out; refine below_set ?_ GE7.out; exact HB7.out⟩
        have hd0 : w6.cell? ⟨gb, 0, none⟩ = some (.string p) := (blk_cell BK6.out 0).trans rfl
        have hd1 : w6.cell? ⟨gb, 1, none⟩ = some (.int .i64 1) := (blk_cell BK6.out 1).trans rfl
        have hdf := blk_frozen BK6.out 1
        rw [← hw6]
        clear hw6 HO7 HB7 BK7 HO HBW hcz8_0 hcz8_1 hfz8_0 hfz8_1 hx1 hx2
        go_upto_region 10 with (fail)
        obtain ⟨w8, hw8⟩ : ∃ w8, w8 = w6.setCell ⟨gb, 1, none⟩ (.int .i64 2) := ⟨_, rfl⟩
        have BK8 : Aside0 (w8.heap[gb]? = some (.cells #[.string p, .int .i64 2] 32 (0, 0))) := ⟨by rw [hw8]; refine blk_put (cs := #[.string p, .int .i64 1]) ?_ 1 _ rfl; exact BK6.out⟩
        have HO8 : Aside0 (Kd.R k32 32 w8 w.heap.size (fun k_ => k_ ≠ gb) u3 ((l.take x.toNat).map back32)) := ⟨by rw [hw8]; exact Kd.R_far (p := ⟨gb, 1, none⟩) HO6.out (fun _ hk => hk) (.int .i64 2)⟩
        have HB8 : Aside0 (Below w.heap.size w w8) := ⟨by rw [hw8]; refine below_set ?_ GE7.out; exact HB6.out⟩
        have he0 : w8.cell? ⟨gb, 0, none⟩ = some (.string p) := (blk_cell BK8.out 0).trans rfl
        have he1 : w8.cell? ⟨gb, 1, none⟩ = some (.int .i64 2) := (blk_cell BK8.out 1).trans rfl
        rw [← hw8]
        clear hw8 HO6 HB6 BK6 hd0 hd1 hdf
        go_wp2_with (first | ((with_reducible refine gate_builtin (b := .append) (xs := #[.tmp 20, .tmp 22]) rfl ?_); at_builtin; refine Kd.R_append k32 (w0 := w) w.heap.size rfl (.tmp 20) (.tmp 22) 29 32 (.agg #[(.string ⟨#[]⟩), (.int .i64 0)]) 24 rfl Tryd.underlying29 info32 rfl (by decide) (by omega) u3 ((l.take x.toNat).map back32) (⟨p, 2⟩ : S32) [.string p, .int .i64 2] (fun k_ => k_ ≠ gb) (fun _ => False) rfl rfl ?aP (fun _ hk => hk.elim) ?aF ?aO ?aB ?aS ?aL ?_; (case aP => exact k32_mkM _ _ _ (⟨p, 2⟩ : S32)); (case aF => exact fun k_ hk => Kd.freshB (g := gb) BK8.out k_ hk); (case aB => exact HB8.out); (case aO => exact HO8.out); (case aS => exact HB8.out.size); (case aL => have := HLX.out; omega); intro v9 w9 ho hb hg hat; have HO9 := Aside0.mk ho; have HB9 := Aside0.mk hb; clear ho hb hg hat))
        go_roundw
        case rel => exact ⟨x + 1, by first | rfl | (go_num; done), ⟨by omega⟩, ⟨by rw [HT.out, HLT.out]; exact Kd.R_mono HO9.out (fun _ _ => trivial)⟩, HB9⟩
        case measure => (simp [intOf]; omega)
      · skip
        have HLT : Aside0 (back32 ⟨p, 2⟩ = ⟨p, 1⟩) := ⟨by simp [back32, turned]⟩
        go_upto_region 5 with (first | ((with_reducible refine gate_dst (N := 5) rfl ?_); refine box_event ?hg (N := 5) ?hd (cs := #[.string (⟨#[]⟩ : ByteArray), .int .i64 0]) (t := 32) ?hr ?_; (case hd => rfl); (case hg => rfl); (case hr => first | (go_simp; done) | (go_simp; rfl)); intro gb hg w7 hbox hb; have hbs := HBW.out.size; have HO7 := Aside0.mk (Kd.R_below (Kd.R_elderB HO.out gb (Nat.le_of_eq hg.symm)) hb); have HB7 := Aside0.mk (below_step HBW.out hb); have BK7 := Aside0.mk hbox; have GE7 : Aside0 (w.heap.size ≤ gb) := ⟨by omega⟩; clear hb hbox hg hbs; have hcz8_0 : w7.cell? ⟨gb, 0, none⟩ = some (.string (⟨#[]⟩ : ByteArray)) := (blk_cell BK7.out 0).trans rfl; have hcz8_1 : w7.cell? ⟨gb, 1, none⟩ = some (.int .i64 0) := (blk_cell BK7.out 1).trans rfl; have hfz8_0 := blk_frozen BK7.out 0; have hfz8_1 := blk_frozen BK7.out 1))
        obtain ⟨w6, hw6⟩ : ∃ w6, w6 = (w7.setCell ⟨gb, 0, none⟩ (.string p)).setCell ⟨gb, 1, none⟩ (.int .i64 2) := ⟨_, rfl⟩
        have BK6 : Aside0 (w6.heap[gb]? = some (.cells #[.string p, .int .i64 2] 32 (0, 0))) := ⟨by rw [hw6]; refine blk_put (cs := #[.string p, .int .i64 0]) ?_ 1 _ rfl; refine blk_put (cs := #[.string (⟨#[]⟩ : ByteArray), .int .i64 0]) ?_ 0 _ rfl; exact BK7.out⟩
        have HO6 : Aside0 (Kd.R k32 32 w6 w.heap.size (fun k_ => k_ ≠ gb) u3 ((l.take x.toNat).map back32)) := ⟨by rw [hw6]; exact Kd.R_far (p := ⟨gb, 1, none⟩) (Kd.R_far (p := ⟨gb, 0, none⟩) (Kd.R_mono HO7.out (fun k_ hk => (hk.2 : k_ ≠ gb))) (fun _ hk => hk) (.string p)) (fun _ hk => hk) (.int .i64 2)⟩
        have HB6 : Aside0 (Below w.heap.size w w6) := ⟨by rw [hw6]; refine below_set ?_ GE7.out; refine below_set ?_ GE7.out; exact HB7.out⟩
        have hd0 : w6.cell? ⟨gb, 0, none⟩ = some (.string p) := (blk_cell BK6.out 0).trans rfl
        have hd1 : w6.cell? ⟨gb, 1, none⟩ = some (.int .i64 2) := (blk_cell BK6.out 1).trans rfl
        have hdf := blk_frozen BK6.out 1
        rw [← hw6]
        clear hw6 HO7 HB7 BK7 HO HBW hcz8_0 hcz8_1 hfz8_0 hfz8_1 hx1 hx2
        go_upto_region 10 with (fail)
        obtain ⟨w8, hw8⟩ : ∃ w8, w8 = w6.setCell ⟨gb, 1, none⟩ (.int .i64 1) := ⟨_, rfl⟩
        have BK8 : Aside0 (w8.heap[gb]? = some (.cells #[.string p, .int .i64 1] 32 (0, 0))) := ⟨by rw [hw8]; refine blk_put (cs := #[.string p, .int .i64 2]) ?_ 1 _ rfl; exact BK6.out⟩
        have HO8 : Aside0 (Kd.R k32 32 w8 w.heap.size (fun k_ => k_ ≠ gb) u3 ((l.take x.toNat).map back32)) := ⟨by rw [hw8]; exact Kd.R_far (p := ⟨gb, 1, none⟩) HO6.out (fun _ hk => hk) (.int .i64 1)⟩
        have HB8 : Aside0 (Below w.heap.size w w8) := ⟨by rw [hw8]; refine below_set ?_ GE7.out; exact HB6.out⟩
        have he0 : w8.cell? ⟨gb, 0, none⟩ = some (.string p) := (blk_cell BK8.out 0).trans rfl
        have he1 : w8.cell? ⟨gb, 1, none⟩ = some (.int .i64 1) := (blk_cell BK8.out 1).trans rfl
        rw [← hw8]
        clear hw8 HO6 HB6 BK6 hd0 hd1 hdf
        go_wp2_with (first | ((with_reducible refine gate_builtin (b := .append) (xs := #[.tmp 20, .tmp 22]) rfl ?_); at_builtin; refine Kd.R_append k32 (w0 := w) w.heap.size rfl (.tmp 20) (.tmp 22) 29 32 (.agg #[(.string ⟨#[]⟩), (.int .i64 0)]) 24 rfl Tryd.underlying29 info32 rfl (by decide) (by omega) u3 ((l.take x.toNat).map back32) (⟨p, 1⟩ : S32) [.string p, .int .i64 1] (fun k_ => k_ ≠ gb) (fun _ => False) rfl rfl ?aP (fun _ hk => hk.elim) ?aF ?aO ?aB ?aS ?aL ?_; (case aP => exact k32_mkM _ _ _ (⟨p, 1⟩ : S32)); (case aF => exact fun k_ hk => Kd.freshB (g := gb) BK8.out k_ hk); (case aB => exact HB8.out); (case aO => exact HO8.out); (case aS => exact HB8.out.size); (case aL => have := HLX.out; omega); intro v9 w9 ho hb hg hat; have HO9 := Aside0.mk ho; have HB9 := Aside0.mk hb; clear ho hb hg hat))
        go_roundw
        case rel => exact ⟨x + 1, by first | rfl | (go_num; done), ⟨by omega⟩, ⟨by rw [HT.out, HLT.out]; exact Kd.R_mono HO9.out (fun _ _ => trivial)⟩, HB9⟩
        case measure => (simp [intOf]; omega)
      · have k1 : (K == 1) = false := beq_eq_false_iff_ne.mpr (by omega)
        have k2 : (K == 2) = false := beq_eq_false_iff_ne.mpr (by omega)
        have HLT : Aside0 (back32 ⟨p, K⟩ = ⟨p, K⟩) := ⟨by simp only [back32, turned]; rw [if_neg (by omega), if_neg (by omega)]⟩
        go_upto_region 5 with (first | ((with_reducible refine gate_dst (N := 5) rfl ?_); refine box_event ?hg (N := 5) ?hd (cs := #[.string (⟨#[]⟩ : ByteArray), .int .i64 0]) (t := 32) ?hr ?_; (case hd => rfl); (case hg => rfl); (case hr => first | (go_simp; done) | (go_simp; rfl)); intro gb hg w7 hbox hb; have hbs := HBW.out.size; have HO7 := Aside0.mk (Kd.R_below (Kd.R_elderB HO.out gb (Nat.le_of_eq hg.symm)) hb); have HB7 := Aside0.mk (below_step HBW.out hb); have BK7 := Aside0.mk hbox; have GE7 : Aside0 (w.heap.size ≤ gb) := ⟨by omega⟩; clear hb hbox hg hbs; have hcz8_0 : w7.cell? ⟨gb, 0, none⟩ = some (.string (⟨#[]⟩ : ByteArray)) := (blk_cell BK7.out 0).trans rfl; have hcz8_1 : w7.cell? ⟨gb, 1, none⟩ = some (.int .i64 0) := (blk_cell BK7.out 1).trans rfl; have hfz8_0 := blk_frozen BK7.out 0; have hfz8_1 := blk_frozen BK7.out 1))
        obtain ⟨w6, hw6⟩ : ∃ w6, w6 = (w7.setCell ⟨gb, 0, none⟩ (.string p)).setCell ⟨gb, 1, none⟩ (.int .i64 K) := ⟨_, rfl⟩
        have BK6 : Aside0 (w6.heap[gb]? = some (.cells #[.string p, .int .i64 K] 32 (0, 0))) := ⟨by rw [hw6]; refine blk_put (cs := #[.string p, .int .i64 0]) ?_ 1 _ rfl; refine blk_put (cs := #[.string (⟨#[]⟩ : ByteArray), .int .i64 0]) ?_ 0 _ rfl; exact BK7.out⟩
        have HO6 : Aside0 (Kd.R k32 32 w6 w.heap.size (fun k_ => k_ ≠ gb) u3 ((l.take x.toNat).map back32)) := ⟨by rw [hw6]; exact Kd.R_far (p := ⟨gb, 1, none⟩) (Kd.R_far (p := ⟨gb, 0, none⟩) (Kd.R_mono HO7.out (fun k_ hk => (hk.2 : k_ ≠ gb))) (fun _ hk => hk) (.string p)) (fun _ hk => hk) (.int .i64 K)⟩
        have HB6 : Aside0 (Below w.heap.size w w6) := ⟨by rw [hw6]; refine below_set ?_ GE7.out; refine below_set ?_ GE7.out; exact HB7.out⟩
        have hd0 : w6.cell? ⟨gb, 0, none⟩ = some (.string p) := (blk_cell BK6.out 0).trans rfl
        have hd1 : w6.cell? ⟨gb, 1, none⟩ = some (.int .i64 K) := (blk_cell BK6.out 1).trans rfl
        have hdf := blk_frozen BK6.out 1
        rw [← hw6]
        clear hw6 HO7 HB7 BK7 HO HBW hcz8_0 hcz8_1 hfz8_0 hfz8_1 hx1 hx2
        go_upto_region 10 with (fail)
        obtain ⟨w8, hw8⟩ : ∃ w8, w8 = w6 := ⟨_, rfl⟩
        have BK8 : Aside0 (w8.heap[gb]? = some (.cells #[.string p, .int .i64 K] 32 (0, 0))) := ⟨by rw [hw8]; exact BK6.out⟩
        have HO8 : Aside0 (Kd.R k32 32 w8 w.heap.size (fun k_ => k_ ≠ gb) u3 ((l.take x.toNat).map back32)) := ⟨by rw [hw8]; exact HO6.out⟩
        have HB8 : Aside0 (Below w.heap.size w w8) := ⟨by rw [hw8]; exact HB6.out⟩
        have he0 : w8.cell? ⟨gb, 0, none⟩ = some (.string p) := (blk_cell BK8.out 0).trans rfl
        have he1 : w8.cell? ⟨gb, 1, none⟩ = some (.int .i64 K) := (blk_cell BK8.out 1).trans rfl
        rw [← hw8]
        clear hw8 HO6 HB6 BK6 hd0 hd1 hdf
        go_wp2_with (first | ((with_reducible refine gate_builtin (b := .append) (xs := #[.tmp 20, .tmp 22]) rfl ?_); at_builtin; refine Kd.R_append k32 (w0 := w) w.heap.size rfl (.tmp 20) (.tmp 22) 29 32 (.agg #[(.string ⟨#[]⟩), (.int .i64 0)]) 24 rfl Tryd.underlying29 info32 rfl (by decide) (by omega) u3 ((l.take x.toNat).map back32) (⟨p, K⟩ : S32) [.string p, .int .i64 K] (fun k_ => k_ ≠ gb) (fun _ => False) rfl rfl ?aP (fun _ hk => hk.elim) ?aF ?aO ?aB ?aS ?aL ?_; (case aP => exact k32_mkM _ _ _ (⟨p, K⟩ : S32)); (case aF => exact fun k_ hk => Kd.freshB (g := gb) BK8.out k_ hk); (case aB => exact HB8.out); (case aO => exact HO8.out); (case aS => exact HB8.out.size); (case aL => have := HLX.out; omega); intro v9 w9 ho hb hg hat; have HO9 := Aside0.mk ho; have HB9 := Aside0.mk hb; clear ho hb hg hat))
        go_roundw
        case rel => exact ⟨x + 1, by first | rfl | (go_num; done), ⟨by omega⟩, ⟨by rw [HT.out, HLT.out]; exact Kd.R_mono HO9.out (fun _ _ => trivial)⟩, HB9⟩
        case measure => (simp [intOf]; omega)
    · have hxl : x = l.length := by have := HX.out; omega
      subst hxl
      go_wp2
      go_ret
      exact ⟨_, rfl, by have h := HO.out; simpa using h, HBW.out⟩
set_option maxHeartbeats 2000000 in
set_option maxRecDepth 100000 in
theorem ref_Back_calls (A0 : Option Addr) (c0 : Nat) (l : List S35) (w : World) (hr0 : Kd.C k35 w A0 l.length l) (hc0 : l.length ≤ c0) (hlen : l.length ≤ 100000) (hsz : ∀ x ∈ l, x.f0.size ≤ 140737488355328) :
    Calls Tryd.prog 10 #[.slice A0 l.length c0] w fun e w' => ∃ v0_ : Value, e = .returned v0_ ∧ Kd.R k35 35 w' w.heap.size (fun _ => True) v0_ (l.map back35) ∧ Below w.heap.size w w' := by
  have HR0 := Aside0.mk hr0
  have HC0 := Aside0.mk hc0
  have HLen := Aside0.mk hlen
  have HSZ := Aside0.mk hsz
  clear hr0 hc0 hlen hsz
  have hu35 := Tryd.underlying35
  have HB := Aside0.mk (Below.refl w.heap.size w)
  go_enter Tryd.func10, Tryd.ntmps10
  go_wp2
  go_loopw [3, 4] (fun v3 v4 w' => ∃ x : Int, v4 = .int .i64 x ∧ Aside0 (0 ≤ x ∧ x ≤ l.length) ∧ Aside0 (Kd.R k35 35 w' w.heap.size (fun _ => True) v3 ((l.take x.toNat).map back35)) ∧ Aside0 (Below w.heap.size w w')) (fun _ v4 _ => l.length + 1 - (intOf v4).toNat)
  case atStart => exact ⟨0, rfl, ⟨by omega⟩, ⟨by simpa using Kd.R_nil k35 35 w w.heap.size (fun _ => True)⟩, HB⟩
  case round =>
    obtain ⟨x, rfl, HX, HO, HBW⟩ := hrel
    clear HB
    have hx0 := HX.out.1
    by_cases c2 : x < (l.length : Int)
    · have c2b0 : decide (x < (l.length : Int)) = true := decide_eq_true c2
      obtain ⟨ad, e1, hx1, hx2⟩ := at_T35 HR0.out x hx0 c2
      cases e1
      replace hx1 := (HBW.out.cell (World.block_lt_of_cell? w _ hx1)).trans hx1
      replace hx2 := (HBW.out.cell (World.block_lt_of_cell? w _ hx2)).trans hx2
      have HT := Aside0.mk (take_next l z35 back35 x hx0 c2)
      have hmem : (rd_T35 l x) ∈ l := by
        unfold rd_T35
        rw [List.getD_eq_getElem?_getD, List.getElem?_eq_getElem (show x.toNat < l.length by omega)]
        exact List.getElem_mem _
      have hz := HSZ.out _ hmem
      have hzb := HLen.out
      have HLX : Aside0 (((l.take x.toNat).map back35).length ≤ 100000) := ⟨by simp only [List.length_map, List.length_take]; omega⟩
      clear hmem
      change Aside0 (List.map back35 (List.take (x + 1).toNat l) = List.map back35 (List.take x.toNat l) ++ [back35 (rd_T35 l x)]) at HT
      generalize hD : rd_T35 l x = D at hx1 hx2 HT hz
      obtain ⟨p, K⟩ := D
      clear hD
      simp only at hx1 hx2 hz
      have hz1 : (9223372036854775807 < 1 + 1 + p.size) = False := eq_false (by omega)
      have hz2 : (9223372036854775807 < 2 + p.size) = False := eq_false (by omega)
      have hz3 : (9223372036854775807 < 1 + p.size) = False := eq_false (by omega)
      have hp1 := eq_true hx0
      have hp2 := eq_true c2
      have hK : K = 1 ∨ K = 2 ∨ (K ≠ 1 ∧ K ≠ 2) := by omega
      rcases hK with rfl | rfl | ⟨hK1, hK2⟩
      · skip
        have HLT : Aside0 (back35 ⟨p, 1⟩ = ⟨p, 2⟩) := ⟨by simp [back35, turned]⟩
        go_upto_region 6 with (first | ((with_reducible refine gate_dst (N := 5) rfl ?_); refine box_event ?hg (N := 5) ?hd (cs := #[.string (⟨#[]⟩ : ByteArray), .int .i64 0]) (t := 35) ?hr ?_; (case hd => rfl); (case hg => rfl); (case hr => first | (go_simp; done) | (go_simp; rfl)); intro gb hg w7 hbox hb; have hbs := HBW.out.size; have HO7 := Aside0.mk (Kd.R_below (Kd.R_elderB HO.out gb (Nat.le_of_eq hg.symm)) hb); have HB7 := Aside0.mk (below_step HBW.out hb); have BK7 := Aside0.mk hbox; have GE7 : Aside0 (w.heap.size ≤ gb) := ⟨by omega⟩; clear hb hbox hg hbs; have hcz8_0 : w7.cell? ⟨gb, 0, none⟩ = some (.string (⟨#[]⟩ : ByteArray)) := (blk_cell BK7.out 0).trans rfl; have hcz8_1 : w7.cell? ⟨gb, 1, none⟩ = some (.int .i64 0) := (blk_cell BK7.out 1).trans rfl; have hfz8_0 := blk_frozen BK7.out 0; have hfz8_1 := blk_frozen BK7.out 1))
        obtain ⟨w6, hw6⟩ : ∃ w6, w6 = (w7.setCell ⟨gb, 0, none⟩ (.string p)).setCell ⟨gb, 1, none⟩ (.int .i64 1) := ⟨_, rfl⟩
        have BK6 : Aside0 (w6.heap[gb]? = some (.cells #[.string p, .int .i64 1] 35 (0, 0))) := ⟨by rw [hw6]; refine blk_put (cs := #[.string p, .int .i64 0]) ?_ 1 _ rfl; refine blk_put (cs := #[.string (⟨#[]⟩ : ByteArray), .int .i64 0]) ?_ 0 _ rfl; exact BK7.out⟩
        have HO6 : Aside0 (Kd.R k35 35 w6 w.heap.size (fun k_ => k_ ≠ gb) u3 ((l.take x.toNat).map back35)) := ⟨by rw [hw6]; exact Kd.R_far (p := ⟨gb, 1, none⟩) (Kd.R_far (p := ⟨gb, 0, none⟩) (Kd.R_mono HO7.out (fun k_ hk => (hk.2 : k_ ≠ gb))) (fun _ hk => hk) (.string p)) (fun _ hk => hk) (.int .i64 1)⟩
        have HB6 : Aside0 (Below w.heap.size w w6) := ⟨by rw [hw6]; refine below_set ?_ GE7.out; refine below_set ?_ GE7.out; exact HB7.out⟩
        have hd0 : w6.cell? ⟨gb, 0, none⟩ = some (.string p) := (blk_cell BK6.out 0).trans rfl
        have hd1 : w6.cell? ⟨gb, 1, none⟩ = some (.int .i64 1) := (blk_cell BK6.out 1).trans rfl
        have hdf := blk_frozen BK6.out 1
        rw [← hw6]
        clear hw6 HO7 HB7 BK7 HO HBW hcz8_0 hcz8_1 hfz8_0 hfz8_1 hx1 hx2
        go_upto_region 8 with (fail)
        obtain ⟨w8, hw8⟩ : ∃ w8, w8 = w6.setCell ⟨gb, 1, none⟩ (.int .i64 2) := ⟨_, rfl⟩
        have BK8 : Aside0 (w8.heap[gb]? = some (.cells #[.string p, .int .i64 2] 35 (0, 0))) := ⟨by rw [hw8]; refine blk_put (cs := #[.string p, .int .i64 1]) ?_ 1 _ rfl; exact BK6.out⟩
        have HO8 : Aside0 (Kd.R k35 35 w8 w.heap.size (fun k_ => k_ ≠ gb) u3 ((l.take x.toNat).map back35)) := ⟨by rw [hw8]; exact Kd.R_far (p := ⟨gb, 1, none⟩) HO6.out (fun _ hk => hk) (.int .i64 2)⟩
        have HB8 : Aside0 (Below w.heap.size w w8) := ⟨by rw [hw8]; refine below_set ?_ GE7.out; exact HB6.out⟩
        have he0 : w8.cell? ⟨gb, 0, none⟩ = some (.string p) := (blk_cell BK8.out 0).trans rfl
        have he1 : w8.cell? ⟨gb, 1, none⟩ = some (.int .i64 2) := (blk_cell BK8.out 1).trans rfl
        rw [← hw8]
        clear hw8 HO6 HB6 BK6 hd0 hd1 hdf
        go_wp2_with (first | ((with_reducible refine gate_builtin (b := .append) (xs := #[.tmp 28, .tmp 30]) rfl ?_); at_builtin; refine Kd.R_append k35 (w0 := w) w.heap.size rfl (.tmp 28) (.tmp 30) 34 35 (.agg #[(.string ⟨#[]⟩), (.int .i64 0)]) 24 rfl Tryd.underlying34 info35 rfl (by decide) (by omega) u3 ((l.take x.toNat).map back35) (⟨p, 2⟩ : S35) [.string p, .int .i64 2] (fun k_ => k_ ≠ gb) (fun _ => False) rfl rfl ?aP (fun _ hk => hk.elim) ?aF ?aO ?aB ?aS ?aL ?_; (case aP => exact k35_mkM _ _ _ (⟨p, 2⟩ : S35)); (case aF => exact fun k_ hk => Kd.freshB (g := gb) BK8.out k_ hk); (case aB => exact HB8.out); (case aO => exact HO8.out); (case aS => exact HB8.out.size); (case aL => have := HLX.out; omega); intro v9 w9 ho hb hg hat; have HO9 := Aside0.mk ho; have HB9 := Aside0.mk hb; clear ho hb hg hat))
        go_roundw
        case rel => exact ⟨x + 1, by first | rfl | (go_num; done), ⟨by omega⟩, ⟨by rw [HT.out, HLT.out]; exact Kd.R_mono HO9.out (fun _ _ => trivial)⟩, HB9⟩
        case measure => (simp [intOf]; omega)
      · skip
        have HLT : Aside0 (back35 ⟨p, 2⟩ = ⟨p, 1⟩) := ⟨by simp [back35, turned]⟩
        go_upto_region 6 with (first | ((with_reducible refine gate_dst (N := 5) rfl ?_); refine box_event ?hg (N := 5) ?hd (cs := #[.string (⟨#[]⟩ : ByteArray), .int .i64 0]) (t := 35) ?hr ?_; (case hd => rfl); (case hg => rfl); (case hr => first | (go_simp; done) | (go_simp; rfl)); intro gb hg w7 hbox hb; have hbs := HBW.out.size; have HO7 := Aside0.mk (Kd.R_below (Kd.R_elderB HO.out gb (Nat.le_of_eq hg.symm)) hb); have HB7 := Aside0.mk (below_step HBW.out hb); have BK7 := Aside0.mk hbox; have GE7 : Aside0 (w.heap.size ≤ gb) := ⟨by omega⟩; clear hb hbox hg hbs; have hcz8_0 : w7.cell? ⟨gb, 0, none⟩ = some (.string (⟨#[]⟩ : ByteArray)) := (blk_cell BK7.out 0).trans rfl; have hcz8_1 : w7.cell? ⟨gb, 1, none⟩ = some (.int .i64 0) := (blk_cell BK7.out 1).trans rfl; have hfz8_0 := blk_frozen BK7.out 0; have hfz8_1 := blk_frozen BK7.out 1))
        obtain ⟨w6, hw6⟩ : ∃ w6, w6 = (w7.setCell ⟨gb, 0, none⟩ (.string p)).setCell ⟨gb, 1, none⟩ (.int .i64 2) := ⟨_, rfl⟩
        have BK6 : Aside0 (w6.heap[gb]? = some (.cells #[.string p, .int .i64 2] 35 (0, 0))) := ⟨by rw [hw6]; refine blk_put (cs := #[.string p, .int .i64 0]) ?_ 1 _ rfl; refine blk_put (cs := #[.string (⟨#[]⟩ : ByteArray), .int .i64 0]) ?_ 0 _ rfl; exact BK7.out⟩
        have HO6 : Aside0 (Kd.R k35 35 w6 w.heap.size (fun k_ => k_ ≠ gb) u3 ((l.take x.toNat).map back35)) := ⟨by rw [hw6]; exact Kd.R_far (p := ⟨gb, 1, none⟩) (Kd.R_far (p := ⟨gb, 0, none⟩) (Kd.R_mono HO7.out (fun k_ hk => (hk.2 : k_ ≠ gb))) (fun _ hk => hk) (.string p)) (fun _ hk => hk) (.int .i64 2)⟩
        have HB6 : Aside0 (Below w.heap.size w w6) := ⟨by rw [hw6]; refine below_set ?_ GE7.out; refine below_set ?_ GE7.out; exact HB7.out⟩
        have hd0 : w6.cell? ⟨gb, 0, none⟩ = some (.string p) := (blk_cell BK6.out 0).trans rfl
        have hd1 : w6.cell? ⟨gb, 1, none⟩ = some (.int .i64 2) := (blk_cell BK6.out 1).trans rfl
        have hdf := blk_frozen BK6.out 1
        rw [← hw6]
        clear hw6 HO7 HB7 BK7 HO HBW hcz8_0 hcz8_1 hfz8_0 hfz8_1 hx1 hx2
        go_upto_region 8 with (fail)
        obtain ⟨w8, hw8⟩ : ∃ w8, w8 = w6.setCell ⟨gb, 1, none⟩ (.int .i64 1) := ⟨_, rfl⟩
        have BK8 : Aside0 (w8.heap[gb]? = some (.cells #[.string p, .int .i64 1] 35 (0, 0))) := ⟨by rw [hw8]; refine blk_put (cs := #[.string p, .int .i64 2]) ?_ 1 _ rfl; exact BK6.out⟩
        have HO8 : Aside0 (Kd.R k35 35 w8 w.heap.size (fun k_ => k_ ≠ gb) u3 ((l.take x.toNat).map back35)) := ⟨by rw [hw8]; exact Kd.R_far (p := ⟨gb, 1, none⟩) HO6.out (fun _ hk => hk) (.int .i64 1)⟩
        have HB8 : Aside0 (Below w.heap.size w w8) := ⟨by rw [hw8]; refine below_set ?_ GE7.out; exact HB6.out⟩
        have he0 : w8.cell? ⟨gb, 0, none⟩ = some (.string p) := (blk_cell BK8.out 0).trans rfl
        have he1 : w8.cell? ⟨gb, 1, none⟩ = some (.int .i64 1) := (blk_cell BK8.out 1).trans rfl
        rw [← hw8]
        clear hw8 HO6 HB6 BK6 hd0 hd1 hdf
        go_wp2_with (first | ((with_reducible refine gate_builtin (b := .append) (xs := #[.tmp 28, .tmp 30]) rfl ?_); at_builtin; refine Kd.R_append k35 (w0 := w) w.heap.size rfl (.tmp 28) (.tmp 30) 34 35 (.agg #[(.string ⟨#[]⟩), (.int .i64 0)]) 24 rfl Tryd.underlying34 info35 rfl (by decide) (by omega) u3 ((l.take x.toNat).map back35) (⟨p, 1⟩ : S35) [.string p, .int .i64 1] (fun k_ => k_ ≠ gb) (fun _ => False) rfl rfl ?aP (fun _ hk => hk.elim) ?aF ?aO ?aB ?aS ?aL ?_; (case aP => exact k35_mkM _ _ _ (⟨p, 1⟩ : S35)); (case aF => exact fun k_ hk => Kd.freshB (g := gb) BK8.out k_ hk); (case aB => exact HB8.out); (case aO => exact HO8.out); (case aS => exact HB8.out.size); (case aL => have := HLX.out; omega); intro v9 w9 ho hb hg hat; have HO9 := Aside0.mk ho; have HB9 := Aside0.mk hb; clear ho hb hg hat))
        go_roundw
        case rel => exact ⟨x + 1, by first | rfl | (go_num; done), ⟨by omega⟩, ⟨by rw [HT.out, HLT.out]; exact Kd.R_mono HO9.out (fun _ _ => trivial)⟩, HB9⟩
        case measure => (simp [intOf]; omega)
      · have k1 : (K == 1) = false := beq_eq_false_iff_ne.mpr (by omega)
        have k2 : (K == 2) = false := beq_eq_false_iff_ne.mpr (by omega)
        have HLT : Aside0 (back35 ⟨p, K⟩ = ⟨p, K⟩) := ⟨by simp only [back35, turned]; rw [if_neg (by omega), if_neg (by omega)]⟩
        go_upto_region 6 with (first | ((with_reducible refine gate_dst (N := 5) rfl ?_); refine box_event ?hg (N := 5) ?hd (cs := #[.string (⟨#[]⟩ : ByteArray), .int .i64 0]) (t := 35) ?hr ?_; (case hd => rfl); (case hg => rfl); (case hr => first | (go_simp; done) | (go_simp; rfl)); intro gb hg w7 hbox hb; have hbs := HBW.out.size; have HO7 := Aside0.mk (Kd.R_below (Kd.R_elderB HO.out gb (Nat.le_of_eq hg.symm)) hb); have HB7 := Aside0.mk (below_step HBW.out hb); have BK7 := Aside0.mk hbox; have GE7 : Aside0 (w.heap.size ≤ gb) := ⟨by omega⟩; clear hb hbox hg hbs; have hcz8_0 : w7.cell? ⟨gb, 0, none⟩ = some (.string (⟨#[]⟩ : ByteArray)) := (blk_cell BK7.out 0).trans rfl; have hcz8_1 : w7.cell? ⟨gb, 1, none⟩ = some (.int .i64 0) := (blk_cell BK7.out 1).trans rfl; have hfz8_0 := blk_frozen BK7.out 0; have hfz8_1 := blk_frozen BK7.out 1))
        obtain ⟨w6, hw6⟩ : ∃ w6, w6 = (w7.setCell ⟨gb, 0, none⟩ (.string p)).setCell ⟨gb, 1, none⟩ (.int .i64 K) := ⟨_, rfl⟩
        have BK6 : Aside0 (w6.heap[gb]? = some (.cells #[.string p, .int .i64 K] 35 (0, 0))) := ⟨by rw [hw6]; refine blk_put (cs := #[.string p, .int .i64 0]) ?_ 1 _ rfl; refine blk_put (cs := #[.string (⟨#[]⟩ : ByteArray), .int .i64 0]) ?_ 0 _ rfl; exact BK7.out⟩
        have HO6 : Aside0 (Kd.R k35 35 w6 w.heap.size (fun k_ => k_ ≠ gb) u3 ((l.take x.toNat).map back35)) := ⟨by rw [hw6]; exact Kd.R_far (p := ⟨gb, 1, none⟩) (Kd.R_far (p := ⟨gb, 0, none⟩) (Kd.R_mono HO7.out (fun k_ hk => (hk.2 : k_ ≠ gb))) (fun _ hk => hk) (.string p)) (fun _ hk => hk) (.int .i64 K)⟩
        have HB6 : Aside0 (Below w.heap.size w w6) := ⟨by rw [hw6]; refine below_set ?_ GE7.out; refine below_set ?_ GE7.out; exact HB7.out⟩
        have hd0 : w6.cell? ⟨gb, 0, none⟩ = some (.string p) := (blk_cell BK6.out 0).trans rfl
        have hd1 : w6.cell? ⟨gb, 1, none⟩ = some (.int .i64 K) := (blk_cell BK6.out 1).trans rfl
        have hdf := blk_frozen BK6.out 1
        rw [← hw6]
        clear hw6 HO7 HB7 BK7 HO HBW hcz8_0 hcz8_1 hfz8_0 hfz8_1 hx1 hx2
        go_upto_region 8 with (fail)
        obtain ⟨w8, hw8⟩ : ∃ w8, w8 = w6 := ⟨_, rfl⟩
        have BK8 : Aside0 (w8.heap[gb]? = some (.cells #[.string p, .int .i64 K] 35 (0, 0))) := ⟨by rw [hw8]; exact BK6.out⟩
        have HO8 : Aside0 (Kd.R k35 35 w8 w.heap.size (fun k_ => k_ ≠ gb) u3 ((l.take x.toNat).map back35)) := ⟨by rw [hw8]; exact HO6.out⟩
        have HB8 : Aside0 (Below w.heap.size w w8) := ⟨by rw [hw8]; exact HB6.out⟩
        have he0 : w8.cell? ⟨gb, 0, none⟩ = some (.string p) := (blk_cell BK8.out 0).trans rfl
        have he1 : w8.cell? ⟨gb, 1, none⟩ = some (.int .i64 K) := (blk_cell BK8.out 1).trans rfl
        rw [← hw8]
        clear hw8 HO6 HB6 BK6 hd0 hd1 hdf
        go_wp2_with (first | ((with_reducible refine gate_builtin (b := .append) (xs := #[.tmp 28, .tmp 30]) rfl ?_); at_builtin; refine Kd.R_append k35 (w0 := w) w.heap.size rfl (.tmp 28) (.tmp 30) 34 35 (.agg #[(.string ⟨#[]⟩), (.int .i64 0)]) 24 rfl Tryd.underlying34 info35 rfl (by decide) (by omega) u3 ((l.take x.toNat).map back35) (⟨p, K⟩ : S35) [.string p, .int .i64 K] (fun k_ => k_ ≠ gb) (fun _ => False) rfl rfl ?aP (fun _ hk => hk.elim) ?aF ?aO ?aB ?aS ?aL ?_; (case aP => exact k35_mkM _ _ _ (⟨p, K⟩ : S35)); (case aF => exact fun k_ hk => Kd.freshB (g := gb) BK8.out k_ hk); (case aB => exact HB8.out); (case aO => exact HO8.out); (case aS => exact HB8.out.size); (case aL => have := HLX.out; omega); intro v9 w9 ho hb hg hat; have HO9 := Aside0.mk ho; have HB9 := Aside0.mk hb; clear ho hb hg hat))
        go_roundw
        case rel => exact ⟨x + 1, by first | rfl | (go_num; done), ⟨by omega⟩, ⟨by rw [HT.out, HLT.out]; exact Kd.R_mono HO9.out (fun _ _ => trivial)⟩, HB9⟩
        case measure => (simp [intOf]; omega)
    · have hxl : x = l.length := by have := HX.out; omega
      subst hxl
      go_wp2
      go_ret
      exact ⟨_, rfl, by have h := HO.out; simpa using h, HBW.out⟩
set_option maxHeartbeats 2000000 in
set_option maxRecDepth 100000 in
theorem ref_Text_calls (A0 : Option Addr) (c0 : Nat) (l : List S35) (w : World) (hr0 : Kd.C k35 w A0 l.length l) (hc0 : l.length ≤ c0) (hlen : l.length ≤ 100000) (hsz : ∀ x ∈ l, x.f0.size ≤ 140737488355328) :
    Calls Tryd.prog 13 #[.slice A0 l.length c0] w fun e w' => ∃ v0_ : Value, e = .returned v0_ ∧ Kd.R Kd.string 9 w' w.heap.size (fun _ => True) v0_ (l.map line35) ∧ Below w.heap.size w w' := by
  have HR0 := Aside0.mk hr0
  have HC0 := Aside0.mk hc0
  have HLen := Aside0.mk hlen
  have HSZ := Aside0.mk hsz
  clear hr0 hc0 hlen hsz
  have hu35 := Tryd.underlying35
  have HB := Aside0.mk (Below.refl w.heap.size w)
  go_enter Tryd.func13, Tryd.ntmps13
  go_wp2
  go_loopw [3, 4] (fun v3 v4 w' => ∃ x : Int, v4 = .int .i64 x ∧ Aside0 (0 ≤ x ∧ x ≤ l.length) ∧ Aside0 (Kd.R Kd.string 9 w' w.heap.size (fun _ => True) v3 ((l.take x.toNat).map line35)) ∧ Aside0 (Below w.heap.size w w')) (fun _ v4 _ => l.length + 1 - (intOf v4).toNat)
  case atStart => exact ⟨0, rfl, ⟨by omega⟩, ⟨by simpa using Kd.R_nil Kd.string 9 w w.heap.size (fun _ => True)⟩, HB⟩
  case round =>
    obtain ⟨x, rfl, HX, HO, HBW⟩ := hrel
    clear HB
    have hx0 := HX.out.1
    by_cases c2 : x < (l.length : Int)
    · have c2b0 : decide (x < (l.length : Int)) = true := decide_eq_true c2
      obtain ⟨ad, e1, hx1, hx2⟩ := at_T35 HR0.out x hx0 c2
      cases e1
      replace hx1 := (HBW.out.cell (World.block_lt_of_cell? w _ hx1)).trans hx1
      replace hx2 := (HBW.out.cell (World.block_lt_of_cell? w _ hx2)).trans hx2
      have HT := Aside0.mk (take_next l z35 line35 x hx0 c2)
      have hmem : (rd_T35 l x) ∈ l := by
        unfold rd_T35
        rw [List.getD_eq_getElem?_getD, List.getElem?_eq_getElem (show x.toNat < l.length by omega)]
        exact List.getElem_mem _
      have hz := HSZ.out _ hmem
      have hzb := HLen.out
      have HLX : Aside0 (((l.take x.toNat).map line35).length ≤ 100000) := ⟨by simp only [List.length_map, List.length_take]; omega⟩
      clear hmem
      change Aside0 (List.map line35 (List.take (x + 1).toNat l) = List.map line35 (List.take x.toNat l) ++ [line35 (rd_T35 l x)]) at HT
      generalize hD : rd_T35 l x = D at hx1 hx2 HT hz
      obtain ⟨p, K⟩ := D
      clear hD
      simp only at hx1 hx2 hz
      have hz1 : (9223372036854775807 < 1 + 1 + p.size) = False := eq_false (by omega)
      have hz2 : (9223372036854775807 < 2 + p.size) = False := eq_false (by omega)
      have hz3 : (9223372036854775807 < 1 + p.size) = False := eq_false (by omega)
      have hp1 := eq_true hx0
      have hp2 := eq_true c2
      have hK : K < 1 ∨ 5 < K ∨ K = 1 ∨ K = 2 ∨ K = 3 ∨ K = 4 ∨ K = 5 := by omega
      rcases hK with hK | hK | rfl | rfl | rfl | rfl | rfl
      · have k1 : decide (1 ≤ K) = false := decide_eq_false (by omega)
        have k2 : decide (K ≥ 1) = false := decide_eq_false (by omega)
        have HLT : Aside0 (line35 ⟨p, K⟩ = ((⟨#[63]⟩ : ByteArray) ++ ⟨#[32]⟩ ++ p)) := ⟨by simp only [line35, letter]; rw [if_neg (by omega), if_neg (by omega), if_neg (by omega), if_neg (by omega), if_neg (by omega)]⟩
        go_wp2_with (first | ((with_reducible refine gate_builtin (b := .append) (xs := #[.tmp 28, .tmp 37]) rfl ?_); at_builtin; refine Kd.R_append Kd.string (w0 := w) w.heap.size ?hg (.tmp 28) (.tmp 37) 40 9 (.string ⟨#[]⟩) 16 ?ho Tryd.underlying40 info9 rfl (by decide) (by omega) u3 ((l.take x.toNat).map line35) ((⟨#[63]⟩ : ByteArray) ++ ⟨#[32]⟩ ++ p) [.string ((⟨#[63]⟩ : ByteArray) ++ ⟨#[32]⟩ ++ p)] (fun _ => True) (fun _ => False) ?hs ?hx ?aP (fun _ hk => hk.elim) (fun _ _ => trivial) ?aO ?aB ?aS ?aL ?_; (case hg => rfl); (case ho => rfl); (case hs => rfl); (case hx => rfl); (case aP => exact rfl); (case aB => exact HBW.out); (case aO => exact HO.out); (case aS => exact HBW.out.size); (case aL => have := HLX.out; omega); intro v9 w9 ho hb hg hat; have HO9 := Aside0.mk ho; have HB9 := Aside0.mk hb; clear ho hb hg hat))
        go_roundw
        case rel => exact ⟨x + 1, by first | rfl | (go_num; done), ⟨by omega⟩, ⟨by rw [HT.out, HLT.out]; exact Kd.R_mono HO9.out (fun _ _ => trivial)⟩, HB9⟩
        case measure => (simp [intOf]; omega)
      · have k1 : decide (1 ≤ K) = true := decide_eq_true (by omega)
        have k0 : decide (K ≥ 1) = true := decide_eq_true (by omega)
        have k2 : decide (K ≤ 5) = false := decide_eq_false (by omega)
        have HLT : Aside0 (line35 ⟨p, K⟩ = ((⟨#[63]⟩ : ByteArray) ++ ⟨#[32]⟩ ++ p)) := ⟨by simp only [line35, letter]; rw [if_neg (by omega), if_neg (by omega), if_neg (by omega), if_neg (by omega), if_neg (by omega)]⟩
        go_wp2_with (first | ((with_reducible refine gate_builtin (b := .append) (xs := #[.tmp 28, .tmp 37]) rfl ?_); at_builtin; refine Kd.R_append Kd.string (w0 := w) w.heap.size ?hg (.tmp 28) (.tmp 37) 40 9 (.string ⟨#[]⟩) 16 ?ho Tryd.underlying40 info9 rfl (by decide) (by omega) u3 ((l.take x.toNat).map line35) ((⟨#[63]⟩ : ByteArray) ++ ⟨#[32]⟩ ++ p) [.string ((⟨#[63]⟩ : ByteArray) ++ ⟨#[32]⟩ ++ p)] (fun _ => True) (fun _ => False) ?hs ?hx ?aP (fun _ hk => hk.elim) (fun _ _ => trivial) ?aO ?aB ?aS ?aL ?_; (case hg => rfl); (case ho => rfl); (case hs => rfl); (case hx => rfl); (case aP => exact rfl); (case aB => exact HBW.out); (case aO => exact HO.out); (case aS => exact HBW.out.size); (case aL => have := HLX.out; omega); intro v9 w9 ho hb hg hat; have HO9 := Aside0.mk ho; have HB9 := Aside0.mk hb; clear ho hb hg hat))
        go_roundw
        case rel => exact ⟨x + 1, by first | rfl | (go_num; done), ⟨by omega⟩, ⟨by rw [HT.out, HLT.out]; exact Kd.R_mono HO9.out (fun _ _ => trivial)⟩, HB9⟩
        case measure => (simp [intOf]; omega)
      · skip
        have HLT : Aside0 (line35 ⟨p, 1⟩ = (((⟨#[43, 45, 77, 84, 85]⟩ : ByteArray).extract 0 1) ++ ⟨#[32]⟩ ++ p)) := ⟨by simp only [line35, letter]; rfl⟩
        go_wp2_with (first | ((with_reducible refine gate_builtin (b := .append) (xs := #[.tmp 28, .tmp 37]) rfl ?_); at_builtin; refine Kd.R_append Kd.string (w0 := w) w.heap.size ?hg (.tmp 28) (.tmp 37) 40 9 (.string ⟨#[]⟩) 16 ?ho Tryd.underlying40 info9 rfl (by decide) (by omega) u3 ((l.take x.toNat).map line35) (((⟨#[43, 45, 77, 84, 85]⟩ : ByteArray).extract 0 1) ++ ⟨#[32]⟩ ++ p) [.string (((⟨#[43, 45, 77, 84, 85]⟩ : ByteArray).extract 0 1) ++ ⟨#[32]⟩ ++ p)] (fun _ => True) (fun _ => False) ?hs ?hx ?aP (fun _ hk => hk.elim) (fun _ _ => trivial) ?aO ?aB ?aS ?aL ?_; (case hg => rfl); (case ho => rfl); (case hs => rfl); (case hx => rfl); (case aP => exact rfl); (case aB => exact HBW.out); (case aO => exact HO.out); (case aS => exact HBW.out.size); (case aL => have := HLX.out; omega); intro v9 w9 ho hb hg hat; have HO9 := Aside0.mk ho; have HB9 := Aside0.mk hb; clear ho hb hg hat))
        go_roundw
        case rel => exact ⟨x + 1, by first | rfl | (go_num; done), ⟨by omega⟩, ⟨by rw [HT.out, HLT.out]; exact Kd.R_mono HO9.out (fun _ _ => trivial)⟩, HB9⟩
        case measure => (simp [intOf]; omega)
      · skip
        have HLT : Aside0 (line35 ⟨p, 2⟩ = (((⟨#[43, 45, 77, 84, 85]⟩ : ByteArray).extract 1 2) ++ ⟨#[32]⟩ ++ p)) := ⟨by simp only [line35, letter]; rfl⟩
        go_wp2_with (first | ((with_reducible refine gate_builtin (b := .append) (xs := #[.tmp 28, .tmp 37]) rfl ?_); at_builtin; refine Kd.R_append Kd.string (w0 := w) w.heap.size ?hg (.tmp 28) (.tmp 37) 40 9 (.string ⟨#[]⟩) 16 ?ho Tryd.underlying40 info9 rfl (by decide) (by omega) u3 ((l.take x.toNat).map line35) (((⟨#[43, 45, 77, 84, 85]⟩ : ByteArray).extract 1 2) ++ ⟨#[32]⟩ ++ p) [.string (((⟨#[43, 45, 77, 84, 85]⟩ : ByteArray).extract 1 2) ++ ⟨#[32]⟩ ++ p)] (fun _ => True) (fun _ => False) ?hs ?hx ?aP (fun _ hk => hk.elim) (fun _ _ => trivial) ?aO ?aB ?aS ?aL ?_; (case hg => rfl); (case ho => rfl); (case hs => rfl); (case hx => rfl); (case aP => exact rfl); (case aB => exact HBW.out); (case aO => exact HO.out); (case aS => exact HBW.out.size); (case aL => have := HLX.out; omega); intro v9 w9 ho hb hg hat; have HO9 := Aside0.mk ho; have HB9 := Aside0.mk hb; clear ho hb hg hat))
        go_roundw
        case rel => exact ⟨x + 1, by first | rfl | (go_num; done), ⟨by omega⟩, ⟨by rw [HT.out, HLT.out]; exact Kd.R_mono HO9.out (fun _ _ => trivial)⟩, HB9⟩
        case measure => (simp [intOf]; omega)
      · skip
        have HLT : Aside0 (line35 ⟨p, 3⟩ = (((⟨#[43, 45, 77, 84, 85]⟩ : ByteArray).extract 2 3) ++ ⟨#[32]⟩ ++ p)) := ⟨by simp only [line35, letter]; rfl⟩
        go_wp2_with (first | ((with_reducible refine gate_builtin (b := .append) (xs := #[.tmp 28, .tmp 37]) rfl ?_); at_builtin; refine Kd.R_append Kd.string (w0 := w) w.heap.size ?hg (.tmp 28) (.tmp 37) 40 9 (.string ⟨#[]⟩) 16 ?ho Tryd.underlying40 info9 rfl (by decide) (by omega) u3 ((l.take x.toNat).map line35) (((⟨#[43, 45, 77, 84, 85]⟩ : ByteArray).extract 2 3) ++ ⟨#[32]⟩ ++ p) [.string (((⟨#[43, 45, 77, 84, 85]⟩ : ByteArray).extract 2 3) ++ ⟨#[32]⟩ ++ p)] (fun _ => True) (fun _ => False) ?hs ?hx ?aP (fun _ hk => hk.elim) (fun _ _ => trivial) ?aO ?aB ?aS ?aL ?_; (case hg => rfl); (case ho => rfl); (case hs => rfl); (case hx => rfl); (case aP => exact rfl); (case aB => exact HBW.out); (case aO => exact HO.out); (case aS => exact HBW.out.size); (case aL => have := HLX.out; omega); intro v9 w9 ho hb hg hat; have HO9 := Aside0.mk ho; have HB9 := Aside0.mk hb; clear ho hb hg hat))
        go_roundw
        case rel => exact ⟨x + 1, by first | rfl | (go_num; done), ⟨by omega⟩, ⟨by rw [HT.out, HLT.out]; exact Kd.R_mono HO9.out (fun _ _ => trivial)⟩, HB9⟩
        case measure => (simp [intOf]; omega)
      · skip
        have HLT : Aside0 (line35 ⟨p, 4⟩ = (((⟨#[43, 45, 77, 84, 85]⟩ : ByteArray).extract 3 4) ++ ⟨#[32]⟩ ++ p)) := ⟨by simp only [line35, letter]; rfl⟩
        go_wp2_with (first | ((with_reducible refine gate_builtin (b := .append) (xs := #[.tmp 28, .tmp 37]) rfl ?_); at_builtin; refine Kd.R_append Kd.string (w0 := w) w.heap.size ?hg (.tmp 28) (.tmp 37) 40 9 (.string ⟨#[]⟩) 16 ?ho Tryd.underlying40 info9 rfl (by decide) (by omega) u3 ((l.take x.toNat).map line35) (((⟨#[43, 45, 77, 84, 85]⟩ : ByteArray).extract 3 4) ++ ⟨#[32]⟩ ++ p) [.string (((⟨#[43, 45, 77, 84, 85]⟩ : ByteArray).extract 3 4) ++ ⟨#[32]⟩ ++ p)] (fun _ => True) (fun _ => False) ?hs ?hx ?aP (fun _ hk => hk.elim) (fun _ _ => trivial) ?aO ?aB ?aS ?aL ?_; (case hg => rfl); (case ho => rfl); (case hs => rfl); (case hx => rfl); (case aP => exact rfl); (case aB => exact HBW.out); (case aO => exact HO.out); (case aS => exact HBW.out.size); (case aL => have := HLX.out; omega); intro v9 w9 ho hb hg hat; have HO9 := Aside0.mk ho; have HB9 := Aside0.mk hb; clear ho hb hg hat))
        go_roundw
        case rel => exact ⟨x + 1, by first | rfl | (go_num; done), ⟨by omega⟩, ⟨by rw [HT.out, HLT.out]; exact Kd.R_mono HO9.out (fun _ _ => trivial)⟩, HB9⟩
        case measure => (simp [intOf]; omega)
      · skip
        have HLT : Aside0 (line35 ⟨p, 5⟩ = (((⟨#[43, 45, 77, 84, 85]⟩ : ByteArray).extract 4 5) ++ ⟨#[32]⟩ ++ p)) := ⟨by simp only [line35, letter]; rfl⟩
        go_wp2_with (first | ((with_reducible refine gate_builtin (b := .append) (xs := #[.tmp 28, .tmp 37]) rfl ?_); at_builtin; refine Kd.R_append Kd.string (w0 := w) w.heap.size ?hg (.tmp 28) (.tmp 37) 40 9 (.string ⟨#[]⟩) 16 ?ho Tryd.underlying40 info9 rfl (by decide) (by omega) u3 ((l.take x.toNat).map line35) (((⟨#[43, 45, 77, 84, 85]⟩ : ByteArray).extract 4 5) ++ ⟨#[32]⟩ ++ p) [.string (((⟨#[43, 45, 77, 84, 85]⟩ : ByteArray).extract 4 5) ++ ⟨#[32]⟩ ++ p)] (fun _ => True) (fun _ => False) ?hs ?hx ?aP (fun _ hk => hk.elim) (fun _ _ => trivial) ?aO ?aB ?aS ?aL ?_; (case hg => rfl); (case ho => rfl); (case hs => rfl); (case hx => rfl); (case aP => exact rfl); (case aB => exact HBW.out); (case aO => exact HO.out); (case aS => exact HBW.out.size); (case aL => have := HLX.out; omega); intro v9 w9 ho hb hg hat; have HO9 := Aside0.mk ho; have HB9 := Aside0.mk hb; clear ho hb hg hat))
        go_roundw
        case rel => exact ⟨x + 1, by first | rfl | (go_num; done), ⟨by omega⟩, ⟨by rw [HT.out, HLT.out]; exact Kd.R_mono HO9.out (fun _ _ => trivial)⟩, HB9⟩
        case measure => (simp [intOf]; omega)
    · have hxl : x = l.length := by have := HX.out; omega
      subst hxl
      go_wp2
      go_ret
      exact ⟨_, rfl, by have h := HO.out; simpa using h, HBW.out⟩
end Go.Proofs.YtkbofkpkemfedaaDoor.Q
