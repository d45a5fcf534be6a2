/- The law VaultConfigs, walked over the contracts; every input. -/
import Derived.Test.YtnhfkbmnglbbmaaQx7
import Derived.Test.YtnhfkbmnglbbmaaQx13
import Derived.Test.YtnhfkbmnglbbmaaQx14
import Derived.Test.YtnhfkbmnglbbmaaQx30
import Derived.Test.YtnhfkbmnglbbmaaHDecode
import Derived.Test.YtnhfkbmnglbbmaaPureVaultConfigs
import Derived.Deep.RegionHeld3
import Derived.Test.YtnhfkbmnglbbmaaRows
import Derived.ProofKit
import Derived.OpenShut
import Derived.ShutString
import Derived.ChangeOld
import Derived.SizedLaws
import Derived.Lib.SmallJoins
import Derived.Deep.Strs
namespace Go.Proofs.Ytnhfkbmnglbbmaa.Q
open Go.RowKit Go.Proofs.YtnhfkbmnglbbmaaW.PrintWords Go.Proofs.YtnhfkbmnglbbmaaW.PrintLast Go.Proofs.YtnhfkbmnglbbmaaW.PrintMore
attribute [local go_sem] max2_int min2_int max_two min_two max_three min_three max_four min_four
theorem law_keep {w W w' : World} {b gx gy : Nat} {c0 c1 c2 c3 c4 c5 y0 y1 y2 y3 y4 y5 : Int} (hb : Below W.heap.size W w') (h : W.cell? ⟨b, 0, none⟩ = some (.int .i64 c0) ∧ W.cell? ⟨b, 1, none⟩ = some (.int .i64 c1) ∧ W.cell? ⟨b, 2, none⟩ = some (.int .i64 c2) ∧ W.cell? ⟨b, 3, none⟩ = some (.int .i64 c3) ∧ W.cell? ⟨b, 4, none⟩ = some (.int .i64 c4) ∧ W.cell? ⟨b, 5, none⟩ = some (.int .i64 c5) ∧ W.cell? ⟨gx, 0, none⟩ = some (.int .i64 y0) ∧ W.cell? ⟨gx, 1, none⟩ = some (.int .i64 y1) ∧ W.cell? ⟨gx, 2, none⟩ = some (.int .i64 y2) ∧ W.cell? ⟨gx, 3, none⟩ = some (.int .i64 y3) ∧ W.cell? ⟨gx, 4, none⟩ = some (.int .i64 y4) ∧ W.cell? ⟨gx, 5, none⟩ = some (.int .i64 y5) ∧ W.cell? ⟨gy, 0, none⟩ = some (.int .i64 y0) ∧ W.cell? ⟨gy, 1, none⟩ = some (.int .i64 y1) ∧ W.cell? ⟨gy, 2, none⟩ = some (.int .i64 y2) ∧ W.cell? ⟨gy, 3, none⟩ = some (.int .i64 y3) ∧ W.cell? ⟨gy, 4, none⟩ = some (.int .i64 y4) ∧ W.cell? ⟨gy, 5, none⟩ = some (.int .i64 y5) ∧ Below w.heap.size w W ∧ W.heap[b]? = some (.cells #[.int .i64 c0, .int .i64 c1, .int .i64 c2, .int .i64 c3, .int .i64 c4, .int .i64 c5] 25 (0, 0)) ∧ W.heap[gx]? = some (.cells #[.int .i64 y0, .int .i64 y1, .int .i64 y2, .int .i64 y3, .int .i64 y4, .int .i64 y5] 25 (0, 0)) ∧ W.heap[gy]? = some (.cells #[.int .i64 y0, .int .i64 y1, .int .i64 y2, .int .i64 y3, .int .i64 y4, .int .i64 y5] 33 (0, 0))) : w'.cell? ⟨b, 0, none⟩ = some (.int .i64 c0) ∧ w'.cell? ⟨b, 1, none⟩ = some (.int .i64 c1) ∧ w'.cell? ⟨b, 2, none⟩ = some (.int .i64 c2) ∧ w'.cell? ⟨b, 3, none⟩ = some (.int .i64 c3) ∧ w'.cell? ⟨b, 4, none⟩ = some (.int .i64 c4) ∧ w'.cell? ⟨b, 5, none⟩ = some (.int .i64 c5) ∧ w'.cell? ⟨gx, 0, none⟩ = some (.int .i64 y0) ∧ w'.cell? ⟨gx, 1, none⟩ = some (.int .i64 y1) ∧ w'.cell? ⟨gx, 2, none⟩ = some (.int .i64 y2) ∧ w'.cell? ⟨gx, 3, none⟩ = some (.int .i64 y3) ∧ w'.cell? ⟨gx, 4, none⟩ = some (.int .i64 y4) ∧ w'.cell? ⟨gx, 5, none⟩ = some (.int .i64 y5) ∧ w'.cell? ⟨gy, 0, none⟩ = some (.int .i64 y0) ∧ w'.cell? ⟨gy, 1, none⟩ = some (.int .i64 y1) ∧ w'.cell? ⟨gy, 2, none⟩ = some (.int .i64 y2) ∧ w'.cell? ⟨gy, 3, none⟩ = some (.int .i64 y3) ∧ w'.cell? ⟨gy, 4, none⟩ = some (.int .i64 y4) ∧ w'.cell? ⟨gy, 5, none⟩ = some (.int .i64 y5) ∧ Below w.heap.size w w' ∧ w'.heap[b]? = some (.cells #[.int .i64 c0, .int .i64 c1, .int .i64 c2, .int .i64 c3, .int .i64 c4, .int .i64 c5] 25 (0, 0)) ∧ w'.heap[gx]? = some (.cells #[.int .i64 y0, .int .i64 y1, .int .i64 y2, .int .i64 y3, .int .i64 y4, .int .i64 y5] 25 (0, 0)) ∧ w'.heap[gy]? = some (.cells #[.int .i64 y0, .int .i64 y1, .int .i64 y2, .int .i64 y3, .int .i64 y4, .int .i64 y5] 33 (0, 0)) := by
  obtain ⟨_, _, _, _, _, _, _, _, _, _, _, _, _, _, _, _, _, _, h1, h2, h3, h4⟩ := h
  have k2 := blk_below h2 hb
  have k3 := blk_below h3 hb
  have k4 := blk_below h4 hb
  exact ⟨(blk_cell k2 0).trans rfl, (blk_cell k2 1).trans rfl, (blk_cell k2 2).trans rfl, (blk_cell k2 3).trans rfl, (blk_cell k2 4).trans rfl, (blk_cell k2 5).trans rfl, (blk_cell k3 0).trans rfl, (blk_cell k3 1).trans rfl, (blk_cell k3 2).trans rfl, (blk_cell k3 3).trans rfl, (blk_cell k3 4).trans rfl, (blk_cell k3 5).trans rfl, (blk_cell k4 0).trans rfl, (blk_cell k4 1).trans rfl, (blk_cell k4 2).trans rfl, (blk_cell k4 3).trans rfl, (blk_cell k4 4).trans rfl, (blk_cell k4 5).trans rfl, below_step h1 hb, k2, k3, k4⟩
theorem law_below {w W : World} {b gx gy : Nat} {c0 c1 c2 c3 c4 c5 y0 y1 y2 y3 y4 y5 : Int} (h : W.cell? ⟨b, 0, none⟩ = some (.int .i64 c0) ∧ W.cell? ⟨b, 1, none⟩ = some (.int .i64 c1) ∧ W.cell? ⟨b, 2, none⟩ = some (.int .i64 c2) ∧ W.cell? ⟨b, 3, none⟩ = some (.int .i64 c3) ∧ W.cell? ⟨b, 4, none⟩ = some (.int .i64 c4) ∧ W.cell? ⟨b, 5, none⟩ = some (.int .i64 c5) ∧ W.cell? ⟨gx, 0, none⟩ = some (.int .i64 y0) ∧ W.cell? ⟨gx, 1, none⟩ = some (.int .i64 y1) ∧ W.cell? ⟨gx, 2, none⟩ = some (.int .i64 y2) ∧ W.cell? ⟨gx, 3, none⟩ = some (.int .i64 y3) ∧ W.cell? ⟨gx, 4, none⟩ = some (.int .i64 y4) ∧ W.cell? ⟨gx, 5, none⟩ = some (.int .i64 y5) ∧ W.cell? ⟨gy, 0, none⟩ = some (.int .i64 y0) ∧ W.cell? ⟨gy, 1, none⟩ = some (.int .i64 y1) ∧ W.cell? ⟨gy, 2, none⟩ = some (.int .i64 y2) ∧ W.cell? ⟨gy, 3, none⟩ = some (.int .i64 y3) ∧ W.cell? ⟨gy, 4, none⟩ = some (.int .i64 y4) ∧ W.cell? ⟨gy, 5, none⟩ = some (.int .i64 y5) ∧ Below w.heap.size w W ∧ W.heap[b]? = some (.cells #[.int .i64 c0, .int .i64 c1, .int .i64 c2, .int .i64 c3, .int .i64 c4, .int .i64 c5] 25 (0, 0)) ∧ W.heap[gx]? = some (.cells #[.int .i64 y0, .int .i64 y1, .int .i64 y2, .int .i64 y3, .int .i64 y4, .int .i64 y5] 25 (0, 0)) ∧ W.heap[gy]? = some (.cells #[.int .i64 y0, .int .i64 y1, .int .i64 y2, .int .i64 y3, .int .i64 y4, .int .i64 y5] 33 (0, 0))) : Below w.heap.size w W := by
  obtain ⟨_, _, _, _, _, _, _, _, _, _, _, _, _, _, _, _, _, _, h1, _⟩ := h
  exact h1
theorem law_drew {w W : World} {b gx gy : Nat} {c0 c1 c2 c3 c4 c5 y0 y1 y2 y3 y4 y5 : Int} (h : W.cell? ⟨b, 0, none⟩ = some (.int .i64 c0) ∧ W.cell? ⟨b, 1, none⟩ = some (.int .i64 c1) ∧ W.cell? ⟨b, 2, none⟩ = some (.int .i64 c2) ∧ W.cell? ⟨b, 3, none⟩ = some (.int .i64 c3) ∧ W.cell? ⟨b, 4, none⟩ = some (.int .i64 c4) ∧ W.cell? ⟨b, 5, none⟩ = some (.int .i64 c5) ∧ W.cell? ⟨gx, 0, none⟩ = some (.int .i64 y0) ∧ W.cell? ⟨gx, 1, none⟩ = some (.int .i64 y1) ∧ W.cell? ⟨gx, 2, none⟩ = some (.int .i64 y2) ∧ W.cell? ⟨gx, 3, none⟩ = some (.int .i64 y3) ∧ W.cell? ⟨gx, 4, none⟩ = some (.int .i64 y4) ∧ W.cell? ⟨gx, 5, none⟩ = some (.int .i64 y5) ∧ W.cell? ⟨gy, 0, none⟩ = some (.int .i64 y0) ∧ W.cell? ⟨gy, 1, none⟩ = some (.int .i64 y1) ∧ W.cell? ⟨gy, 2, none⟩ = some (.int .i64 y2) ∧ W.cell? ⟨gy, 3, none⟩ = some (.int .i64 y3) ∧ W.cell? ⟨gy, 4, none⟩ = some (.int .i64 y4) ∧ W.cell? ⟨gy, 5, none⟩ = some (.int .i64 y5) ∧ Below w.heap.size w W ∧ W.heap[b]? = some (.cells #[.int .i64 c0, .int .i64 c1, .int .i64 c2, .int .i64 c3, .int .i64 c4, .int .i64 c5] 25 (0, 0)) ∧ W.heap[gx]? = some (.cells #[.int .i64 y0, .int .i64 y1, .int .i64 y2, .int .i64 y3, .int .i64 y4, .int .i64 y5] 25 (0, 0)) ∧ W.heap[gy]? = some (.cells #[.int .i64 y0, .int .i64 y1, .int .i64 y2, .int .i64 y3, .int .i64 y4, .int .i64 y5] 33 (0, 0))) : W.drew.cell? ⟨b, 0, none⟩ = some (.int .i64 c0) ∧ W.drew.cell? ⟨b, 1, none⟩ = some (.int .i64 c1) ∧ W.drew.cell? ⟨b, 2, none⟩ = some (.int .i64 c2) ∧ W.drew.cell? ⟨b, 3, none⟩ = some (.int .i64 c3) ∧ W.drew.cell? ⟨b, 4, none⟩ = some (.int .i64 c4) ∧ W.drew.cell? ⟨b, 5, none⟩ = some (.int .i64 c5) ∧ W.drew.cell? ⟨gx, 0, none⟩ = some (.int .i64 y0) ∧ W.drew.cell? ⟨gx, 1, none⟩ = some (.int .i64 y1) ∧ W.drew.cell? ⟨gx, 2, none⟩ = some (.int .i64 y2) ∧ W.drew.cell? ⟨gx, 3, none⟩ = some (.int .i64 y3) ∧ W.drew.cell? ⟨gx, 4, none⟩ = some (.int .i64 y4) ∧ W.drew.cell? ⟨gx, 5, none⟩ = some (.int .i64 y5) ∧ W.drew.cell? ⟨gy, 0, none⟩ = some (.int .i64 y0) ∧ W.drew.cell? ⟨gy, 1, none⟩ = some (.int .i64 y1) ∧ W.drew.cell? ⟨gy, 2, none⟩ = some (.int .i64 y2) ∧ W.drew.cell? ⟨gy, 3, none⟩ = some (.int .i64 y3) ∧ W.drew.cell? ⟨gy, 4, none⟩ = some (.int .i64 y4) ∧ W.drew.cell? ⟨gy, 5, none⟩ = some (.int .i64 y5) ∧ Below w.heap.size w W.drew ∧ W.drew.heap[b]? = some (.cells #[.int .i64 c0, .int .i64 c1, .int .i64 c2, .int .i64 c3, .int .i64 c4, .int .i64 c5] 25 (0, 0)) ∧ W.drew.heap[gx]? = some (.cells #[.int .i64 y0, .int .i64 y1, .int .i64 y2, .int .i64 y3, .int .i64 y4, .int .i64 y5] 25 (0, 0)) ∧ W.drew.heap[gy]? = some (.cells #[.int .i64 y0, .int .i64 y1, .int .i64 y2, .int .i64 y3, .int .i64 y4, .int .i64 y5] 33 (0, 0)) := law_keep (below_drew1 (Below.refl _ _)) h
set_option maxHeartbeats 4000000 in
set_option maxRecDepth 100000 in
theorem law_short (c0 c1 c2 c3 c4 c5 : Int) (s : ByteArray) (w : World) (hs : s.size ≤ 10000) :
    Calls Try.prog 3 #[.agg #[.int .i64 c0, .int .i64 c1, .int .i64 c2, .int .i64 c3, .int .i64 c4, .int .i64 c5], .string s] w fun e w' => e = .returned (.bool true) ∧ Below w.heap.size w w' := by
  obtain ⟨⟨t, e⟩, hE, hF⟩ := Pure.encode_same c0 c1 c2 c3 c4 c5
  obtain ⟨⟨y0, y1, y2, y3, y4, y5, g⟩, hD, hG⟩ := Pure.decode_same s hs
  obtain ⟨k, hK, hL⟩ := Pure.check_same c0 c1 c2 c3 c4 c5
  have hW := Pure.works_true
  have hof : garretlaw24_of.f c0 c1 c2 c3 c4 c5 = some (c0, c1, c2, c3, c4, c5) := rfl
  have hofy : garretlaw24_of.f y0 y1 y2 y3 y4 y5 = some (y0, y1, y2, y3, y4, y5) := rfl
  have HE := Aside0.mk hE
  have HF := Aside0.mk hF
  have HD := Aside0.mk hD
  have HG := Aside0.mk hG
  have HK := Aside0.mk hK
  have HL := Aside0.mk hL
  have HW := Aside0.mk hW
  have HO := Aside0.mk hof
  have HY := Aside0.mk hofy
  clear hE hF hD hG hK hL hW hof hofy
  have HB := Aside0.mk (Below.refl w.heap.size w)
  have hu25 := Try.underlying25
  have hu33 := Try.underlying33
  have d1 : decide ((s.size : Int) > 10000) = false := decide_eq_false (by omega)
  have d2 : decide (10000 < s.size) = false := decide_eq_false (by omega)
  go_enter Try.func3, Try.ntmps3
  go_upto_region 3 with (first | ((with_reducible refine gate_dst (N := 2) rfl ?_); refine box_event ?hg (N := 2) ?hd (cs := #[.int .i64 c0, .int .i64 c1, .int .i64 c2, .int .i64 c3, .int .i64 c4, .int .i64 c5]) (t := 25) ?hr ?_; (case hd => rfl); (case hg => rfl); (case hr => first | (go_simp; done) | (go_simp; rfl)); intro b hg w0 hbox hb; have n0_ := Aside0.mk (below_step HB.out hb); have BK := Aside0.mk hbox; clear HB; have HB := n0_; clear n0_ hbox hb hg; have hcb_0 : World.cell? w0 ⟨b, 0, none⟩ = some (.int .i64 c0) := (blk_cell BK.out 0).trans rfl; have hfb_0 := blk_frozen BK.out 0; have hcb_1 : World.cell? w0 ⟨b, 1, none⟩ = some (.int .i64 c1) := (blk_cell BK.out 1).trans rfl; have hfb_1 := blk_frozen BK.out 1; have hcb_2 : World.cell? w0 ⟨b, 2, none⟩ = some (.int .i64 c2) := (blk_cell BK.out 2).trans rfl; have hfb_2 := blk_frozen BK.out 2; have hcb_3 : World.cell? w0 ⟨b, 3, none⟩ = some (.int .i64 c3) := (blk_cell BK.out 3).trans rfl; have hfb_3 := blk_frozen BK.out 3; have hcb_4 : World.cell? w0 ⟨b, 4, none⟩ = some (.int .i64 c4) := (blk_cell BK.out 4).trans rfl; have hfb_4 := blk_frozen BK.out 4; have hcb_5 : World.cell? w0 ⟨b, 5, none⟩ = some (.int .i64 c5) := (blk_cell BK.out 5).trans rfl; have hfb_5 := blk_frozen BK.out 5))
  go_upto_region 4 with (go_at_call 5; refine (vault_Encode.calls 9 c0 c1 c2 c3 c4 c5 t e _ HE.out).mono ?_; rintro _ w1 ⟨rfl, hb⟩; have BK1 := Aside0.mk (blk_below BK.out hb); have HB1 := Aside0.mk (below_step HB.out hb); clear hb; have hcb1_0 : World.cell? w1 ⟨b, 0, none⟩ = some (.int .i64 c0) := (blk_cell BK1.out 0).trans rfl; have hfb1_0 := blk_frozen BK1.out 0; have hcb1_1 : World.cell? w1 ⟨b, 1, none⟩ = some (.int .i64 c1) := (blk_cell BK1.out 1).trans rfl; have hfb1_1 := blk_frozen BK1.out 1; have hcb1_2 : World.cell? w1 ⟨b, 2, none⟩ = some (.int .i64 c2) := (blk_cell BK1.out 2).trans rfl; have hfb1_2 := blk_frozen BK1.out 2; have hcb1_3 : World.cell? w1 ⟨b, 3, none⟩ = some (.int .i64 c3) := (blk_cell BK1.out 3).trans rfl; have hfb1_3 := blk_frozen BK1.out 3; have hcb1_4 : World.cell? w1 ⟨b, 4, none⟩ = some (.int .i64 c4) := (blk_cell BK1.out 4).trans rfl; have hfb1_4 := blk_frozen BK1.out 4; have hcb1_5 : World.cell? w1 ⟨b, 5, none⟩ = some (.int .i64 c5) := (blk_cell BK1.out 5).trans rfl; have hfb1_5 := blk_frozen BK1.out 5)
  go_upto_region 5 with (first
    | (go_at_call 7; refine (garretlaw24_of.calls c0 c1 c2 c3 c4 c5 c0 c1 c2 c3 c4 c5 _ HO.out).mono ?_; rintro _ w2 ⟨rfl, hb⟩; have BK2 := Aside0.mk (blk_below BK1.out hb); have HB2 := Aside0.mk (below_step HB1.out hb); clear hb)
    | (go_at_call 6; refine (garretref24_Encode.calls 4 c0 c1 c2 c3 c4 c5 t e _ HF.out).mono ?_; rintro _ w3 ⟨rfl, hb⟩; have BK3 := Aside0.mk (blk_below BK2.out hb); have HB3 := Aside0.mk (below_step HB2.out hb); clear hb))
  go_upto_region 6 with (first
    | (go_at_call 8; refine (vault_Decode.calls 10 s y0 y1 y2 y3 y4 y5 g _ HD.out).mono ?_; rintro _ w4 ⟨rfl, hb⟩; have BK4 := Aside0.mk (blk_below BK3.out hb); have HB4 := Aside0.mk (below_step HB3.out hb); clear hb)
    | ((with_reducible refine gate_dst (N := 9) rfl ?_); refine box_event ?hg (N := 9) ?hd (cs := #[.int .i64 0, .int .i64 0, .int .i64 0, .int .i64 0, .int .i64 0, .int .i64 0]) (t := 25) ?hr ?_; (case hd => rfl); (case hg => rfl); (case hr => first | (go_simp; done) | (go_simp; rfl)); intro gx hg w5 hbox hb; have hsz := HB4.out.size; have HB5 := Aside0.mk (below_step HB4.out hb); have BK5 := Aside0.mk (blk_below BK4.out hb); have BX5 := Aside0.mk hbox; have GX : Aside0 (w.heap.size ≤ gx) := ⟨by omega⟩; have hl_ := blk_lt BK4.out; have NBX : Aside0 (b ≠ gx) := ⟨by omega⟩; clear hl_; clear hbox hb hg hsz; have hczgx_0 : World.cell? w5 ⟨gx, 0, none⟩ = some (.int .i64 0) := (blk_cell BX5.out 0).trans rfl; have hfzgx_0 := blk_frozen BX5.out 0; have hczgx_1 : World.cell? w5 ⟨gx, 1, none⟩ = some (.int .i64 0) := (blk_cell BX5.out 1).trans rfl; have hfzgx_1 := blk_frozen BX5.out 1; have hczgx_2 : World.cell? w5 ⟨gx, 2, none⟩ = some (.int .i64 0) := (blk_cell BX5.out 2).trans rfl; have hfzgx_2 := blk_frozen BX5.out 2; have hczgx_3 : World.cell? w5 ⟨gx, 3, none⟩ = some (.int .i64 0) := (blk_cell BX5.out 3).trans rfl; have hfzgx_3 := blk_frozen BX5.out 3; have hczgx_4 : World.cell? w5 ⟨gx, 4, none⟩ = some (.int .i64 0) := (blk_cell BX5.out 4).trans rfl; have hfzgx_4 := blk_frozen BX5.out 4; have hczgx_5 : World.cell? w5 ⟨gx, 5, none⟩ = some (.int .i64 0) := (blk_cell BX5.out 5).trans rfl; have hfzgx_5 := blk_frozen BX5.out 5))
  obtain ⟨w6, hw6⟩ : ∃ w6, w6 = ((((((w5).setCell ⟨gx, 0, none⟩ (.int .i64 y0)).setCell ⟨gx, 1, none⟩ (.int .i64 y1)).setCell ⟨gx, 2, none⟩ (.int .i64 y2)).setCell ⟨gx, 3, none⟩ (.int .i64 y3)).setCell ⟨gx, 4, none⟩ (.int .i64 y4)).setCell ⟨gx, 5, none⟩ (.int .i64 y5) := ⟨_, rfl⟩
  have HB6 : Aside0 (Below w.heap.size w w6) := ⟨by rw [hw6]; refine below_set ?_ GX.out; refine below_set ?_ GX.out; refine below_set ?_ GX.out; refine below_set ?_ GX.out; refine below_set ?_ GX.out; refine below_set ?_ GX.out; exact HB5.out⟩
  have BK6 : Aside0 (w6.heap[b]? = some (.cells #[.int .i64 c0, .int .i64 c1, .int .i64 c2, .int .i64 c3, .int .i64 c4, .int .i64 c5] 25 (0, 0))) := ⟨by rw [hw6]; refine blk_far ?_ NBX.out; refine blk_far ?_ NBX.out; refine blk_far ?_ NBX.out; refine blk_far ?_ NBX.out; refine blk_far ?_ NBX.out; refine blk_far ?_ NBX.out; exact BK5.out⟩
  have BX6 : Aside0 (w6.heap[gx]? = some (.cells #[.int .i64 y0, .int .i64 y1, .int .i64 y2, .int .i64 y3, .int .i64 y4, .int .i64 y5] 25 (0, 0))) := ⟨by rw [hw6]; refine blk_put (cs := #[.int .i64 y0, .int .i64 y1, .int .i64 y2, .int .i64 y3, .int .i64 y4, .int .i64 0]) ?_ 5 _ rfl; refine blk_put (cs := #[.int .i64 y0, .int .i64 y1, .int .i64 y2, .int .i64 y3, .int .i64 0, .int .i64 0]) ?_ 4 _ rfl; refine blk_put (cs := #[.int .i64 y0, .int .i64 y1, .int .i64 y2, .int .i64 0, .int .i64 0, .int .i64 0]) ?_ 3 _ rfl; refine blk_put (cs := #[.int .i64 y0, .int .i64 y1, .int .i64 0, .int .i64 0, .int .i64 0, .int .i64 0]) ?_ 2 _ rfl; refine blk_put (cs := #[.int .i64 y0, .int .i64 0, .int .i64 0, .int .i64 0, .int .i64 0, .int .i64 0]) ?_ 1 _ rfl; refine blk_put (cs := #[.int .i64 0, .int .i64 0, .int .i64 0, .int .i64 0, .int .i64 0, .int .i64 0]) ?_ 0 _ rfl; exact BX5.out⟩
  rw [← hw6]
  clear hw6 hczgx_0 hfzgx_0 hczgx_1 hfzgx_1 hczgx_2 hfzgx_2 hczgx_3 hfzgx_3 hczgx_4 hfzgx_4 hczgx_5 hfzgx_5
  go_upto_region 7 with (first
    | (go_at_call 9; refine (garretref24_Decode.calls 12 s y0 y1 y2 y3 y4 y5 g _ HG.out).mono ?_; rintro _ w7 ⟨rfl, hb⟩; have BK7 := Aside0.mk (blk_below BK6.out hb); have BX7 := Aside0.mk (blk_below BX6.out hb); have HB7 := Aside0.mk (below_step HB6.out hb); clear hb)
    | ((with_reducible refine gate_dst (N := 11) rfl ?_); refine box_event ?hg (N := 11) ?hd (cs := #[.int .i64 0, .int .i64 0, .int .i64 0, .int .i64 0, .int .i64 0, .int .i64 0]) (t := 33) ?hr ?_; (case hd => rfl); (case hg => rfl); (case hr => first | (go_simp; done) | (go_simp; rfl)); intro gy hg w8 hbox hb; have hsz := HB7.out.size; have HB8 := Aside0.mk (below_step HB7.out hb); have BK8 := Aside0.mk (blk_below BK7.out hb); have BX8 := Aside0.mk (blk_below BX7.out hb); have BY8 := Aside0.mk hbox; have GY : Aside0 (w.heap.size ≤ gy) := ⟨by omega⟩; have hl_ := blk_lt BK7.out; have NBY : Aside0 (b ≠ gy) := ⟨by omega⟩; clear hl_; have hl_ := blk_lt BX7.out; have NXY : Aside0 (gx ≠ gy) := ⟨by omega⟩; clear hl_; clear hbox hb hg hsz; have hczgy_0 : World.cell? w8 ⟨gy, 0, none⟩ = some (.int .i64 0) := (blk_cell BY8.out 0).trans rfl; have hfzgy_0 := blk_frozen BY8.out 0; have hczgy_1 : World.cell? w8 ⟨gy, 1, none⟩ = some (.int .i64 0) := (blk_cell BY8.out 1).trans rfl; have hfzgy_1 := blk_frozen BY8.out 1; have hczgy_2 : World.cell? w8 ⟨gy, 2, none⟩ = some (.int .i64 0) := (blk_cell BY8.out 2).trans rfl; have hfzgy_2 := blk_frozen BY8.out 2; have hczgy_3 : World.cell? w8 ⟨gy, 3, none⟩ = some (.int .i64 0) := (blk_cell BY8.out 3).trans rfl; have hfzgy_3 := blk_frozen BY8.out 3; have hczgy_4 : World.cell? w8 ⟨gy, 4, none⟩ = some (.int .i64 0) := (blk_cell BY8.out 4).trans rfl; have hfzgy_4 := blk_frozen BY8.out 4; have hczgy_5 : World.cell? w8 ⟨gy, 5, none⟩ = some (.int .i64 0) := (blk_cell BY8.out 5).trans rfl; have hfzgy_5 := blk_frozen BY8.out 5))
  obtain ⟨w9, hw9⟩ : ∃ w9, w9 = ((((((w8).setCell ⟨gy, 0, none⟩ (.int .i64 y0)).setCell ⟨gy, 1, none⟩ (.int .i64 y1)).setCell ⟨gy, 2, none⟩ (.int .i64 y2)).setCell ⟨gy, 3, none⟩ (.int .i64 y3)).setCell ⟨gy, 4, none⟩ (.int .i64 y4)).setCell ⟨gy, 5, none⟩ (.int .i64 y5) := ⟨_, rfl⟩
  have HB9 : Aside0 (Below w.heap.size w w9) := ⟨by rw [hw9]; refine below_set ?_ GY.out; refine below_set ?_ GY.out; refine below_set ?_ GY.out; refine below_set ?_ GY.out; refine below_set ?_ GY.out; refine below_set ?_ GY.out; exact HB8.out⟩
  have BK9 : Aside0 (w9.heap[b]? = some (.cells #[.int .i64 c0, .int .i64 c1, .int .i64 c2, .int .i64 c3, .int .i64 c4, .int .i64 c5] 25 (0, 0))) := ⟨by rw [hw9]; refine blk_far ?_ NBY.out; refine blk_far ?_ NBY.out; refine blk_far ?_ NBY.out; refine blk_far ?_ NBY.out; refine blk_far ?_ NBY.out; refine blk_far ?_ NBY.out; exact BK8.out⟩
  have BX9 : Aside0 (w9.heap[gx]? = some (.cells #[.int .i64 y0, .int .i64 y1, .int .i64 y2, .int .i64 y3, .int .i64 y4, .int .i64 y5] 25 (0, 0))) := ⟨by rw [hw9]; refine blk_far ?_ NXY.out; refine blk_far ?_ NXY.out; refine blk_far ?_ NXY.out; refine blk_far ?_ NXY.out; refine blk_far ?_ NXY.out; refine blk_far ?_ NXY.out; exact BX8.out⟩
  have BY9 : Aside0 (w9.heap[gy]? = some (.cells #[.int .i64 y0, .int .i64 y1, .int .i64 y2, .int .i64 y3, .int .i64 y4, .int .i64 y5] 33 (0, 0))) := ⟨by rw [hw9]; refine blk_put (cs := #[.int .i64 y0, .int .i64 y1, .int .i64 y2, .int .i64 y3, .int .i64 y4, .int .i64 0]) ?_ 5 _ rfl; refine blk_put (cs := #[.int .i64 y0, .int .i64 y1, .int .i64 y2, .int .i64 y3, .int .i64 0, .int .i64 0]) ?_ 4 _ rfl; refine blk_put (cs := #[.int .i64 y0, .int .i64 y1, .int .i64 y2, .int .i64 0, .int .i64 0, .int .i64 0]) ?_ 3 _ rfl; refine blk_put (cs := #[.int .i64 y0, .int .i64 y1, .int .i64 0, .int .i64 0, .int .i64 0, .int .i64 0]) ?_ 2 _ rfl; refine blk_put (cs := #[.int .i64 y0, .int .i64 0, .int .i64 0, .int .i64 0, .int .i64 0, .int .i64 0]) ?_ 1 _ rfl; refine blk_put (cs := #[.int .i64 0, .int .i64 0, .int .i64 0, .int .i64 0, .int .i64 0, .int .i64 0]) ?_ 0 _ rfl; exact BY8.out⟩
  rw [← hw9]
  clear hw9 hczgy_0 hfzgy_0 hczgy_1 hfzgy_1 hczgy_2 hfzgy_2 hczgy_3 hfzgy_3 hczgy_4 hfzgy_4 hczgy_5 hfzgy_5
  clear BK BK1 BK2 BK3 BK4 BK5 BK7 BK8 BX5 BX7 BX8 BY8 HB HB1 HB2 HB3 HB4 HB5 HB7 HB8 GX GY NBX NBY NXY HE HF HD HG d1 d2 BK6 BX6 HB6
  clear hcb_0 hfb_0 hcb1_0 hfb1_0 hcb_1 hfb_1 hcb1_1 hfb1_1 hcb_2 hfb_2 hcb1_2 hfb1_2 hcb_3 hfb_3 hcb1_3 hfb1_3 hcb_4 hfb_4 hcb1_4 hfb1_4 hcb_5 hfb_5 hcb1_5 hfb1_5
  have hSS : w9.cell? ⟨b, 0, none⟩ = some (.int .i64 c0) ∧ w9.cell? ⟨b, 1, none⟩ = some (.int .i64 c1) ∧ w9.cell? ⟨b, 2, none⟩ = some (.int .i64 c2) ∧ w9.cell? ⟨b, 3, none⟩ = some (.int .i64 c3) ∧ w9.cell? ⟨b, 4, none⟩ = some (.int .i64 c4) ∧ w9.cell? ⟨b, 5, none⟩ = some (.int .i64 c5) ∧ w9.cell? ⟨gx, 0, none⟩ = some (.int .i64 y0) ∧ w9.cell? ⟨gx, 1, none⟩ = some (.int .i64 y1) ∧ w9.cell? ⟨gx, 2, none⟩ = some (.int .i64 y2) ∧ w9.cell? ⟨gx, 3, none⟩ = some (.int .i64 y3) ∧ w9.cell? ⟨gx, 4, none⟩ = some (.int .i64 y4) ∧ w9.cell? ⟨gx, 5, none⟩ = some (.int .i64 y5) ∧ w9.cell? ⟨gy, 0, none⟩ = some (.int .i64 y0) ∧ w9.cell? ⟨gy, 1, none⟩ = some (.int .i64 y1) ∧ w9.cell? ⟨gy, 2, none⟩ = some (.int .i64 y2) ∧ w9.cell? ⟨gy, 3, none⟩ = some (.int .i64 y3) ∧ w9.cell? ⟨gy, 4, none⟩ = some (.int .i64 y4) ∧ w9.cell? ⟨gy, 5, none⟩ = some (.int .i64 y5) ∧ Below w.heap.size w w9 ∧ w9.heap[b]? = some (.cells #[.int .i64 c0, .int .i64 c1, .int .i64 c2, .int .i64 c3, .int .i64 c4, .int .i64 c5] 25 (0, 0)) ∧ w9.heap[gx]? = some (.cells #[.int .i64 y0, .int .i64 y1, .int .i64 y2, .int .i64 y3, .int .i64 y4, .int .i64 y5] 25 (0, 0)) ∧ w9.heap[gy]? = some (.cells #[.int .i64 y0, .int .i64 y1, .int .i64 y2, .int .i64 y3, .int .i64 y4, .int .i64 y5] 33 (0, 0)) := ⟨(blk_cell BK9.out 0).trans rfl, (blk_cell BK9.out 1).trans rfl, (blk_cell BK9.out 2).trans rfl, (blk_cell BK9.out 3).trans rfl, (blk_cell BK9.out 4).trans rfl, (blk_cell BK9.out 5).trans rfl, (blk_cell BX9.out 0).trans rfl, (blk_cell BX9.out 1).trans rfl, (blk_cell BX9.out 2).trans rfl, (blk_cell BX9.out 3).trans rfl, (blk_cell BX9.out 4).trans rfl, (blk_cell BX9.out 5).trans rfl, (blk_cell BY9.out 0).trans rfl, (blk_cell BY9.out 1).trans rfl, (blk_cell BY9.out 2).trans rfl, (blk_cell BY9.out 3).trans rfl, (blk_cell BY9.out 4).trans rfl, (blk_cell BY9.out 5).trans rfl, HB9.out, BK9.out, BX9.out, BY9.out⟩
  have hbt : (t.toList == t.toList) = true := beq_self_eq_true _
  have hbe : (e == e) = true := beq_self_eq_true _
  have hbk : (k == k) = true := beq_self_eq_true _
  have hbg : (g == g) = true := beq_self_eq_true _
  go_region_held3 (fun w' => w'.cell? ⟨b, 0, none⟩ = some (.int .i64 c0) ∧ w'.cell? ⟨b, 1, none⟩ = some (.int .i64 c1) ∧ w'.cell? ⟨b, 2, none⟩ = some (.int .i64 c2) ∧ w'.cell? ⟨b, 3, none⟩ = some (.int .i64 c3) ∧ w'.cell? ⟨b, 4, none⟩ = some (.int .i64 c4) ∧ w'.cell? ⟨b, 5, none⟩ = some (.int .i64 c5) ∧ w'.cell? ⟨gx, 0, none⟩ = some (.int .i64 y0) ∧ w'.cell? ⟨gx, 1, none⟩ = some (.int .i64 y1) ∧ w'.cell? ⟨gx, 2, none⟩ = some (.int .i64 y2) ∧ w'.cell? ⟨gx, 3, none⟩ = some (.int .i64 y3) ∧ w'.cell? ⟨gx, 4, none⟩ = some (.int .i64 y4) ∧ w'.cell? ⟨gx, 5, none⟩ = some (.int .i64 y5) ∧ w'.cell? ⟨gy, 0, none⟩ = some (.int .i64 y0) ∧ w'.cell? ⟨gy, 1, none⟩ = some (.int .i64 y1) ∧ w'.cell? ⟨gy, 2, none⟩ = some (.int .i64 y2) ∧ w'.cell? ⟨gy, 3, none⟩ = some (.int .i64 y3) ∧ w'.cell? ⟨gy, 4, none⟩ = some (.int .i64 y4) ∧ w'.cell? ⟨gy, 5, none⟩ = some (.int .i64 y5) ∧ Below w.heap.size w w' ∧ w'.heap[b]? = some (.cells #[.int .i64 c0, .int .i64 c1, .int .i64 c2, .int .i64 c3, .int .i64 c4, .int .i64 c5] 25 (0, 0)) ∧ w'.heap[gx]? = some (.cells #[.int .i64 y0, .int .i64 y1, .int .i64 y2, .int .i64 y3, .int .i64 y4, .int .i64 y5] 25 (0, 0)) ∧ w'.heap[gy]? = some (.cells #[.int .i64 y0, .int .i64 y1, .int .i64 y2, .int .i64 y3, .int .i64 y4, .int .i64 y5] 33 (0, 0))) (first | assumption | (exact law_keep (by assumption) (by assumption)) | (exact law_drew (by assumption)) | (exact law_drew hSS))
    (first
      | (go_at_call 10; (with_reducible refine (vault_Check.calls c0 c1 c2 c3 c4 c5 k _ HK.out).mono ?_); rintro _ w' ⟨rfl, hb⟩)
      | (go_at_call 11; (with_reducible refine (garretref24_Check.calls c0 c1 c2 c3 c4 c5 k _ HL.out).mono ?_); rintro _ w' ⟨rfl, hb⟩)
      | (go_at_call 7; (with_reducible refine (garretlaw24_of.calls c0 c1 c2 c3 c4 c5 c0 c1 c2 c3 c4 c5 _ HO.out).mono ?_); rintro _ w' ⟨rfl, hb⟩)
      | (go_at_call 7; (with_reducible refine (garretlaw24_of.calls y0 y1 y2 y3 y4 y5 y0 y1 y2 y3 y4 y5 _ HY.out).mono ?_); rintro _ w' ⟨rfl, hb⟩)
      | (go_at_call 4; (with_reducible refine (garretlaw24_works.calls 9 true _ HW.out).mono ?_); rintro _ w' ⟨rfl, hb⟩))
  go_wp2
  go_ret
  exact ⟨rfl, law_below (by assumption)⟩
set_option maxHeartbeats 1000000 in
set_option maxRecDepth 100000 in
theorem law_long (c0 c1 c2 c3 c4 c5 : Int) (s : ByteArray) (w : World) (hs : ¬ s.size ≤ 10000) :
    Calls Try.prog 3 #[.agg #[.int .i64 c0, .int .i64 c1, .int .i64 c2, .int .i64 c3, .int .i64 c4, .int .i64 c5], .string s] w fun e w' => e = .returned (.bool true) ∧ Below w.heap.size w w' := by
  have HW := Aside0.mk Pure.works_true
  have HB := Aside0.mk (Below.refl w.heap.size w)
  have hu25 := Try.underlying25
  have d1 : decide ((s.size : Int) > 10000) = true := decide_eq_true (by omega)
  have d2 : decide (10000 < s.size) = true := decide_eq_true (by omega)
  go_enter Try.func3, Try.ntmps3
  go_wp2_with (first
    | ((with_reducible refine gate_dst (N := 2) rfl ?_); refine box_event ?hg (N := 2) ?hd (cs := #[.int .i64 c0, .int .i64 c1, .int .i64 c2, .int .i64 c3, .int .i64 c4, .int .i64 c5]) (t := 25) ?hr ?_; (case hd => rfl); (case hg => rfl); (case hr => first | (go_simp; done) | (go_simp; rfl)); intro b hg w0 hbox hb; have n0_ := Aside0.mk (below_step HB.out hb); have BK := Aside0.mk hbox; clear HB; have HB := n0_; clear n0_ hbox hb hg; have hcb_0 : World.cell? w0 ⟨b, 0, none⟩ = some (.int .i64 c0) := (blk_cell BK.out 0).trans rfl; have hfb_0 := blk_frozen BK.out 0; have hcb_1 : World.cell? w0 ⟨b, 1, none⟩ = some (.int .i64 c1) := (blk_cell BK.out 1).trans rfl; have hfb_1 := blk_frozen BK.out 1; have hcb_2 : World.cell? w0 ⟨b, 2, none⟩ = some (.int .i64 c2) := (blk_cell BK.out 2).trans rfl; have hfb_2 := blk_frozen BK.out 2; have hcb_3 : World.cell? w0 ⟨b, 3, none⟩ = some (.int .i64 c3) := (blk_cell BK.out 3).trans rfl; have hfb_3 := blk_frozen BK.out 3; have hcb_4 : World.cell? w0 ⟨b, 4, none⟩ = some (.int .i64 c4) := (blk_cell BK.out 4).trans rfl; have hfb_4 := blk_frozen BK.out 4; have hcb_5 : World.cell? w0 ⟨b, 5, none⟩ = some (.int .i64 c5) := (blk_cell BK.out 5).trans rfl; have hfb_5 := blk_frozen BK.out 5)
    | (go_at_call 4; (with_reducible refine (garretlaw24_works.calls 9 true _ HW.out).mono ?_); rintro _ w1 ⟨rfl, hb⟩; have HB1 := Aside0.mk (below_step HB.out hb); clear hb))
  go_ret
  exact ⟨rfl, HB1.out⟩
/-- Whatever the config and the bytes: true, and what was there stays. -/
theorem law_calls (c0 c1 c2 c3 c4 c5 : Int) (s : ByteArray) (w : World) :
    Calls Try.prog 3 #[.agg #[.int .i64 c0, .int .i64 c1, .int .i64 c2, .int .i64 c3, .int .i64 c4, .int .i64 c5], .string s] w fun e w' => e = .returned (.bool true) ∧ Below w.heap.size w w' := by
  by_cases hs : s.size ≤ 10000
  · exact law_short c0 c1 c2 c3 c4 c5 s w hs
  · exact law_long c0 c1 c2 c3 c4 c5 s w hs
end Go.Proofs.Ytnhfkbmnglbbmaa.Q
namespace Go.Proofs.Ytnhfkbmnglbbmaa.vaultConfigs
open Go.ChangeShapes Go.WideShapes Go.ChangeAt Go.RowKit Go.Joins Go.Deep
open Go.ChangeMaps (open_string shut_string)
section
variable {H : Type} {enc : TypeId × Value → H} {w : World} {base : Nat} {spare : Nat → Bool} {held : Bool}
theorem int_one {n : Nat} {c : Value} {y : DataW H × List MemPlace} (h : DataW.trod enc Try.prog w base spare held n 3 [c] = some y) : ∃ k : Int, c = .int .i64 k ∧ y = (.lit (.int .i64 k), []) ∧ (Lit.int .i64 k).wf = true := by
  obtain ⟨k, hk, hy, hw⟩ := DataW.trod_int Try.underlying3 h
  exact ⟨k, by simpa using hk, hy, hw⟩
/-- A config that came in: six numbers; it reads in any world as it does in this one. -/
theorem open_conf {r : Reach} {b0 : Nat} {v : Value} {d : DataW H} {p : List MemPlace} (hv : Value.okWide Try.prog w r b0 25 v) (h : DataW.Trod enc Try.prog w base spare held 25 v d p) :
    ∃ c0 c1 c2 c3 c4 c5 : Int, v = .agg #[.int .i64 c0, .int .i64 c1, .int .i64 c2, .int .i64 c3, .int .i64 c4, .int .i64 c5] ∧ p = [] ∧ ∀ (w' : World) (base' : Nat) (spare' : Nat → Bool) (held' : Bool), DataW.Trod enc Try.prog w' base' spare' held' 25 (.agg #[.int .i64 c0, .int .i64 c1, .int .i64 c2, .int .i64 c3, .int .i64 c4, .int .i64 c5]) d [] := by
  obtain ⟨cs, rfl, hsz⟩ := okWide_struct Try.underlying25 hv
  obtain ⟨l⟩ := cs
  have hC : Try.prog.cellsOf 25 = 6 := by kernel_rfl
  have hC3 : Try.prog.cellsOf 3 = 1 := by kernel_rfl
  have hC23 : Try.prog.cellsOf 23 = 3 := by kernel_rfl
  match l, hsz.trans hC with
  | [v0, v1, v2, v3, v4, v5], _ =>
    obtain ⟨fuel, hf⟩ := h
    obtain ⟨y0, y1, y2, y3, n, hx, hl, g0, g1, g2, g3⟩ := trod_struct4 Try.underlying25 hf
    obtain ⟨c0, rfl, rfl, q0⟩ := int_one (c := v0) (by simpa [Value.cells, hC3] using g0)
    obtain ⟨c1, rfl, rfl, q1⟩ := int_one (c := v1) (by simpa [Value.cells, hC3] using g1)
    obtain ⟨c5, rfl, rfl, q5⟩ := int_one (c := v5) (by simpa [Value.cells, hC3] using g3)
    obtain ⟨z0, z1, z2, m, hz, hm, i0, i1, i2⟩ := trod_struct3 (cs := [v2, v3, v4]) Try.underlying23 (by simpa [Value.cells, hC23] using g2)
    obtain ⟨c2, rfl, rfl, q2⟩ := int_one (c := v2) (by simpa [hC3] using i0)
    obtain ⟨c3, rfl, rfl, q3⟩ := int_one (c := v3) (by simpa [hC3] using i1)
    obtain ⟨c4, rfl, rfl, q4⟩ := int_one (c := v4) (by simpa [hC3] using i2)
    subst hz
    simp only [Prod.mk.injEq, List.append_nil] at hx
    obtain ⟨rfl, rfl⟩ := hx
    refine ⟨c0, c1, c2, c3, c4, c5, rfl, rfl, fun w' base' spare' held' => ?_⟩
    have tg := trod_struct3_mk (enc := enc) (P := Try.prog) (w := w') (base := base') (spare := spare') (held := held') (n := 1) (cs := [.int .i64 c2, .int .i64 c3, .int .i64 c4]) Try.underlying23 (by simp [hC23])
      (by simpa [hC3] using trod_int_mk 0 Try.underlying3 q2) (by simpa [hC3] using trod_int_mk 0 Try.underlying3 q3) (by simpa [hC3] using trod_int_mk 0 Try.underlying3 q4)
    have ts := trod_struct4_mk (enc := enc) (P := Try.prog) (w := w') (base := base') (spare := spare') (held := held') (n := 2) (cs := [.int .i64 c0, .int .i64 c1, .int .i64 c2, .int .i64 c3, .int .i64 c4, .int .i64 c5]) Try.underlying25 (by simp [hC])
      (by simpa [hC3] using trod_int_mk 1 Try.underlying3 q0) (by simpa [hC3] using trod_int_mk 1 Try.underlying3 q1) (by simpa [hC23] using tg) (by simpa [hC3] using trod_int_mk 1 Try.underlying3 q5)
    exact ⟨3, by simpa [Value.cells] using ts⟩
end
theorem own : ownKnob Try.prog.godebug = none := by kernel_rfl
set_option maxRecDepth 100000 in
theorem lifted (os : Os) (started : os.Started) (H : Type) (enc : TypeId × Value → H) :
    ReturnsInHanded {} Try.checked os 3 .any (Rows.vaultConfigsSpec.pre6 enc Try.prog Try.f3 Rows.vaultConfigsRow.domain false) (Rows.vaultConfigsSpec.post enc Try.prog Try.f3 false true false false) := by
  refine returnsInHanded_of_change_sized (C := Try.checked) own started (by kernel_rfl) Try.func3
    (ChangeSpec.witness6 (enc := enc) (C := Try.checked) false ⟨#[], #[.agg #[.int .i64 0, .int .i64 0, .int .i64 0, .int .i64 0, .int .i64 0, .int .i64 0], .string ByteArray.empty], []⟩ 8 (by kernel_rfl) (by kernel_rfl) (by kernel_rfl) (by kernel_rfl)) ?_
  intro W base args ds gs before hval0 hW hcnd hsz0 _
  have hval : ∀ (j : Nat) t v, Try.f3.params[j]? = some t → args[j]? = some v → Value.okWide Try.prog W .any base t v := hval0
  have hW' := hW
  obtain ⟨p, q, hA0, hV, rfl, hfz, hnd⟩ := hW
  have hA : DataW.TrodAll enc Try.prog W 0 (fun _ => true) true Try.f3.params.toList args.toList ds p := hA0
  rw [Try.params3] at hA hval
  obtain ⟨v0, vs0, d0, ds0, p0, q0, hargs, rfl, rfl, h0, r0⟩ := trodAll_cons hA
  obtain ⟨v1, vs1, d1, ds1, p1, q1, rfl, rfl, rfl, h1, r1⟩ := trodAll_cons r0
  obtain ⟨rfl, rfl, rfl⟩ := trodAll_nil r1
  obtain rfl : args = #[v0, v1] := by cases args; simp_all
  obtain ⟨rfl, rfl⟩ := trodVars_none hV
  obtain ⟨c0, c1, c2, c3, c4, c5, rfl, rfl, y0⟩ := open_conf (hval 0 25 v0 rfl rfl) h0
  obtain ⟨a1, rfl, rfl, rfl, y1⟩ := open_string Try.underlying9 (hval 1 9 v1 rfl rfl) h1
  clear hA0 hval0 hsz0
  refine (Q.law_calls c0 c1 c2 c3 c4 c5 a1 W).mono fun e W' ⟨he, bel⟩ => ?_
  subst he
  exact ⟨_, rfl, _, _, _, [], _, [], hW', trodAll_mk1 (shut_bool Try.underlying4 _), (trodAll_cons_mk (y0 _ _ _ _) (trodAll_cons_mk (shut_string Try.underlying9 y1) trodAll_mk0)), rfl, bel.frame _, fun h => by cases h⟩
theorem over : Rows.vaultConfigsRow.holds Try.pinned (OpenSpec.ofChange Rows.vaultConfigsSpec) :=
  OpenClaim.holds_of_wide 3 Try.f3 rfl rfl rfl rfl rfl rfl rfl ⟨rfl, rfl, rfl, rfl, rfl⟩ rfl rfl rfl rfl rfl (by kernel_rfl) Try.func3 (by kernel_rfl)
    (of_decide_eq_true (by kernel_rfl)) (by unfold Func.isWrapper; first | (rw [if_pos (by decide +kernel)]; kernel_rfl) | (rw [if_neg (by decide +kernel)]; exact ⟨rfl, rfl⟩))
    (fun os started H enc _ => lifted os started H enc)
theorem proved : Rows.VaultConfigsSaid := over
#print axioms proved
end Go.Proofs.Ytnhfkbmnglbbmaa.vaultConfigs
namespace Go.Proofs.Ytnhfkbmnglbbmaa
/-- The row, under a short name, for the claim. -/
theorem vaultConfigs_holds : Rows.VaultConfigsSaid := vaultConfigs.proved
end Go.Proofs.Ytnhfkbmnglbbmaa
