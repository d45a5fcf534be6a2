/- works, of the statements of diff: the chapter's example, walked. -/
import Derived.Test.YtkbofkpkemfedaaDoorHBack
import Derived.Test.YtkbofkpkemfedaaDoorQx28
namespace Go.Proofs.YtkbofkpkemfedaaDoor.Q
open Go.RowKit Go.Proofs.YtkbofkpkemfedaaDoorW.PrintWords Go.Proofs.YtkbofkpkemfedaaDoorW.PrintLast Go.Proofs.YtkbofkpkemfedaaDoorW.PrintMore
attribute [local go_sem] max2_int min2_int max_two min_two max_three min_three max_four min_four
set_option maxHeartbeats 2000000 in
set_option maxRecDepth 100000 in
theorem works_calls (w : World) (hL : Letters w) : Calls Tryd.prog 5 #[] w fun e w' => e = .returned (.bool true) ∧ Below w.heap.size w w' := by
  have HL := Aside0.mk hL
  clear hL
  have hs : garretbook_SameTexts.f 3 [lineOf ⟨⟨#[97, 47, 98]⟩, 2⟩] [⟨#[45, 32, 97, 47, 98]⟩] = some true := by decide +kernel
  have HS := Aside0.mk hs
  clear hs
  have hu47 := Tryd.underlying47
  have hu45 := Tryd.underlying45
  go_enter Tryd.func5, Tryd.ntmps5
  go_upto_region 2 with (fail)
  obtain ⟨w1, hw1⟩ : ∃ w1, w1 = w.alloc (.cells found2 47 (0, 0)) := ⟨_, rfl⟩
  have HK1 : Aside0 (w1.heap[w.heap.size]? = some (.cells found2 47 (0, 0))) := ⟨by rw [hw1]; exact blk_new _ _⟩
  have HB1 : Aside0 (Below w.heap.size w w1) := ⟨by rw [hw1]; exact below_alloc (Below.refl _ _) _⟩
  obtain ⟨B, hBe⟩ : ∃ B, B = w.heap.size := ⟨_, rfl⟩
  change Code.wp _ _ _ _ (w.alloc (.cells found2 47 (0, 0)))
  rw [← hw1]
  rw [← hBe] at HK1 ⊢
  clear hw1 hBe
  have hbx := below_drew1 HB1.out
  clear hbx
  go_wp2_with (first
    | (go_at_call 7; refine (trees_calls B w1 HK1.out).mono ?_; rintro e w2 ⟨v2, rfl, ho, hb⟩; obtain ⟨A2, c2, rfl, hc2, hr2⟩ := Kd.R_reads ho; have HC2 := Aside0.mk hr2; have HN2 := Aside0.mk hc2; have HB2 := Aside0.mk (below_step HB1.out hb); clear ho hb hr2 hc2)
    | (go_at_call 12; refine (diff_Text_calls A2 c2 [⟨⟨#[97, 47, 98]⟩, 2⟩] w2 HC2.out HN2.out (HL.out.below HB2.out) (by decide) (by intro x hx; simp only [List.mem_singleton] at hx; subst hx; decide)).mono ?_; rintro e w3 ⟨v3, rfl, ho, hb⟩; have HO3 := Aside0.mk ho; have HB3 := Aside0.mk (below_step HB2.out hb); clear ho hb)
    | ((with_reducible refine gate_dst (N := 12) rfl ?_); refine Kd.R_lit Kd.string (w0 := w3) w3.heap.size 9 ?hg (N := 12) ?hd (xs := [(⟨#[45, 32, 97, 47, 98]⟩ : ByteArray)]) (inner := [.string ⟨#[45, 32, 97, 47, 98]⟩]) (ok := fun _ => True) (okp := fun _ => True) ?hr ?hp (fun _ hk => hk) trivial (Below.refl _ _) (Nat.le_refl _) (by simp) ?_; (case hd => rfl); (case hg => rfl); (case hr => first | (go_simp; done) | (go_simp; rfl)); (case hp => exact (Reps.one (show Kd.M Kd.string _ _ _ (⟨#[45, 32, 97, 47, 98]⟩ : ByteArray) [.string ⟨#[45, 32, 97, 47, 98]⟩] from rfl) (Reps.none _ _))); intro v4 w4 ho hb hg_ hnew_; have HO4 := Aside0.mk ho; have HO34 := Aside0.mk (Kd.R_below HO3.out hb); have HB4 := Aside0.mk (below_step HB3.out hb); clear ho hb hg_ hnew_; obtain ⟨A4, c4, rfl, hc4, hr4⟩ := Kd.R_reads HO4.out; obtain ⟨A3, c3, rfl, hc3, hr3⟩ := Kd.R_reads HO34.out; have HC4 := Aside0.mk hr4; have HN4 := Aside0.mk hc4; have HC3 := Aside0.mk hr3; have HN3 := Aside0.mk hc3; clear hc4 hr4 hc3 hr3)
    | (go_at_call 11; refine (garretbook_SameTexts.calls 3 A3 c3 [lineOf ⟨⟨#[97, 47, 98]⟩, 2⟩] A4 c4 [⟨#[45, 32, 97, 47, 98]⟩] true w4 HC3.out HN3.out HC4.out HN4.out HS.out).mono ?_; rintro e w5 ⟨rfl, m5, rfl⟩))
  go_ret
  exact ⟨rfl, pw_below_drewN HB4.out _⟩
end Go.Proofs.YtkbofkpkemfedaaDoor.Q
