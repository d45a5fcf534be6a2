/- Of the proofs about sweep: several texts, joined. -/
import Derived.Test.YtoiedcnhojkpiaaMN
namespace Go.Proofs.Ytoiedcnhojkpiaa.Q
open Go.RowKit Go.Maps Go.Proofs.YtoiedcnhojkpiaaW.PrintWords Go.Proofs.YtoiedcnhojkpiaaW.PrintLast Go.Proofs.YtoiedcnhojkpiaaW.PrintMore
theorem Tab.keepB {w w' : World} {base g gr : Nat} {F : Nat → List S52} {cs : Array Value} (h : Tab w base g F) (hK : KeepB w.heap.size gr w w') (hb : w.heap[gr]? = some (.cells cs 30 (0, 0))) : Tab w' base g F := by
  obtain ⟨vs, h1, h2, h3, h4⟩ := h
  exact ⟨vs, h1, hK.blk h2 (blk_lt h2) (by
    intro e
    subst e
    rw [hb] at h2
    injection h2 with h2
    injection h2 with _ h2
    exact absurd h2 (by decide)), fun j v hv => Kd.R_grown2 (h3 j v hv) rfl hK.toGrown (fun b e => by injection e with e; subst e; exact Kd.R_ne (h3 j v hv) hb (by decide)), h4⟩
theorem pk_len (L : List S52) (lp : List ByteArray) : (pkL L lp).length ≤ lp.length + L.length := by
  unfold pkL risL
  have := packsOf_len ((lp ++ L.map fun x => x.f1.f0).map fun s => (⟨s, ⟨s, 0, 0, 0, 0⟩⟩ : S52))
  simpa using this
theorem pFate_len (n : Nat) (L : List S52) (lr lp : List ByteArray) (percent : Int) : (pFate n L lr lp percent).length ≤ lp.length + L.length := by
  unfold pFate
  split
  · exact Nat.le_trans (fated_len _ _ _ _) (pk_len L lp)
  · exact Nat.zero_le _
theorem pStay_len (L : List S52) (lr lp : List ByteArray) (percent : Int) : (pStay L lr lp percent).length ≤ L.length := by
  unfold pStay
  split
  · unfold rstayL
    exact Nat.le_trans (List.length_filterMap_le _ _) (idsOf_len L)
  · exact Nat.zero_le _
theorem pMove_len (L : List S52) (lr lp : List ByteArray) (percent : Int) : (pMove L lr lp percent).length ≤ L.length := by
  unfold pMove
  split
  · unfold rmoveL
    exact Nat.le_trans (List.length_filter_le _ _) (idsOf_len L)
  · exact Nat.zero_le _
set_option maxHeartbeats 16000000 in
set_option maxRecDepth 100000 in
theorem plans_big (A0 A1 A2 : Option Addr) (c0 c1 c2 n0 n1 n2 : Nat) (percent : Int) (w : World) (h0 : n0 ≤ 9223372036854775807) (h1 : n1 ≤ 9223372036854775807) (h2 : n2 ≤ 9223372036854775807) (hb : 40 < n0 ∨ 60 < n1 ∨ 60 < n2) :
    Calls Try.prog 3 #[.slice A0 n0 c0, .agg #[.slice A1 n1 c1, .slice A2 n2 c2], .int .i64 percent] w fun e w' => e = .returned (.bool true) ∧ Below w.heap.size w w' := by
  have hwk := fun W => works_calls W
  have HB : Aside0 (∀ n, Below w.heap.size w ((w.alloc (.cells #[.slice A1 n1 c1, .slice A2 n2 c2] 24)).drewN n)) := ⟨fun n => pw_below_drewN (below_alloc (Below.refl _ _) _) n⟩
  have k0 : (w.alloc (.cells #[.slice A1 n1 c1, .slice A2 n2 c2] 24)).cell? ⟨w.heap.size, 0, none⟩ = some (.slice A1 n1 c1) := (blk_cell (MapKept.heap_alloc w _).1 0).trans rfl
  by_cases b0 : 40 < n0
  all_goals by_cases b1 : 60 < n1
  all_goals by_cases b2 : 60 < n2
  all_goals first | (exfalso; omega) | skip
  all_goals
    clear hb
    go_enter Try.func3, Try.ntmps3
    go_upto_region 1 with (fail)
    go_quiet (fail)
    go_wp2_with (fail)
    refine (hwk _).mono ?_
    rintro e w1 ⟨rfl, hB⟩
    have HB1 := Aside0.mk (below_step (HB.out _) hB)
    clear hB
    go_wp2_with (fail)
    go_ret
    exact ⟨rfl, HB1.out⟩
set_option maxHeartbeats 16000000 in
set_option maxRecDepth 100000 in
theorem plans_law (A0 A1 A2 : Option Addr) (c0 c1 c2 : Nat) (l : List S52) (r p : List ByteArray) (percent : Int) (w : World) (h0 : Kd.C k52 w A0 l.length l) (h1 : Kd.C Kd.string w A1 r.length r) (hc1 : r.length ≤ c1) (h2 : Kd.C Kd.string w A2 p.length p) (hc2 : p.length ≤ c2) (hs1 : ∀ s ∈ r, s.size ≤ maxLen) (hs2 : ∀ s ∈ p, s.size ≤ maxLen) :
    Calls Try.prog 3 #[.slice A0 l.length c0, .agg #[.slice A1 r.length c1, .slice A2 p.length c2], .int .i64 percent] w fun e w' => e = .returned (.bool true) ∧ Below w.heap.size w w' := by
  by_cases hbig : 40 < l.length ∨ 60 < r.length ∨ 60 < p.length
  · exact plans_big A0 A1 A2 c0 c1 c2 l.length r.length p.length percent w h0.2.1 h1.2.1 h2.2.1 hbig
  have H0 := Aside0.mk h0
  have H1 := Aside0.mk h1
  have H2 := Aside0.mk h2
  have HS1 := Aside0.mk hs1
  have HS2 := Aside0.mk hs2
  have hwk := fun W => works_calls W
  have hl0 : l.length ≤ 40 := by omega
  have hl1 : r.length ≤ 60 := by omega
  have hl2 : p.length ≤ 60 := by omega
  clear h0 h1 h2 hs1 hs2 hbig
  go_enter Try.func3, Try.ntmps3
  go_upto_region 1 with (fail)
  go_quiet (fail)
  have HB1 : Aside0 (Below w.heap.size w ((w.alloc (.cells #[.slice A1 r.length c1, .slice A2 p.length c2] 24)).drewN nq)) := ⟨pw_below_drewN (below_alloc (Below.refl _ _) _) nq⟩
  generalize (w.alloc (.cells #[.slice A1 r.length c1, .slice A2 p.length c2] 24)).drewN nq = W1 at HB1 ⊢
  have HWS : Aside0 (w.heap.size ≤ W1.heap.size) := ⟨HB1.out.size⟩
  go_wp2_with (fail)
  refine (new_calls _).mono ?_
  rintro e w2 ⟨rfl, hw⟩
  have HT : Aside0 (∀ base, Tab w2 base W1.heap.size F0) := ⟨fun base => by rw [hw]; exact Tab.made W1 base⟩
  have HB2 : Aside0 (Below w.heap.size w w2) := ⟨by rw [hw]; exact below_alloc HB1.out _⟩
  clear hw HB1
  obtain ⟨g, hg⟩ : ∃ g, g = W1.heap.size := ⟨_, rfl⟩
  rw [← hg] at HT HWS ⊢
  clear hg
  have hnl : ((none : Option Addr) == some ⟨g, 0, none⟩) = false := rfl
  go_upto_region 7 with (fail)
  have HRT : Aside0 ((w2.alloc (.cells #[.slice none 0 0] 30)).heap[w2.heap.size]? = some (.cells #[.slice none 0 0] 30 (0, 0))) := ⟨(MapKept.heap_alloc w2 _).1⟩
  have HT3 : Aside0 (∀ base, Tab (w2.alloc (.cells #[.slice none 0 0] 30)) base g F0) := ⟨fun base => (HT.out base).below (below_alloc (Below.refl _ _) _)⟩
  have HB3 : Aside0 (Below w.heap.size w (w2.alloc (.cells #[.slice none 0 0] 30))) := ⟨below_alloc HB2.out _⟩
  have HGG : Aside0 (g < w2.heap.size) := ⟨(HT.out 0).lt⟩
  generalize (w2.alloc (.cells #[.slice none 0 0] 30)) = W3 at HRT HT3 HB3 ⊢
  generalize w2.heap.size = gr at HRT HGG ⊢
  clear HT HB2
  obtain ⟨B, hBe⟩ : ∃ B, B = W3.heap.size := ⟨_, rfl⟩
  have HBE := Aside0.mk hBe
  clear hBe
  go_wp2_with (fail)
  refine (add_any B g c0 A0 l w W3 (HT3.out B) H0.out HB3.out HWS.out (by rw [HBE.out]; exact HB3.out.size) (by rw [HBE.out]; exact Nat.le_refl _) hl0).mono ?_
  rintro e w4 ⟨n4, rfl, hT, hK⟩
  have hK3 : KeepB W3.heap.size g W3 w4 := by rw [← HBE.out]; exact hK
  have HB4 : Aside0 (Below w.heap.size w w4) := ⟨hK3.toBelow HB3.out HWS.out HB3.out.size⟩
  have HT4 := Aside0.mk hT
  have HRT4 := Aside0.mk (hK3.blk HRT.out (blk_lt HRT.out) (by have := HGG.out; omega))
  clear hT hK hK3 HT3 HRT HB3
  go_wp2_with (fail)
  refine (radd_any w4.heap.size gr c0 A0 l w w4 ⟨_, HRT4.out, Kd.R_nil k52 52 _ _ _⟩ H0.out HB4.out (by have := HWS.out; have := HGG.out; omega) (Nat.le_refl _) hl0).mono ?_
  rintro e w5 ⟨n5, rfl, hRT, hK⟩
  have HT5 := Aside0.mk (HT4.out.keepB hK HRT4.out)
  have HB5 : Aside0 (Below w.heap.size w w5) := ⟨hK.toBelow HB4.out (by have := HWS.out; have := HGG.out; omega) HB4.out.size⟩
  obtain ⟨BR, hBR⟩ : ∃ BR, BR = w4.heap.size := ⟨_, rfl⟩
  rw [← hBR] at hRT
  have HRT5 := Aside0.mk hRT
  clear hRT hK HT4 HRT4 HB4 hBR
  have HR5 := Aside0.mk (Kd.C_below H1.out HB5.out)
  have HP5 := Aside0.mk (Kd.C_below H2.out HB5.out)
  go_wp2_with (fail)
  refine (lend_calls A1 c1 r w5 HR5.out (by omega)).mono ?_
  rintro e w6 ⟨E1, b1, rfl, hb1, hC, hB⟩
  have HE1 := Aside0.mk hC
  have HT6 := Aside0.mk (HT5.out.below hB)
  have HRT6 := Aside0.mk (HRT5.out.below hB)
  have HP6 := Aside0.mk (Kd.C_below HP5.out hB)
  have HB6 := Aside0.mk (below_step HB5.out hB)
  have HB1 := Aside0.mk hb1
  clear hC hB hb1 HT5 HRT5 HP5 HB5 HR5
  go_wp2_with (fail)
  refine (lend_calls A2 c2 p w6 HP6.out (by omega)).mono ?_
  rintro e w7 ⟨E2, b2, rfl, hb2, hC, hB⟩
  have HE2 := Aside0.mk hC
  have HE17 := Aside0.mk (Kd.C_below HE1.out hB)
  have HT7 := Aside0.mk (HT6.out.below hB)
  have HRT7 := Aside0.mk (HRT6.out.below hB)
  have HB7 := Aside0.mk (below_step HB6.out hB)
  have HB2 := Aside0.mk hb2
  clear hC hB hb2 HE1 HT6 HRT6 HP6 HB6
  go_wp2_with (fail)
  refine (make_any B g b1 b2 E1 E2 (tF l) r p percent w7 HT7.out (tF_good l) (fun j => tF_len l j (by omega)) (by rw [tF_all]; have := tL_len l; omega) (C_firsts HE17.out) (C_firsts HE2.out) (by omega) (by omega) HS1.out HS2.out).mono ?_
  rintro e w8 ⟨hPL, hB⟩
  rw [tF_all] at hPL
  obtain ⟨AD, AR, AK, AS, AM, cD, cR, cK, cS, cM, rfl, hD, hR, hK, hS, hM⟩ := hPL
  have HPA := Aside0.mk (And.intro hD (And.intro hR (And.intro hK (And.intro hS hM))))
  have HE18 := Aside0.mk (Kd.C_below HE17.out hB)
  have HE28 := Aside0.mk (Kd.C_below HE2.out hB)
  have HT8 := Aside0.mk (HT7.out.below hB)
  have HRT8 := Aside0.mk (HRT7.out.below hB)
  have HB8 := Aside0.mk (below_step HB7.out hB)
  clear hD hR hK hS hM hB HE17 HE2 HT7 HRT7 HB7
  go_upto_region 11 with (fail)
  have hBx : Below w8.heap.size w8 (w8.alloc (.cells #[.slice AD (pFate 0 (tL l) r p percent).length cD, .slice AR (pFate 1 (tL l) r p percent).length cR, .slice AK (pFate 2 (tL l) r p percent).length cK, .slice AS (pStay (tL l) r p percent).length cS, .slice AM (pMove (tL l) r p percent).length cM] 36)) := below_alloc (Below.refl _ _) _
  have HGA : Aside0 ((w8.alloc (.cells #[.slice AD (pFate 0 (tL l) r p percent).length cD, .slice AR (pFate 1 (tL l) r p percent).length cR, .slice AK (pFate 2 (tL l) r p percent).length cK, .slice AS (pStay (tL l) r p percent).length cS, .slice AM (pMove (tL l) r p percent).length cM] 36)).heap[w8.heap.size]? = some (.cells #[.slice AD (pFate 0 (tL l) r p percent).length cD, .slice AR (pFate 1 (tL l) r p percent).length cR, .slice AK (pFate 2 (tL l) r p percent).length cK, .slice AS (pStay (tL l) r p percent).length cS, .slice AM (pMove (tL l) r p percent).length cM] 36 (0, 0))) := ⟨(MapKept.heap_alloc w8 _).1⟩
  have HPA9 := Aside0.mk (And.intro (And.intro HPA.out.1.1 (Kd.C_below HPA.out.1.2 hBx)) (And.intro (And.intro HPA.out.2.1.1 (Kd.C_below HPA.out.2.1.2 hBx)) (And.intro (And.intro HPA.out.2.2.1.1 (Kd.C_below HPA.out.2.2.1.2 hBx)) (And.intro (And.intro HPA.out.2.2.2.1.1 (Kd.C_below HPA.out.2.2.2.1.2 hBx)) (And.intro HPA.out.2.2.2.2.1 (Kd.C_below HPA.out.2.2.2.2.2 hBx))))))
  have HE19 := Aside0.mk (Kd.C_below HE18.out hBx)
  have HE29 := Aside0.mk (Kd.C_below HE28.out hBx)
  have HT9 := Aside0.mk (HT8.out.below hBx)
  have HRT9 := Aside0.mk (HRT8.out.below hBx)
  have HB9 := Aside0.mk (below_step HB8.out hBx)
  clear hBx HPA HE18 HE28 HT8 HRT8 HB8
  generalize (w8.alloc (.cells #[.slice AD (pFate 0 (tL l) r p percent).length cD, .slice AR (pFate 1 (tL l) r p percent).length cR, .slice AK (pFate 2 (tL l) r p percent).length cK, .slice AS (pStay (tL l) r p percent).length cS, .slice AM (pMove (tL l) r p percent).length cM] 36)) = W9 at HGA HPA9 HE19 HE29 HT9 HRT9 HB9 ⊢
  generalize w8.heap.size = ga at HGA ⊢
  have HR9 := Aside0.mk (Kd.C_below H1.out HB9.out)
  have HP9 := Aside0.mk (Kd.C_below H2.out HB9.out)
  go_wp2_with (fail)
  refine (rmake_any BR gr c1 c2 A1 A2 (tL l) r p percent W9 HRT9.out (tL_sorted l) (tL_chk l) (by have := tL_len l; omega) HR9.out hc1 HP9.out (by omega) (by omega)).mono ?_
  rintro e w10 ⟨hPL, hB⟩
  obtain ⟨XD, XR, XK, XS, XM, dD, dR, dK, dS, dM, rfl, hD, hR, hK, hS, hM⟩ := hPL
  have HPX := Aside0.mk (And.intro hD (And.intro hR (And.intro hK (And.intro hS hM))))
  have HPA10 := Aside0.mk (And.intro (And.intro HPA9.out.1.1 (Kd.C_below HPA9.out.1.2 hB)) (And.intro (And.intro HPA9.out.2.1.1 (Kd.C_below HPA9.out.2.1.2 hB)) (And.intro (And.intro HPA9.out.2.2.1.1 (Kd.C_below HPA9.out.2.2.1.2 hB)) (And.intro (And.intro HPA9.out.2.2.2.1.1 (Kd.C_below HPA9.out.2.2.2.1.2 hB)) (And.intro HPA9.out.2.2.2.2.1 (Kd.C_below HPA9.out.2.2.2.2.2 hB))))))
  have HGA10 := Aside0.mk (blk_below HGA.out hB)
  have HE110 := Aside0.mk (Kd.C_below HE19.out hB)
  have HE210 := Aside0.mk (Kd.C_below HE29.out hB)
  have HT10 := Aside0.mk (HT9.out.below hB)
  have HRT10 := Aside0.mk (HRT9.out.below hB)
  have HB10 := Aside0.mk (below_step HB9.out hB)
  clear hD hR hK hS hM hB HPA9 HGA HE19 HE29 HT9 HRT9 HB9 HR9 HP9
  go_upto_region 12 with (fail)
  have hBx : Below w10.heap.size w10 (w10.alloc (.cells #[.slice XD (pFate 0 (tL l) r p percent).length dD, .slice XR (pFate 1 (tL l) r p percent).length dR, .slice XK (pFate 2 (tL l) r p percent).length dK, .slice XS (pStay (tL l) r p percent).length dS, .slice XM (pMove (tL l) r p percent).length dM] 39)) := below_alloc (Below.refl _ _) _
  have HGB : Aside0 ((w10.alloc (.cells #[.slice XD (pFate 0 (tL l) r p percent).length dD, .slice XR (pFate 1 (tL l) r p percent).length dR, .slice XK (pFate 2 (tL l) r p percent).length dK, .slice XS (pStay (tL l) r p percent).length dS, .slice XM (pMove (tL l) r p percent).length dM] 39)).heap[w10.heap.size]? = some (.cells #[.slice XD (pFate 0 (tL l) r p percent).length dD, .slice XR (pFate 1 (tL l) r p percent).length dR, .slice XK (pFate 2 (tL l) r p percent).length dK, .slice XS (pStay (tL l) r p percent).length dS, .slice XM (pMove (tL l) r p percent).length dM] 39 (0, 0))) := ⟨(MapKept.heap_alloc w10 _).1⟩
  go_wp2_with (fail)
  refine (make_nil E1 E2 _ _ _ _ 50 _).mono ?_
  rintro e w12 ⟨rfl, hB0⟩
  have hB := below_step hBx hB0
  unfold nilPlan
  have HGB12 := Aside0.mk (blk_below HGB.out hB0)
  have HGA12 := Aside0.mk (blk_below HGA10.out hB)
  have HB12 := Aside0.mk (below_step HB10.out hB)
  have HBX := Aside0.mk hB
  clear hBx hB hB0 HGB HGA10
  go_upto_region 13 with (fail)
  have HBX13 : Aside0 (Below w10.heap.size w10 (w12.alloc (.cells #[.slice none 0 0, .slice none 0 0, .slice none 0 0, .slice none 0 0, .slice none 0 0] 36))) := ⟨below_alloc HBX.out _⟩
  have HGA13 := Aside0.mk (blk_below HGA12.out (below_alloc (Below.refl w12.heap.size w12) (.cells #[.slice none 0 0, .slice none 0 0, .slice none 0 0, .slice none 0 0, .slice none 0 0] 36)))
  have HGB13 := Aside0.mk (blk_below HGB12.out (below_alloc (Below.refl w12.heap.size w12) (.cells #[.slice none 0 0, .slice none 0 0, .slice none 0 0, .slice none 0 0, .slice none 0 0] 36)))
  have HB13 : Aside0 (Below w.heap.size w (w12.alloc (.cells #[.slice none 0 0, .slice none 0 0, .slice none 0 0, .slice none 0 0, .slice none 0 0] 36))) := ⟨below_alloc HB12.out _⟩
  generalize (w12.alloc (.cells #[.slice none 0 0, .slice none 0 0, .slice none 0 0, .slice none 0 0, .slice none 0 0] 36)) = W13 at HBX13 HGA13 HGB13 HB13 ⊢
  generalize w10.heap.size = gb at HGB13 ⊢
  have HRT13 := Aside0.mk (HRT10.out.below HBX13.out)
  have HT13 := Aside0.mk (HT10.out.below HBX13.out)
  have HLF : Aside0 (∀ n, (pFate n (tL l) r p percent).length ≤ 10000) := ⟨fun n => by have := pFate_len n (tL l) r p percent; have := tL_len l; omega⟩
  have HLS : Aside0 ((pStay (tL l) r p percent).length ≤ 10000) := ⟨by have := pStay_len (tL l) r p percent; have := tL_len l; omega⟩
  have HLM : Aside0 ((pMove (tL l) r p percent).length ≤ 10000) := ⟨by have := pMove_len (tL l) r p percent; have := tL_len l; omega⟩
  have HLL : Aside0 ((tL l).length ≤ 40) := ⟨by have := tL_len l; omega⟩
  have HPA := HPA10
  obtain ⟨vL, hvL, hRL⟩ := HRT13.out
  obtain ⟨AL, cL, rfl, hcL, hCL⟩ := Kd.R_reads hRL
  have HGR := Aside0.mk hvL
  have HCL := Aside0.mk (And.intro hcL hCL)
  clear hvL hRL hcL hCL
  have ka0 : W13.cell? ⟨ga, 0, none⟩ = some (.slice AD (pFate 0 (tL l) r p percent).length cD) := (blk_cell HGA13.out 0).trans rfl
  have ka1 : W13.cell? ⟨ga, 1, none⟩ = some (.slice AR (pFate 1 (tL l) r p percent).length cR) := (blk_cell HGA13.out 1).trans rfl
  have ka2 : W13.cell? ⟨ga, 2, none⟩ = some (.slice AK (pFate 2 (tL l) r p percent).length cK) := (blk_cell HGA13.out 2).trans rfl
  have ka3 : W13.cell? ⟨ga, 3, none⟩ = some (.slice AS (pStay (tL l) r p percent).length cS) := (blk_cell HGA13.out 3).trans rfl
  have ka4 : W13.cell? ⟨ga, 4, none⟩ = some (.slice AM (pMove (tL l) r p percent).length cM) := (blk_cell HGA13.out 4).trans rfl
  have kb0 : W13.cell? ⟨gb, 0, none⟩ = some (.slice XD (pFate 0 (tL l) r p percent).length dD) := (blk_cell HGB13.out 0).trans rfl
  have kb1 : W13.cell? ⟨gb, 1, none⟩ = some (.slice XR (pFate 1 (tL l) r p percent).length dR) := (blk_cell HGB13.out 1).trans rfl
  have kb2 : W13.cell? ⟨gb, 2, none⟩ = some (.slice XK (pFate 2 (tL l) r p percent).length dK) := (blk_cell HGB13.out 2).trans rfl
  have kb3 : W13.cell? ⟨gb, 3, none⟩ = some (.slice XS (pStay (tL l) r p percent).length dS) := (blk_cell HGB13.out 3).trans rfl
  have kb4 : W13.cell? ⟨gb, 4, none⟩ = some (.slice XM (pMove (tL l) r p percent).length dM) := (blk_cell HGB13.out 4).trans rfl
  have kr : W13.cell? ⟨gr, 0, none⟩ = some (.slice AL (tL l).length cL) := (blk_cell HGR.out 0).trans rfl
  have hS : ∀ W : World, Below W13.heap.size W13 W → (W.cell? ⟨ga, 0, none⟩ = some (.slice AD (pFate 0 (tL l) r p percent).length cD) ∧ W.cell? ⟨ga, 1, none⟩ = some (.slice AR (pFate 1 (tL l) r p percent).length cR) ∧ W.cell? ⟨ga, 2, none⟩ = some (.slice AK (pFate 2 (tL l) r p percent).length cK) ∧ W.cell? ⟨ga, 3, none⟩ = some (.slice AS (pStay (tL l) r p percent).length cS) ∧ W.cell? ⟨ga, 4, none⟩ = some (.slice AM (pMove (tL l) r p percent).length cM) ∧ W.cell? ⟨gb, 0, none⟩ = some (.slice XD (pFate 0 (tL l) r p percent).length dD) ∧ W.cell? ⟨gb, 1, none⟩ = some (.slice XR (pFate 1 (tL l) r p percent).length dR) ∧ W.cell? ⟨gb, 2, none⟩ = some (.slice XK (pFate 2 (tL l) r p percent).length dK) ∧ W.cell? ⟨gb, 3, none⟩ = some (.slice XS (pStay (tL l) r p percent).length dS) ∧ W.cell? ⟨gb, 4, none⟩ = some (.slice XM (pMove (tL l) r p percent).length dM) ∧ W.cell? ⟨gr, 0, none⟩ = some (.slice AL (tL l).length cL) ∧ Below W13.heap.size W13 W) := fun W hB => ⟨pw_cell_below hB ka0, pw_cell_below hB ka1, pw_cell_below hB ka2, pw_cell_below hB ka3, pw_cell_below hB ka4, pw_cell_below hB kb0, pw_cell_below hB kb1, pw_cell_below hB kb2, pw_cell_below hB kb3, pw_cell_below hB kb4, pw_cell_below hB kr, hB⟩
  have hK1 : ∀ W W' : World, (W.cell? ⟨ga, 0, none⟩ = some (.slice AD (pFate 0 (tL l) r p percent).length cD) ∧ W.cell? ⟨ga, 1, none⟩ = some (.slice AR (pFate 1 (tL l) r p percent).length cR) ∧ W.cell? ⟨ga, 2, none⟩ = some (.slice AK (pFate 2 (tL l) r p percent).length cK) ∧ W.cell? ⟨ga, 3, none⟩ = some (.slice AS (pStay (tL l) r p percent).length cS) ∧ W.cell? ⟨ga, 4, none⟩ = some (.slice AM (pMove (tL l) r p percent).length cM) ∧ W.cell? ⟨gb, 0, none⟩ = some (.slice XD (pFate 0 (tL l) r p percent).length dD) ∧ W.cell? ⟨gb, 1, none⟩ = some (.slice XR (pFate 1 (tL l) r p percent).length dR) ∧ W.cell? ⟨gb, 2, none⟩ = some (.slice XK (pFate 2 (tL l) r p percent).length dK) ∧ W.cell? ⟨gb, 3, none⟩ = some (.slice XS (pStay (tL l) r p percent).length dS) ∧ W.cell? ⟨gb, 4, none⟩ = some (.slice XM (pMove (tL l) r p percent).length dM) ∧ W.cell? ⟨gr, 0, none⟩ = some (.slice AL (tL l).length cL) ∧ Below W13.heap.size W13 W) → Below W.heap.size W W' → (W'.cell? ⟨ga, 0, none⟩ = some (.slice AD (pFate 0 (tL l) r p percent).length cD) ∧ W'.cell? ⟨ga, 1, none⟩ = some (.slice AR (pFate 1 (tL l) r p percent).length cR) ∧ W'.cell? ⟨ga, 2, none⟩ = some (.slice AK (pFate 2 (tL l) r p percent).length cK) ∧ W'.cell? ⟨ga, 3, none⟩ = some (.slice AS (pStay (tL l) r p percent).length cS) ∧ W'.cell? ⟨ga, 4, none⟩ = some (.slice AM (pMove (tL l) r p percent).length cM) ∧ W'.cell? ⟨gb, 0, none⟩ = some (.slice XD (pFate 0 (tL l) r p percent).length dD) ∧ W'.cell? ⟨gb, 1, none⟩ = some (.slice XR (pFate 1 (tL l) r p percent).length dR) ∧ W'.cell? ⟨gb, 2, none⟩ = some (.slice XK (pFate 2 (tL l) r p percent).length dK) ∧ W'.cell? ⟨gb, 3, none⟩ = some (.slice XS (pStay (tL l) r p percent).length dS) ∧ W'.cell? ⟨gb, 4, none⟩ = some (.slice XM (pMove (tL l) r p percent).length dM) ∧ W'.cell? ⟨gr, 0, none⟩ = some (.slice AL (tL l).length cL) ∧ Below W13.heap.size W13 W') := fun W W' h hB => hS _ (below_step (h.2.2.2.2.2.2.2.2.2.2.2) hB)
  have hqD : ∀ W : World, (W.cell? ⟨ga, 0, none⟩ = some (.slice AD (pFate 0 (tL l) r p percent).length cD) ∧ W.cell? ⟨ga, 1, none⟩ = some (.slice AR (pFate 1 (tL l) r p percent).length cR) ∧ W.cell? ⟨ga, 2, none⟩ = some (.slice AK (pFate 2 (tL l) r p percent).length cK) ∧ W.cell? ⟨ga, 3, none⟩ = some (.slice AS (pStay (tL l) r p percent).length cS) ∧ W.cell? ⟨ga, 4, none⟩ = some (.slice AM (pMove (tL l) r p percent).length cM) ∧ W.cell? ⟨gb, 0, none⟩ = some (.slice XD (pFate 0 (tL l) r p percent).length dD) ∧ W.cell? ⟨gb, 1, none⟩ = some (.slice XR (pFate 1 (tL l) r p percent).length dR) ∧ W.cell? ⟨gb, 2, none⟩ = some (.slice XK (pFate 2 (tL l) r p percent).length dK) ∧ W.cell? ⟨gb, 3, none⟩ = some (.slice XS (pStay (tL l) r p percent).length dS) ∧ W.cell? ⟨gb, 4, none⟩ = some (.slice XM (pMove (tL l) r p percent).length dM) ∧ W.cell? ⟨gr, 0, none⟩ = some (.slice AL (tL l).length cL) ∧ Below W13.heap.size W13 W) → Calls Try.prog 13 #[.slice AD (pFate 0 (tL l) r p percent).length cD, .slice XD (pFate 0 (tL l) r p percent).length dD] W fun e w' => e = .returned (.bool true) ∧ Below W.heap.size W w' := fun W h => by
    have hc := same_calls AD XD cD dD (pFate 0 (tL l) r p percent) (pFate 0 (tL l) r p percent) W (Kd.C_below (HPA.out.1.2) (below_step HBX13.out (h.2.2.2.2.2.2.2.2.2.2.2))) HPA.out.1.1 (Kd.C_below (HPX.out.1.2) (below_step HBX13.out (h.2.2.2.2.2.2.2.2.2.2.2))) HPX.out.1.1 (HLF.out 0)
    rw [decide_eq_true (rfl : (pFate 0 (tL l) r p percent) = (pFate 0 (tL l) r p percent))] at hc
    exact hc
  have hqR : ∀ W : World, (W.cell? ⟨ga, 0, none⟩ = some (.slice AD (pFate 0 (tL l) r p percent).length cD) ∧ W.cell? ⟨ga, 1, none⟩ = some (.slice AR (pFate 1 (tL l) r p percent).length cR) ∧ W.cell? ⟨ga, 2, none⟩ = some (.slice AK (pFate 2 (tL l) r p percent).length cK) ∧ W.cell? ⟨ga, 3, none⟩ = some (.slice AS (pStay (tL l) r p percent).length cS) ∧ W.cell? ⟨ga, 4, none⟩ = some (.slice AM (pMove (tL l) r p percent).length cM) ∧ W.cell? ⟨gb, 0, none⟩ = some (.slice XD (pFate 0 (tL l) r p percent).length dD) ∧ W.cell? ⟨gb, 1, none⟩ = some (.slice XR (pFate 1 (tL l) r p percent).length dR) ∧ W.cell? ⟨gb, 2, none⟩ = some (.slice XK (pFate 2 (tL l) r p percent).length dK) ∧ W.cell? ⟨gb, 3, none⟩ = some (.slice XS (pStay (tL l) r p percent).length dS) ∧ W.cell? ⟨gb, 4, none⟩ = some (.slice XM (pMove (tL l) r p percent).length dM) ∧ W.cell? ⟨gr, 0, none⟩ = some (.slice AL (tL l).length cL) ∧ Below W13.heap.size W13 W) → Calls Try.prog 13 #[.slice AR (pFate 1 (tL l) r p percent).length cR, .slice XR (pFate 1 (tL l) r p percent).length dR] W fun e w' => e = .returned (.bool true) ∧ Below W.heap.size W w' := fun W h => by
    have hc := same_calls AR XR cR dR (pFate 1 (tL l) r p percent) (pFate 1 (tL l) r p percent) W (Kd.C_below (HPA.out.2.1.2) (below_step HBX13.out (h.2.2.2.2.2.2.2.2.2.2.2))) HPA.out.2.1.1 (Kd.C_below (HPX.out.2.1.2) (below_step HBX13.out (h.2.2.2.2.2.2.2.2.2.2.2))) HPX.out.2.1.1 (HLF.out 1)
    rw [decide_eq_true (rfl : (pFate 1 (tL l) r p percent) = (pFate 1 (tL l) r p percent))] at hc
    exact hc
  have hqK : ∀ W : World, (W.cell? ⟨ga, 0, none⟩ = some (.slice AD (pFate 0 (tL l) r p percent).length cD) ∧ W.cell? ⟨ga, 1, none⟩ = some (.slice AR (pFate 1 (tL l) r p percent).length cR) ∧ W.cell? ⟨ga, 2, none⟩ = some (.slice AK (pFate 2 (tL l) r p percent).length cK) ∧ W.cell? ⟨ga, 3, none⟩ = some (.slice AS (pStay (tL l) r p percent).length cS) ∧ W.cell? ⟨ga, 4, none⟩ = some (.slice AM (pMove (tL l) r p percent).length cM) ∧ W.cell? ⟨gb, 0, none⟩ = some (.slice XD (pFate 0 (tL l) r p percent).length dD) ∧ W.cell? ⟨gb, 1, none⟩ = some (.slice XR (pFate 1 (tL l) r p percent).length dR) ∧ W.cell? ⟨gb, 2, none⟩ = some (.slice XK (pFate 2 (tL l) r p percent).length dK) ∧ W.cell? ⟨gb, 3, none⟩ = some (.slice XS (pStay (tL l) r p percent).length dS) ∧ W.cell? ⟨gb, 4, none⟩ = some (.slice XM (pMove (tL l) r p percent).length dM) ∧ W.cell? ⟨gr, 0, none⟩ = some (.slice AL (tL l).length cL) ∧ Below W13.heap.size W13 W) → Calls Try.prog 13 #[.slice AK (pFate 2 (tL l) r p percent).length cK, .slice XK (pFate 2 (tL l) r p percent).length dK] W fun e w' => e = .returned (.bool true) ∧ Below W.heap.size W w' := fun W h => by
    have hc := same_calls AK XK cK dK (pFate 2 (tL l) r p percent) (pFate 2 (tL l) r p percent) W (Kd.C_below (HPA.out.2.2.1.2) (below_step HBX13.out (h.2.2.2.2.2.2.2.2.2.2.2))) HPA.out.2.2.1.1 (Kd.C_below (HPX.out.2.2.1.2) (below_step HBX13.out (h.2.2.2.2.2.2.2.2.2.2.2))) HPX.out.2.2.1.1 (HLF.out 2)
    rw [decide_eq_true (rfl : (pFate 2 (tL l) r p percent) = (pFate 2 (tL l) r p percent))] at hc
    exact hc
  have hqS : ∀ W : World, (W.cell? ⟨ga, 0, none⟩ = some (.slice AD (pFate 0 (tL l) r p percent).length cD) ∧ W.cell? ⟨ga, 1, none⟩ = some (.slice AR (pFate 1 (tL l) r p percent).length cR) ∧ W.cell? ⟨ga, 2, none⟩ = some (.slice AK (pFate 2 (tL l) r p percent).length cK) ∧ W.cell? ⟨ga, 3, none⟩ = some (.slice AS (pStay (tL l) r p percent).length cS) ∧ W.cell? ⟨ga, 4, none⟩ = some (.slice AM (pMove (tL l) r p percent).length cM) ∧ W.cell? ⟨gb, 0, none⟩ = some (.slice XD (pFate 0 (tL l) r p percent).length dD) ∧ W.cell? ⟨gb, 1, none⟩ = some (.slice XR (pFate 1 (tL l) r p percent).length dR) ∧ W.cell? ⟨gb, 2, none⟩ = some (.slice XK (pFate 2 (tL l) r p percent).length dK) ∧ W.cell? ⟨gb, 3, none⟩ = some (.slice XS (pStay (tL l) r p percent).length dS) ∧ W.cell? ⟨gb, 4, none⟩ = some (.slice XM (pMove (tL l) r p percent).length dM) ∧ W.cell? ⟨gr, 0, none⟩ = some (.slice AL (tL l).length cL) ∧ Below W13.heap.size W13 W) → Calls Try.prog 14 #[.slice AS (pStay (tL l) r p percent).length cS, .slice XS (pStay (tL l) r p percent).length dS] W fun e w' => e = .returned (.bool true) ∧ Below W.heap.size W w' := fun W h => by
    have hc := items_calls AS XS cS dS (pStay (tL l) r p percent) (pStay (tL l) r p percent) W (Kd.C_below (HPA.out.2.2.2.1.2) (below_step HBX13.out (h.2.2.2.2.2.2.2.2.2.2.2))) HPA.out.2.2.2.1.1 (Kd.C_below (HPX.out.2.2.2.1.2) (below_step HBX13.out (h.2.2.2.2.2.2.2.2.2.2.2))) HPX.out.2.2.2.1.1 (HLS.out)
    rw [decide_eq_true (rfl : (pStay (tL l) r p percent) = (pStay (tL l) r p percent))] at hc
    exact hc
  have hqM : ∀ W : World, (W.cell? ⟨ga, 0, none⟩ = some (.slice AD (pFate 0 (tL l) r p percent).length cD) ∧ W.cell? ⟨ga, 1, none⟩ = some (.slice AR (pFate 1 (tL l) r p percent).length cR) ∧ W.cell? ⟨ga, 2, none⟩ = some (.slice AK (pFate 2 (tL l) r p percent).length cK) ∧ W.cell? ⟨ga, 3, none⟩ = some (.slice AS (pStay (tL l) r p percent).length cS) ∧ W.cell? ⟨ga, 4, none⟩ = some (.slice AM (pMove (tL l) r p percent).length cM) ∧ W.cell? ⟨gb, 0, none⟩ = some (.slice XD (pFate 0 (tL l) r p percent).length dD) ∧ W.cell? ⟨gb, 1, none⟩ = some (.slice XR (pFate 1 (tL l) r p percent).length dR) ∧ W.cell? ⟨gb, 2, none⟩ = some (.slice XK (pFate 2 (tL l) r p percent).length dK) ∧ W.cell? ⟨gb, 3, none⟩ = some (.slice XS (pStay (tL l) r p percent).length dS) ∧ W.cell? ⟨gb, 4, none⟩ = some (.slice XM (pMove (tL l) r p percent).length dM) ∧ W.cell? ⟨gr, 0, none⟩ = some (.slice AL (tL l).length cL) ∧ Below W13.heap.size W13 W) → Calls Try.prog 13 #[.slice AM (pMove (tL l) r p percent).length cM, .slice XM (pMove (tL l) r p percent).length dM] W fun e w' => e = .returned (.bool true) ∧ Below W.heap.size W w' := fun W h => by
    have hc := same_calls AM XM cM dM (pMove (tL l) r p percent) (pMove (tL l) r p percent) W (Kd.C_below (HPA.out.2.2.2.2.2) (below_step HBX13.out (h.2.2.2.2.2.2.2.2.2.2.2))) HPA.out.2.2.2.2.1 (Kd.C_below (HPX.out.2.2.2.2.2) (below_step HBX13.out (h.2.2.2.2.2.2.2.2.2.2.2))) HPX.out.2.2.2.2.1 (HLM.out)
    rw [decide_eq_true (rfl : (pMove (tL l) r p percent) = (pMove (tL l) r p percent))] at hc
    exact hc
  have hk1 : ∀ W : World, (W.cell? ⟨ga, 0, none⟩ = some (.slice AD (pFate 0 (tL l) r p percent).length cD) ∧ W.cell? ⟨ga, 1, none⟩ = some (.slice AR (pFate 1 (tL l) r p percent).length cR) ∧ W.cell? ⟨ga, 2, none⟩ = some (.slice AK (pFate 2 (tL l) r p percent).length cK) ∧ W.cell? ⟨ga, 3, none⟩ = some (.slice AS (pStay (tL l) r p percent).length cS) ∧ W.cell? ⟨ga, 4, none⟩ = some (.slice AM (pMove (tL l) r p percent).length cM) ∧ W.cell? ⟨gb, 0, none⟩ = some (.slice XD (pFate 0 (tL l) r p percent).length dD) ∧ W.cell? ⟨gb, 1, none⟩ = some (.slice XR (pFate 1 (tL l) r p percent).length dR) ∧ W.cell? ⟨gb, 2, none⟩ = some (.slice XK (pFate 2 (tL l) r p percent).length dK) ∧ W.cell? ⟨gb, 3, none⟩ = some (.slice XS (pStay (tL l) r p percent).length dS) ∧ W.cell? ⟨gb, 4, none⟩ = some (.slice XM (pMove (tL l) r p percent).length dM) ∧ W.cell? ⟨gr, 0, none⟩ = some (.slice AL (tL l).length cL) ∧ Below W13.heap.size W13 W) → Calls Try.prog 15 #[.slice E1 r.length b1, .slice A1 r.length c1] W fun e w' => e = .returned (.bool true) ∧ Below W.heap.size W w' := fun W h => kept_calls E1 A1 b1 c1 r W (Kd.C_below HE110.out (below_step HBX13.out (h.2.2.2.2.2.2.2.2.2.2.2))) HB1.out (Kd.C_below H1.out (below_step HB13.out (h.2.2.2.2.2.2.2.2.2.2.2))) hc1 (by omega)
  have hk2 : ∀ W : World, (W.cell? ⟨ga, 0, none⟩ = some (.slice AD (pFate 0 (tL l) r p percent).length cD) ∧ W.cell? ⟨ga, 1, none⟩ = some (.slice AR (pFate 1 (tL l) r p percent).length cR) ∧ W.cell? ⟨ga, 2, none⟩ = some (.slice AK (pFate 2 (tL l) r p percent).length cK) ∧ W.cell? ⟨ga, 3, none⟩ = some (.slice AS (pStay (tL l) r p percent).length cS) ∧ W.cell? ⟨ga, 4, none⟩ = some (.slice AM (pMove (tL l) r p percent).length cM) ∧ W.cell? ⟨gb, 0, none⟩ = some (.slice XD (pFate 0 (tL l) r p percent).length dD) ∧ W.cell? ⟨gb, 1, none⟩ = some (.slice XR (pFate 1 (tL l) r p percent).length dR) ∧ W.cell? ⟨gb, 2, none⟩ = some (.slice XK (pFate 2 (tL l) r p percent).length dK) ∧ W.cell? ⟨gb, 3, none⟩ = some (.slice XS (pStay (tL l) r p percent).length dS) ∧ W.cell? ⟨gb, 4, none⟩ = some (.slice XM (pMove (tL l) r p percent).length dM) ∧ W.cell? ⟨gr, 0, none⟩ = some (.slice AL (tL l).length cL) ∧ Below W13.heap.size W13 W) → Calls Try.prog 15 #[.slice E2 p.length b2, .slice A2 p.length c2] W fun e w' => e = .returned (.bool true) ∧ Below W.heap.size W w' := fun W h => kept_calls E2 A2 b2 c2 p W (Kd.C_below HE210.out (below_step HBX13.out (h.2.2.2.2.2.2.2.2.2.2.2))) HB2.out (Kd.C_below H2.out (below_step HB13.out (h.2.2.2.2.2.2.2.2.2.2.2))) hc2 (by omega)
  have hall : ∀ W : World, (W.cell? ⟨ga, 0, none⟩ = some (.slice AD (pFate 0 (tL l) r p percent).length cD) ∧ W.cell? ⟨ga, 1, none⟩ = some (.slice AR (pFate 1 (tL l) r p percent).length cR) ∧ W.cell? ⟨ga, 2, none⟩ = some (.slice AK (pFate 2 (tL l) r p percent).length cK) ∧ W.cell? ⟨ga, 3, none⟩ = some (.slice AS (pStay (tL l) r p percent).length cS) ∧ W.cell? ⟨ga, 4, none⟩ = some (.slice AM (pMove (tL l) r p percent).length cM) ∧ W.cell? ⟨gb, 0, none⟩ = some (.slice XD (pFate 0 (tL l) r p percent).length dD) ∧ W.cell? ⟨gb, 1, none⟩ = some (.slice XR (pFate 1 (tL l) r p percent).length dR) ∧ W.cell? ⟨gb, 2, none⟩ = some (.slice XK (pFate 2 (tL l) r p percent).length dK) ∧ W.cell? ⟨gb, 3, none⟩ = some (.slice XS (pStay (tL l) r p percent).length dS) ∧ W.cell? ⟨gb, 4, none⟩ = some (.slice XM (pMove (tL l) r p percent).length dM) ∧ W.cell? ⟨gr, 0, none⟩ = some (.slice AL (tL l).length cL) ∧ Below W13.heap.size W13 W) → Calls Try.prog 16 #[.pointer (some ⟨g, 0, none⟩)] W fun e w' => ∃ v, e = .returned v ∧ Kd.R k52 52 w' W.heap.size (fun _ => True) v (allF (tF l)) ∧ Below W.heap.size W w' := fun W h => all_calls B g (tF l) W (HT13.out.below (h.2.2.2.2.2.2.2.2.2.2.2)) (by rw [tF_all]; have := HLL.out; omega)
  have hit : ∀ (A6 : Option Addr) (c6 : Nat) (W : World), (W.cell? ⟨ga, 0, none⟩ = some (.slice AD (pFate 0 (tL l) r p percent).length cD) ∧ W.cell? ⟨ga, 1, none⟩ = some (.slice AR (pFate 1 (tL l) r p percent).length cR) ∧ W.cell? ⟨ga, 2, none⟩ = some (.slice AK (pFate 2 (tL l) r p percent).length cK) ∧ W.cell? ⟨ga, 3, none⟩ = some (.slice AS (pStay (tL l) r p percent).length cS) ∧ W.cell? ⟨ga, 4, none⟩ = some (.slice AM (pMove (tL l) r p percent).length cM) ∧ W.cell? ⟨gb, 0, none⟩ = some (.slice XD (pFate 0 (tL l) r p percent).length dD) ∧ W.cell? ⟨gb, 1, none⟩ = some (.slice XR (pFate 1 (tL l) r p percent).length dR) ∧ W.cell? ⟨gb, 2, none⟩ = some (.slice XK (pFate 2 (tL l) r p percent).length dK) ∧ W.cell? ⟨gb, 3, none⟩ = some (.slice XS (pStay (tL l) r p percent).length dS) ∧ W.cell? ⟨gb, 4, none⟩ = some (.slice XM (pMove (tL l) r p percent).length dM) ∧ W.cell? ⟨gr, 0, none⟩ = some (.slice AL (tL l).length cL) ∧ Below W13.heap.size W13 W) → ((tL l).length ≤ c6 ∧ Kd.C k52 W A6 (tL l).length (tL l)) → Calls Try.prog 14 #[.slice A6 (tL l).length c6, .slice AL (tL l).length cL] W fun e w' => e = .returned (.bool true) ∧ Below W.heap.size W w' := fun A6 c6 W h h6 => by
    have hc := items_calls A6 AL c6 cL (tL l) (tL l) W h6.2 h6.1 (Kd.C_below HCL.out.2 (h.2.2.2.2.2.2.2.2.2.2.2)) HCL.out.1 (by have := HLL.out; omega)
    rw [decide_eq_true (rfl : tL l = tL l)] at hc
    exact hc
  obtain ⟨kc, hkc⟩ : ∃ kc, kc = pCode percent := ⟨_, rfl⟩
  rw [← hkc]
  clear hkc
  simp only [List.append_eq, List.cons_append, List.nil_append]
  go_region_held3 (fun W => W.cell? ⟨ga, 0, none⟩ = some (.slice AD (pFate 0 (tL l) r p percent).length cD) ∧ W.cell? ⟨ga, 1, none⟩ = some (.slice AR (pFate 1 (tL l) r p percent).length cR) ∧ W.cell? ⟨ga, 2, none⟩ = some (.slice AK (pFate 2 (tL l) r p percent).length cK) ∧ W.cell? ⟨ga, 3, none⟩ = some (.slice AS (pStay (tL l) r p percent).length cS) ∧ W.cell? ⟨ga, 4, none⟩ = some (.slice AM (pMove (tL l) r p percent).length cM) ∧ W.cell? ⟨gb, 0, none⟩ = some (.slice XD (pFate 0 (tL l) r p percent).length dD) ∧ W.cell? ⟨gb, 1, none⟩ = some (.slice XR (pFate 1 (tL l) r p percent).length dR) ∧ W.cell? ⟨gb, 2, none⟩ = some (.slice XK (pFate 2 (tL l) r p percent).length dK) ∧ W.cell? ⟨gb, 3, none⟩ = some (.slice XS (pStay (tL l) r p percent).length dS) ∧ W.cell? ⟨gb, 4, none⟩ = some (.slice XM (pMove (tL l) r p percent).length dM) ∧ W.cell? ⟨gr, 0, none⟩ = some (.slice AL (tL l).length cL) ∧ Below W13.heap.size W13 W) (first | (with_reducible assumption) | (with_reducible exact hS _ HB9) | (with_reducible exact hS _ (Below.refl _ _)) | (with_reducible exact hS _ (below_drew (Below.refl _ _))) | (with_reducible exact hK1 _ _ (by assumption) (by assumption)) | (with_reducible exact hK1 _ _ (by assumption) (below_drew (Below.refl _ _)))) (first | (go_at_call 13; (with_reducible refine (hqD _ (by assumption)).mono ?_); rintro e w9 ⟨rfl, hB⟩; have HB9 : Below W13.heap.size W13 w9 := (hK1 _ _ (by assumption) hB).2.2.2.2.2.2.2.2.2.2.2) | (go_at_call 13; (with_reducible refine (hqR _ (by assumption)).mono ?_); rintro e w9 ⟨rfl, hB⟩; have HB9 : Below W13.heap.size W13 w9 := (hK1 _ _ (by assumption) hB).2.2.2.2.2.2.2.2.2.2.2) | (go_at_call 13; (with_reducible refine (hqK _ (by assumption)).mono ?_); rintro e w9 ⟨rfl, hB⟩; have HB9 : Below W13.heap.size W13 w9 := (hK1 _ _ (by assumption) hB).2.2.2.2.2.2.2.2.2.2.2) | (go_at_call 14; (with_reducible refine (hqS _ (by assumption)).mono ?_); rintro e w9 ⟨rfl, hB⟩; have HB9 : Below W13.heap.size W13 w9 := (hK1 _ _ (by assumption) hB).2.2.2.2.2.2.2.2.2.2.2) | (go_at_call 13; (with_reducible refine (hqM _ (by assumption)).mono ?_); rintro e w9 ⟨rfl, hB⟩; have HB9 : Below W13.heap.size W13 w9 := (hK1 _ _ (by assumption) hB).2.2.2.2.2.2.2.2.2.2.2) | (go_at_call 15; (with_reducible refine (hk1 _ (by assumption)).mono ?_); rintro e w9 ⟨rfl, hB⟩; have HB9 : Below W13.heap.size W13 w9 := (hK1 _ _ (by assumption) hB).2.2.2.2.2.2.2.2.2.2.2) | (go_at_call 15; (with_reducible refine (hk2 _ (by assumption)).mono ?_); rintro e w9 ⟨rfl, hB⟩; have HB9 : Below W13.heap.size W13 w9 := (hK1 _ _ (by assumption) hB).2.2.2.2.2.2.2.2.2.2.2) | (go_at_call 16; (with_reducible refine (hall _ (by assumption)).mono ?_); rintro e w9 ⟨v, rfl, hR, hB⟩; rw [tF_all] at hR; obtain ⟨A6, c6, rfl, h6, hC6⟩ := Kd.R_reads hR; have HC6 := Aside0.mk (And.intro h6 hC6); clear hR h6 hC6; have HB9 : Below W13.heap.size W13 w9 := (hK1 _ _ (by assumption) hB).2.2.2.2.2.2.2.2.2.2.2) | (go_at_call 14; (with_reducible refine (hit A6 c6 _ (by assumption) HC6.out).mono ?_); rintro e w9 ⟨rfl, hB⟩; have HB9 : Below W13.heap.size W13 w9 := (hK1 _ _ (by assumption) hB).2.2.2.2.2.2.2.2.2.2.2) | (go_at_call 6; (with_reducible refine (hwk _).mono ?_); rintro e w9 ⟨rfl, hB⟩; have HB9 : Below W13.heap.size W13 w9 := (hK1 _ _ (by assumption) hB).2.2.2.2.2.2.2.2.2.2.2))
  go_wp2_with (fail)
  go_ret
  exact ⟨rfl, below_step HB13.out HB9⟩
end Go.Proofs.Ytoiedcnhojkpiaa.Q
