/- The law DiffTexts, walked over the contracts. -/
import Derived.Test.YtkbofkpkemfedaaDoorHWorks
import Derived.Test.YtkbofkpkemfedaaDoorQx32
import Derived.Deep.RegionHeld3
import Derived.Lib.SmallJoins


namespace Go.Proofs.YtkbofkpkemfedaaDoor.Q
open Go.RowKit Go.Proofs.YtkbofkpkemfedaaDoorW.PrintWords Go.Proofs.YtkbofkpkemfedaaDoorW.PrintLast Go.Proofs.YtkbofkpkemfedaaDoorW.PrintMore
attribute [local go_sem] max2_int min2_int max_two min_two max_three min_three max_four min_four
/-- A change in the document's words. -/
def to35 (x : S32) : S35 := ⟨x.f0, x.f1⟩
theorem same_loop (xs : List S32) (hl : xs.length ≤ 1000) : ∀ (j i : Nat), i + j = xs.length → garretlaw27_same.l0 (j + 1) xs (xs.map to35) (i : Int) = some true
  | 0, i, hi => by
    unfold garretlaw27_same.l0
    rw [if_neg (by omega)]
  | j + 1, i, hi => by
    have wi : wrap64 ((i : Int) + 1) = ((i + 1 : Nat) : Int) := by unfold wrap64; omega
    have hlt : i < xs.length := by omega
    have e1 : rd_T32 xs (i : Int) = xs[i] := by unfold rd_T32; simp [List.getD_eq_getElem?_getD, List.getElem?_eq_getElem hlt]
    have e2 : rd_T35 (xs.map to35) (i : Int) = to35 xs[i] := by unfold rd_T35; simp [List.getD_eq_getElem?_getD, List.getElem?_eq_getElem hlt]
    unfold garretlaw27_same.l0
    rw [if_pos (by omega), if_pos (by omega), if_pos (by rw [List.length_map]; omega), e1, e2, if_pos (show xs[i].f0.toList = (to35 xs[i]).f0.toList from rfl), if_pos (show xs[i].f1 = (to35 xs[i]).f1 from rfl), wi]
    exact same_loop xs hl j (i + 1) (by omega)
theorem same_true (xs : List S32) (hl : xs.length ≤ 1000) : garretlaw27_same.f (xs.length + 1) xs (xs.map to35) = some true := by
  unfold garretlaw27_same.f
  rw [if_pos (by rw [List.length_map])]
  exact same_loop xs hl xs.length 0 (by omega)
theorem texts_loop (xs : List ByteArray) (hl : xs.length ≤ 1000) : ∀ (j i : Nat), i + j = xs.length → garretbook_SameTexts.l0 (j + 1) xs xs (i : Int) = some true
  | 0, i, hi => by
    unfold garretbook_SameTexts.l0
    rw [if_neg (by omega)]
  | j + 1, i, hi => by
    have wi : wrap64 ((i : Int) + 1) = ((i + 1 : Nat) : Int) := by unfold wrap64; omega
    unfold garretbook_SameTexts.l0
    rw [if_pos (by omega), if_pos (by omega), if_pos (by omega), if_pos rfl, wi]
    exact texts_loop xs hl j (i + 1) (by omega)
theorem texts_true (xs : List ByteArray) (hl : xs.length ≤ 1000) : garretbook_SameTexts.f (xs.length + 1) xs xs = some true := by
  unfold garretbook_SameTexts.f
  rw [if_pos rfl]
  exact texts_loop xs hl xs.length 0 (by omega)
theorem back_same (l : List S32) : (l.map to35).map back35 = (l.map back32).map to35 := by simp [List.map_map, Function.comp_def, to35, back35, back32]
theorem lines_same (l : List S32) : (l.map to35).map line35 = l.map lineOf := by simp [List.map_map, Function.comp_def, to35, line35, lineOf]
set_option maxHeartbeats 4000000 in
set_option maxRecDepth 100000 in
theorem law_short (A0 : Option Addr) (c0 : Nat) (l : List S32) (w : World) (hr0 : Kd.C k32 w A0 l.length l) (hc0 : l.length ≤ c0) (hL : Letters w) (hlen : l.length ≤ 1000) (hsz : ∀ x ∈ l, x.f0.size ≤ 140737488355328) :
    Calls Tryd.prog 4 #[.slice A0 l.length c0] w fun e w' => e = .returned (.bool true) ∧ Below w.heap.size w w' := by
  have HR0 := Aside0.mk hr0
  have HC0 := Aside0.mk hc0
  have HL := Aside0.mk hL
  have HLen := Aside0.mk hlen
  have HSZ := Aside0.mk hsz
  have d1 : decide ((l.length : Int) > 1000) = false := decide_eq_false (by omega)
  have d2 : decide (1000 < l.length) = false := decide_eq_false (by omega)
  clear hr0 hc0 hL hlen hsz
  have hu35 := Tryd.underlying35
  have HB := Aside0.mk (Below.refl w.heap.size w)
  go_enter Tryd.func4, Tryd.ntmps4
  go_wp2_with (fail)
  clear d1 d2
  go_loopw [3, 4] (fun v3 v4 w' => ∃ x : Int, v4 = .int .i64 x ∧ Aside0 (0 ≤ x ∧ x ≤ l.length) ∧ Aside0 (Kd.R k35 35 w' w.heap.size (fun _ => True) v3 ((l.take x.toNat).map to35)) ∧ Aside0 (Below w.heap.size w w')) (fun _ v4 _ => l.length + 1 - (intOf v4).toNat)
  case atStart => exact ⟨0, rfl, ⟨by omega⟩, ⟨by simpa using Kd.R_nil k35 35 w w.heap.size (fun _ => True)⟩, HB⟩
  case round =>
    obtain ⟨x, rfl, HX, HO, HBW⟩ := hrel
    clear HB
    have hx0 := HX.out.1
    by_cases c2 : x < (l.length : Int)
    · have c2b0 : decide (x < (l.length : Int)) = true := decide_eq_true c2
      obtain ⟨ad, e1, hx1, hx2⟩ := at_T32 HR0.out x hx0 c2
      cases e1
      have hx1w := Aside0.mk hx1
      have hx2w := Aside0.mk hx2
      have HT := Aside0.mk (take_next l z32 to35 x hx0 c2)
      change Aside0 (List.map to35 (List.take (x + 1).toNat l) = List.map to35 (List.take x.toNat l) ++ [to35 (rd_T32 l x)]) at HT
      have hzb := HLen.out
      have HLX : Aside0 (((l.take x.toNat).map to35).length ≤ 1000) := ⟨by simp only [List.length_map, List.length_take]; omega⟩
      generalize hD : rd_T32 l x = D at hx1 hx2 hx1w hx2w HT
      obtain ⟨p, K⟩ := D
      clear hD
      simp only at hx1 hx2 hx1w hx2w
      replace hx1 := (HBW.out.cell (World.block_lt_of_cell? w _ hx1)).trans hx1
      replace hx2 := (HBW.out.cell (World.block_lt_of_cell? w _ hx2)).trans hx2
      have hp1 := eq_true hx0
      have hp2 := eq_true c2
      go_wp2_with (fail)
      go_region_held3 (fun w' => w'.cell? (ad.add (x.toNat * 2)) = some (.string p) ∧ w'.cell? ⟨(ad.add (x.toNat * 2)).block, (ad.add (x.toNat * 2)).off + 1, none⟩ = some (.int .i64 K)) (first | (exact ⟨hx1, hx2⟩) | assumption | (exact ⟨hl9, hc9⟩) | go_keep)
        (first | ((rw [alloc_drew]); refine Kd.R_append_step k35 (w0 := w) (W := wr.drew) w.heap.size ?hw (.tmp 19) (.tmp 31) 34 35 (.agg #[(.string ⟨#[]⟩), (.int .i64 0)]) 24 ?ho Tryd.underlying34 info35 rfl (by decide) (by omega) u3 ((l.take x.toNat).map to35) (⟨p, K⟩ : S35) [.string p, .int .i64 K] (fun _ => True) (fun _ => False) ?hs ?hx ?aP (fun _ hk => hk.elim) (fun _ _ => trivial) ?aO ?aB ?aS ?aL ?_; (case hw => kernel_rfl); (case ho => rfl); (case hs => rfl); (case hx => rfl); (case aP => exact k35_mkM _ _ _ (⟨p, K⟩ : S35)); (case aB => exact below_drew1 HBW.out); (case aO => exact Kd.R_drew HO.out); (case aS => exact HBW.out.size); (case aL => have := HLX.out; omega); intro v9 w9 ho hb hg hat; have HO9 := Aside0.mk ho; have HB9 := Aside0.mk hb; have hl9 := (hb.cell (World.block_lt_of_cell? w _ hx1w.out)).trans hx1w.out; have hc9 := (hb.cell (World.block_lt_of_cell? w _ hx2w.out)).trans hx2w.out; clear ho hb hg hat))
      go_wp2_with (fail)
      go_roundw
      case rel => exact ⟨x + 1, by first | rfl | (go_num; done), ⟨by omega⟩, ⟨by rw [HT.out]; exact HO9.out⟩, HB9⟩
      case measure => (simp [intOf]; omega)
    · have hxl : x = l.length := by have := HX.out; omega
      subst hxl
      have hO : Kd.R k35 35 wr w.heap.size (fun _ => True) u3 (l.map to35) := by have h := HO.out; simpa using h
      have HOK := Aside0.mk hO
      clear hO HO HX
      have hlm : (l.map to35).length = l.length := List.length_map ..
      have hlb : (l.map back32).length = l.length := List.length_map ..
      have hls : ((l.map to35).map back35).length = l.length := by rw [List.length_map, List.length_map]
      have HLM := Aside0.mk hlm
      have HLBk := Aside0.mk hlb
      have HLS := Aside0.mk hls
      clear hlm hlb hls c2
      go_upto_region 9 with (first
        | ((with_reducible refine gate_dst (N := 33) rfl ?_); refine Kd.R_lit k32 (w0 := wr) wr.heap.size 32 ?hg (N := 33) ?hd (xs := ([] : List S32)) (inner := []) (ok := fun _ => True) (okp := fun _ => True) ?hr ?hp (fun _ hk => hk) trivial (Below.refl _ _) (Nat.le_refl _) (by simp) ?_; (case hd => rfl); (case hg => rfl); (case hr => first | (go_simp; done) | (go_simp; rfl)); (case hp => exact Reps.none _ _); intro v1 w1 ho hb hg_ hnew_; have HO1 := Aside0.mk ho; have HB1 := Aside0.mk hb; clear ho hb hg_ hnew_)
        | ((with_reducible refine gate_builtin (b := .append) (xs := #[.tmp 33, .tmp 34]) rfl ?_); at_builtin; refine Kd.R_append_rows k32 (Rr := k32.K w1) (w0 := wr) wr.heap.size ?hg (.tmp 33) (.tmp 34) 29 32 (.agg #[(.string ⟨#[]⟩), (.int .i64 0)]) 24 ?ho Tryd.underlying29 info32 rfl (by decide) (by omega) v1 [] l A0 l.length c0 (fun _ => True) (fun _ => False) ?hs ?hx ?aO ?aR ?aK (fun _ hk => hk.elim) (fun _ _ => trivial) ?aB ?aS ?aL ?_; (case hg => rfl); (case ho => rfl); (case hs => rfl); (case hx => rfl); (case aO => exact HO1.out); (case aR => exact Kd.C_below HR0.out (below_step HBW.out HB1.out)); (case aK => intro y cs hy; rw [k32_open hy]; exact k32_mkM _ _ _ y); (case aB => exact HB1.out); (case aS => exact HB1.out.size); (case aL => have := HLen.out; simp; omega); intro v2 w2 ho hb hg_ hnew_; have HO2 := Aside0.mk ho; have HB2 := Aside0.mk hb; clear ho hb hg_ hnew_))
      have hk2 := Kd.R_elder HOK.out HO2.out HB2.out
      have ho2 := HO2.out
      rw [List.nil_append] at ho2
      have HBw2 := Aside0.mk (below_step HBW.out HB2.out)
      obtain ⟨A2, c2, rfl, hc2, hC2⟩ := Kd.R_reads ho2
      obtain ⟨A3, c3, he3, hc3, hC3⟩ := Kd.R_reads hk2
      rw [HLM.out] at he3 hc3
      subst he3
      have HOwn2 := Aside0.mk ho2
      have HKk2 := Aside0.mk hk2
      have HCown2 := Aside0.mk hC2
      have HNown := Aside0.mk hc2
      have HNk := Aside0.mk hc3
      clear ho2 hk2 hC2 hc2 hC3 hc3 HOK HO2 HO1 HB1 HB2 HBW
      have hsz3 : ∀ x ∈ l.map to35, x.f0.size ≤ 140737488355328 := by
        intro x hx
        obtain ⟨y, hy, rfl⟩ := List.mem_map.1 hx
        exact HSZ.out y hy
      have HSZ3 := Aside0.mk hsz3
      clear hsz3
      have F1 := Aside0.mk (same_true (l.map back32) (by have := HLBk.out; have := HLen.out; omega))
      have F2 := Aside0.mk (texts_true (l.map lineOf) (by have := HLen.out; rw [List.length_map]; omega))
      have F3 := Aside0.mk (same_true l HLen.out)
      have HNk' : Aside0 ((l.map to35).length ≤ c3) := ⟨by rw [HLM.out]; exact HNk.out⟩
      go_upto_region 10 with (go_at_call 8; refine (diff_Back_calls A2 c2 l w2 HCown2.out HNown.out (by have := HLen.out; omega) HSZ.out).mono ?_; rintro e w6 ⟨v6, rfl, ho, hb⟩; have HOwn6 := Aside0.mk (Kd.R_elder HOwn2.out ho hb); have HKk6 := Aside0.mk (Kd.R_elder HKk2.out ho hb); have HOb6 := Aside0.mk ho; have HBw6 := Aside0.mk (below_step HBw2.out hb); clear ho hb)
      have HSz2 : Aside0 (w.heap.size ≤ w2.heap.size) := ⟨HBw2.out.size⟩
      clear HOwn2 HKk2 HCown2 HBw2
      have hC2 : Kd.C k32 w6 A2 l.length l := (Kd.R_reads' HOwn6.out).2.2
      have hC3 : Kd.C k35 w6 A3 (l.map to35).length (l.map to35) := (Kd.R_reads' HKk6.out).2.2
      obtain ⟨A6, c6, he6, hc6, hC6⟩ := Kd.R_reads HOb6.out
      have hcb : (l.map back32).length ≤ c6 := hc6
      rw [HLBk.out] at he6
      have HE6 := Aside0.mk he6
      have HCo := Aside0.mk hC2
      have HCk := Aside0.mk hC3
      have HCb := Aside0.mk hC6
      have HNb := Aside0.mk hcb
      subst he6
      clear hC2 hC3 hC6 hc6 hcb
      go_upto_region 11 with (first
        | (go_at_call 10; have hcc := ref_Back_calls A3 c3 (l.map to35) w6 HCk.out HNk'.out (by have := HLen.out; have := HLM.out; omega) HSZ3.out; simp only [List.length_map] at hcc; refine hcc.mono ?_; rintro e w7 ⟨v7, rfl, ho, hb⟩; obtain ⟨A7, c7, he7, hc7, hC7⟩ := Kd.R_reads ho; rw [back_same] at hC7 hc7; have HC7 := Aside0.mk hC7; have HN7 := Aside0.mk hc7; rw [HLS.out] at he7; subst he7; have HB7 := Aside0.mk hb; clear ho hb hC7 hc7 hcc)
        | (go_at_call 9; have hcc := garretlaw27_same.calls ((l.map back32).length + 1) A6 c6 (l.map back32) A7 c7 ((l.map back32).map to35) true w7 (Kd.C_below HCb.out HB7.out) HNb.out HC7.out HN7.out F1.out; simp only [List.length_map] at hcc; (with_reducible refine hcc.mono ?_); rintro e w8 ⟨rfl, m8, rfl⟩; have HB8 := Aside0.mk (pw_below_drewN HB7.out m8); clear hcc)
        | (go_at_call 12; (with_reducible refine (diff_Text_calls A2 c2 l _ (Kd.C_below HCo.out HB8.out) HNown.out (HL.out.below (below_step HBw6.out HB8.out)) (by have := HLen.out; omega) HSZ.out).mono ?_); rintro e w9 ⟨v9, rfl, ho, hb⟩; have HO9 := Aside0.mk ho; have HB9 := Aside0.mk (below_step HB8.out hb); clear ho hb)
        | (go_at_call 13; have hcc := ref_Text_calls A3 c3 (l.map to35) w9 (Kd.C_below HCk.out HB9.out) HNk'.out (by have := HLen.out; have := HLM.out; omega) HSZ3.out; simp only [List.length_map] at hcc; (with_reducible refine hcc.mono ?_); rintro e w10 ⟨v10, rfl, ho, hb⟩; have HO9' := Aside0.mk (Kd.R_below HO9.out hb); rw [lines_same] at ho; obtain ⟨A10, c10, he10, hc10, hC10⟩ := Kd.R_reads ho; obtain ⟨A9, c9, he9, hc9, hC9⟩ := Kd.R_reads HO9'.out; have HC10 := Aside0.mk hC10; have HN10 := Aside0.mk hc10; have HC9 := Aside0.mk hC9; have HN9 := Aside0.mk hc9; rw [List.length_map] at he10 he9; subst he10; subst he9; have HB10 := Aside0.mk (below_step HB9.out hb); clear ho hb hC10 hc10 hC9 hc9 hcc)
        | (go_at_call 11; have hcc := garretbook_SameTexts.calls ((l.map lineOf).length + 1) A9 c9 (l.map lineOf) A10 c10 (l.map lineOf) true w10 HC9.out HN9.out HC10.out HN10.out F2.out; simp only [List.length_map] at hcc; (with_reducible refine hcc.mono ?_); rintro e w11 ⟨rfl, m11, rfl⟩; have HB11 := Aside0.mk (pw_below_drewN HB10.out m11); clear hcc)
        | (go_at_call 9; have hcc := garretlaw27_same.calls (l.length + 1) A2 c2 l A3 c3 (l.map to35) true _ (Kd.C_below HCo.out HB11.out) HNown.out (Kd.C_below HCk.out HB11.out) HNk'.out F3.out; simp only [List.length_map] at hcc; (with_reducible refine hcc.mono ?_); rintro e w12 ⟨rfl, m12, rfl⟩; have HB12 := Aside0.mk (pw_below_drewN HB11.out m12); clear hcc))
      have hB12 := pw_below_drewN HB10.out (m11 + m12)
      obtain ⟨w12, hw12⟩ : ∃ w12, w12 = w10.drewN (m11 + m12) := ⟨_, rfl⟩
      rw [← hw12] at hB12 ⊢
      have hO12 : Kd.R k32 32 w12 wr.heap.size (fun k => some k ≠ (Value.slice A6 l.length c6).ownBlock) (.slice A2 l.length c2) l := Kd.R_mono (Kd.R_below HOwn6.out hB12) (fun k hk => hk.2)
      have hK12 : Kd.R k35 35 w12 w.heap.size (fun k => some k ≠ (Value.slice A6 l.length c6).ownBlock) (.slice A3 l.length c3) (l.map to35) := Kd.R_mono (Kd.R_below HKk6.out hB12) (fun k hk => hk.2)
      have hG : ∃ gb, w.heap.size ≤ gb ∧ (0 < l.length → A6 = some ⟨gb, 0, none⟩ ∧ ∃ cs : Array Value, w12.heap[gb]? = some (.cells cs 32 (0, 0)) ∧ 2 * l.length ≤ cs.size) := by
        obtain ⟨inner, hown⟩ := Kd.R_own HOb6.out
        rcases hown.2 with ⟨hv, hn⟩ | ⟨gb, cap, cur, hv, hb, hh, hnc, hcm, hcs, hrest⟩
        · refine ⟨w.heap.size, Nat.le_refl _, fun hp => ?_⟩
          rw [HLBk.out] at hn
          omega
        · injection hv with hv1 hv2 hv3
          refine ⟨gb, ?_, fun _ => ⟨hv1, cur, blk_below hh hB12, ?_⟩⟩
          · have := HSz2.out; omega
          · have e2 : k32.sz = 2 := rfl
            rw [HLBk.out] at hnc
            rw [e2] at hcs
            omega
      obtain ⟨gb, hgb, hG⟩ := hG
      have HO12 := Aside0.mk hO12
      have HK12 := Aside0.mk hK12
      have HGB := Aside0.mk hgb
      have HG12 := Aside0.mk hG
      have HBW12 := Aside0.mk (below_step HBw6.out hB12)
      clear hO12 hK12 hgb hG hw12 hB12 HOwn6 HKk6 HOb6 HCo HCk HCb HB7 HB8 HB9 HB10 HB11 HB12 HC7 HN7 HC9 HN9 HC10 HN10 HO9 HO9' HBw6 F1 F2
      go_wp2_with (fail)
      go_loopw [8] (fun v8 w' => ∃ x : Int, v8 = .int .i64 x ∧ Aside0 (0 ≤ x ∧ x ≤ l.length) ∧ Aside0 (Kd.R k32 32 w' wr.heap.size (fun k => some k ≠ (Value.slice A6 l.length c6).ownBlock) (.slice A2 l.length c2) l) ∧ Aside0 (Kd.R k35 35 w' w.heap.size (fun k => some k ≠ (Value.slice A6 l.length c6).ownBlock) (.slice A3 l.length c3) (l.map to35)) ∧ Aside0 (0 < l.length → A6 = some ⟨gb, 0, none⟩ ∧ ∃ cs : Array Value, w'.heap[gb]? = some (.cells cs 32 (0, 0)) ∧ 2 * l.length ≤ cs.size) ∧ Aside0 (Below w.heap.size w w')) (fun v8 _ => l.length + 1 - (intOf v8).toNat)
      case atStart => exact ⟨0, rfl, ⟨by omega⟩, HO12, HK12, HG12, HBW12⟩
      case round =>
        clear HO12 HK12 HG12 HBW12
        obtain ⟨x, rfl, HX, HO, HK, HG, HBW⟩ := hrel
        have hx0 := HX.out.1
        by_cases c2 : x < (l.length : Int)
        · have c2b0 : decide (x < (l.length : Int)) = true := decide_eq_true c2
          obtain ⟨rfl, cs, hh, hcs⟩ := HG.out (by omega)
          have hp1 := eq_true hx0
          have hp2 := eq_true c2
          have hlt : x.toNat * 2 + 1 < cs.size := by omega
          have hzb := HLen.out
          have hfz : wr.frozen? ⟨gb, x.toNat * 2 + 1, none⟩ = false := blk_frozen hh _
          have hcl : wr.cell? ⟨gb, x.toNat * 2 + 1, none⟩ = some cs[x.toNat * 2 + 1] := (blk_cell hh _).trans (Array.getElem?_eq_getElem hlt)
          have hne : ∀ k, some k ≠ (Value.slice (some ⟨gb, 0, none⟩) l.length c6).ownBlock → k ≠ gb := fun k hk he => hk (by rw [he]; rfl)
          have HNE := Aside0.mk hne
          have HH := Aside0.mk hh
          have HS := Aside0.mk hcs
          clear hne hh hcs HG
          go_wp2_with (fail)
          go_roundw
          case rel => exact ⟨x + 1, by first | rfl | (go_num; done), ⟨by omega⟩, ⟨Kd.R_far (p := ⟨gb, x.toNat * 2 + 1, none⟩) HO.out HNE.out _⟩, ⟨Kd.R_far (p := ⟨gb, x.toNat * 2 + 1, none⟩) HK.out HNE.out _⟩, ⟨fun _ => ⟨by trivial, cs.setIfInBounds (x.toNat * 2 + 1) (.int .i64 (-9)), Go.Joins.block_setCell HH.out _, by rw [Array.size_setIfInBounds]; exact HS.out⟩⟩, ⟨below_set HBW.out HGB.out⟩⟩
          case measure => (simp [intOf]; omega)
        · have hxl : x = l.length := by have := HX.out; omega
          subst hxl
          have hCo : Kd.C k32 wr A2 l.length l := (Kd.R_reads' HO.out).2.2
          have hCk : Kd.C k35 wr A3 (l.map to35).length (l.map to35) := by rw [List.length_map]; have h := (Kd.R_reads' HK.out).2.2; rwa [List.length_map] at h
          have HCo := Aside0.mk hCo
          have HCk := Aside0.mk hCk
          clear hCo hCk HG HO HK c2
          go_wp2_with (first
            | (go_at_call 9; have hcc := garretlaw27_same.calls (l.length + 1) A2 c2 l A3 c3 (l.map to35) true wr HCo.out HNown.out HCk.out HNk'.out F3.out; simp only [List.length_map] at hcc; (with_reducible refine hcc.mono ?_); rintro e w14 ⟨rfl, m14, rfl⟩; have HB14 := Aside0.mk (pw_below_drewN HBW.out m14); clear hcc)
            | (go_at_call 5; (with_reducible refine (works_calls _ (HL.out.below HB14.out)).mono ?_); rintro e w15 ⟨rfl, hb⟩; have HB15 := Aside0.mk (below_step HB14.out hb); clear hb))
          go_ret
          exact ⟨rfl, HB15.out⟩
/-- Of more than a thousand changes. -/
theorem law_long (A0 : Option Addr) (c0 : Nat) (l : List S32) (w : World) (hL : Letters w) (hlen : ¬ l.length ≤ 1000) :
    Calls Tryd.prog 4 #[.slice A0 l.length c0] w fun e w' => e = .returned (.bool true) ∧ Below w.heap.size w w' := by
  have HL := Aside0.mk hL
  have d1 : decide ((l.length : Int) > 1000) = true := decide_eq_true (by omega)
  have d2 : decide (1000 < l.length) = true := decide_eq_true (by omega)
  clear hL hlen
  go_enter Tryd.func4, Tryd.ntmps4
  go_wp2_with (go_at_call 5; (with_reducible refine (works_calls _ HL.out).mono ?_); rintro e w15 ⟨rfl, hb⟩; have HB15 := Aside0.mk hb; clear hb)
  go_ret
  exact ⟨rfl, HB15.out⟩
/-- Whatever the changes: true, and what was there stays. -/
theorem law_calls (A0 : Option Addr) (c0 : Nat) (l : List S32) (w : World) (hr0 : Kd.C k32 w A0 l.length l) (hc0 : l.length ≤ c0) (hL : Letters w) (hsz : ∀ x ∈ l, x.f0.size ≤ 140737488355328) :
    Calls Tryd.prog 4 #[.slice A0 l.length c0] w fun e w' => e = .returned (.bool true) ∧ Below w.heap.size w w' := by
  by_cases hlen : l.length ≤ 1000
  · exact law_short A0 c0 l w hr0 hc0 hL hlen hsz
  · exact law_long A0 c0 l w hL hlen
end Go.Proofs.YtkbofkpkemfedaaDoor.Q
