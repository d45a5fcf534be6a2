/- Of the proof about model: several texts, joined. -/
import Derived.Test.YtkicenkljjpcfaaGreatDoorMC
set_option linter.unusedVariables false
set_option linter.unusedSimpArgs false
set_option linter.unusedSimpArgs false
namespace Go.Proofs.YtkicenkljjpcfaaGreatDoor.Q
open Go.RowKit Go.Proofs.YtkicenkljjpcfaaGreatDoorW.PrintWords Go.Proofs.YtkicenkljjpcfaaGreatDoorW.PrintLast Go.Proofs.YtkicenkljjpcfaaGreatDoorW.PrintMore
def mq (s m : Sp) : Bool := madeP m (idP s.c) && (!neP s.c.path || decide (0 < (partP m.c.ents s.c.path).length))
def missedP (l : List Sp) (s : Sp) : Bool := sureP l (idP s.c) s.b s.e && l.any (mq s)
theorem missedP_mq (l : List Sp) (s : Sp) : missedP l s = (sureP l (idP s.c) s.b s.e && l.any (mq s)) := rfl
theorem mq_no {s m : Sp} (h : madeP m (idP s.c) = false) : mq s m = false := by unfold mq; rw [h]; rfl
theorem mq_empty {s m : Sp} (h : madeP m (idP s.c) = true) (h2 : neP s.c.path = false) : mq s m = true := by unfold mq; rw [h, h2]; rfl
theorem mq_part {s m : Sp} (h : madeP m (idP s.c) = true) (h2 : neP s.c.path = true) : mq s m = decide (0 < (partP m.c.ents s.c.path).length) := by unfold mq; rw [h, h2]; rfl
set_option maxHeartbeats 8000000 in
set_option maxRecDepth 100000 in
theorem missed_calls (A : Option Addr) (c : Nat) (l : List Sp) (s : Sp) (w : World) (h : CS w A l) (hl : l.length ≤ 10000) (hs : ∀ s ∈ l, LenS s) (hr : RdS w s) (hls : LenS s) :
    Calls Tryz.prog 38 #[.slice A l.length c, aggS s] w fun e' w' => e' = .returned (.bool (missedP l s)) ∧ Below w.heap.size w w' := by
  have HC := Aside0.mk h
  have HS := Aside0.mk hs
  have HR := Aside0.mk hr
  have HB0 : Aside0 (Below w.heap.size w (w.alloc (.cells #[.int .i64 s.c.kind, .slice s.c.eA s.c.eN s.c.eC, .int .i64 s.c.time, .string s.c.host, .string s.c.parent, .slice s.c.iA s.c.iN s.c.iC, .string s.c.path, .slice s.c.uA s.c.uN s.c.uC, .int .i64 s.c.percent, .bool s.c.rd, .int .i64 s.r.code, .string s.r.id, .int .i64 s.r.n, .slice s.r.jA s.r.jN s.r.jC, .slice s.r.tA s.r.tN s.r.tC, .slice s.r.fA s.r.fN s.r.fC, .slice s.r.sA s.r.sN s.r.sC, .int .i64 s.b, .int .i64 s.e, .bool s.op] 57))) := ⟨below_alloc (Below.refl _ _) _⟩
  have HK0 : Aside0 ((w.alloc (.cells #[.int .i64 s.c.kind, .slice s.c.eA s.c.eN s.c.eC, .int .i64 s.c.time, .string s.c.host, .string s.c.parent, .slice s.c.iA s.c.iN s.c.iC, .string s.c.path, .slice s.c.uA s.c.uN s.c.uC, .int .i64 s.c.percent, .bool s.c.rd, .int .i64 s.r.code, .string s.r.id, .int .i64 s.r.n, .slice s.r.jA s.r.jN s.r.jC, .slice s.r.tA s.r.tN s.r.tC, .slice s.r.fA s.r.fN s.r.fC, .slice s.r.sA s.r.sN s.r.sC, .int .i64 s.b, .int .i64 s.e, .bool s.op] 57)).heap[w.heap.size]? = some (.cells (encS s).toArray 57 (0, 0))) := ⟨(MapKept.heap_alloc w _).1⟩
  clear h hs hr
  go_enter Tryz.func38, Tryz.ntmps38
  go_upto_region 1 with (fail)
  generalize (w.alloc (.cells #[.int .i64 s.c.kind, .slice s.c.eA s.c.eN s.c.eC, .int .i64 s.c.time, .string s.c.host, .string s.c.parent, .slice s.c.iA s.c.iN s.c.iC, .string s.c.path, .slice s.c.uA s.c.uN s.c.uC, .int .i64 s.c.percent, .bool s.c.rd, .int .i64 s.r.code, .string s.r.id, .int .i64 s.r.n, .slice s.r.jA s.r.jN s.r.jC, .slice s.r.tA s.r.tN s.r.tC, .slice s.r.fA s.r.fN s.r.fC, .slice s.r.sA s.r.sN s.r.sC, .int .i64 s.b, .int .i64 s.e, .bool s.op] 57)) = W0 at HB0 HK0 ⊢
  obtain ⟨g, hg⟩ : ∃ g, g = w.heap.size := ⟨_, rfl⟩
  rw [← hg] at HK0 ⊢
  clear hg
  go_wp2_with (((with_reducible refine gate_dst (N := 8) rfl ?_); refine wpList_load_any (by rfl) 28 (.tmp 7) rfl ⟨g, 0, none⟩ rfl (encC s.c) _ (fun j v hv => cells_blk HK0.out j v (prefix_get hv)) Tryz.underlying28 rfl s28 ?_))
  refine (id_calls s.c _ (HR.out.1.below HB0.out)).mono ?_
  rintro e1 w1 ⟨rfl, hB⟩
  have HB1 := Aside0.mk (below_step HB0.out hB)
  have HK1 := Aside0.mk (blk_below HK0.out hB)
  clear hB HB0 HK0
  have k17 : w1.cell? ⟨g, 17, none⟩ = some (.int .i64 s.b) := (blk_cell HK1.out 17).trans rfl
  have k18 : w1.cell? ⟨g, 18, none⟩ = some (.int .i64 s.e) := (blk_cell HK1.out 18).trans rfl
  go_wp2_with (fail)
  refine (sure_calls A c l (idP s.c) s.b s.e _ (HC.out.below HB1.out) hl HS.out).mono ?_
  rintro e2 w2 ⟨rfl, hB⟩
  have HB2 := Aside0.mk (below_step HB1.out hB)
  have HK2 := Aside0.mk (blk_below HK1.out hB)
  clear hB HB1 HK1 k17 k18
  cases h3 : sureP l (idP s.c) s.b s.e with
  | false =>
    go_wp2_with (fail)
    go_ret
    exact ⟨by rw [missedP_mq, h3]; rfl, HB2.out⟩
  | true =>
    go_wp2_with (fail)
    go_loopw [6] (fun v6 wr => ∃ k : Nat, k ≤ l.length ∧ v6 = .int .i64 k ∧ Aside0 ((l.take k).any (mq s) = false) ∧ Aside0 (Below w2.heap.size w2 wr)) (fun v6 _ => l.length - (intOf v6).toNat)
    case atStart => exact ⟨0, Nat.zero_le _, rfl, ⟨rfl⟩, ⟨Below.refl _ _⟩⟩
    case round =>
      obtain ⟨k, hk, rfl, HQ, HW⟩ := hrel
      have HBW := Aside0.mk (below_step HB2.out HW.out)
      have HKW := Aside0.mk (blk_below HK2.out HW.out)
      by_cases hlt : k < l.length
      · obtain ⟨m, hm⟩ : ∃ r, l[k]? = some r := ⟨_, List.getElem?_eq_getElem hlt⟩
        have hrm : m ∈ l := List.mem_of_getElem? hm
        obtain ⟨ad, rfl, hcell⟩ := cellsS (HC.out.below HBW.out).1 k hlt m hm
        have HCE : ∀ (z : Up wr) j v, (encS m)[j]? = some v → z.w.cell? ((ad.add (k * 20)).add j) = some v := fun z j v hv => pw_cell_below z.h (hcell j v hv)
        have HRD := Aside0.mk ((HC.out.below HBW.out).2 m hrm)
        have HLN := Aside0.mk (HS.out m hrm)
        have HTK := Aside0.mk (any_take (mq s) l k m hm)
        have HYE : Aside0 (mq s m = true → l.any (mq s) = true) := ⟨fun hq => List.any_eq_true.2 ⟨m, hrm, hq⟩⟩
        have y1 : ∀ z : Up wr, z.w.cell? ⟨(ad.add (k * 20)).block, (ad.add (k * 20)).off + 1, none⟩ = some (.slice m.c.eA m.c.eN m.c.eC) := fun z => (addf ad (k * 20) 1 (by omega)) ▸ HCE z 1 _ rfl
        have x6 : ∀ z : Up wr, z.w.cell? ⟨g, 6, none⟩ = some (.string s.c.path) := fun z => (blk_cell (blk_below HKW.out z.h) 6).trans rfl
        clear hcell hrm hm
        have hml : k < maxLen := by unfold maxLen; omega
        cases h5 : madeP m (idP s.c) with
        | false =>
          have HMA : ∀ z : Up wr, Calls Tryz.prog 23 #[aggS m, .string (idP s.c)] z.w fun e' w' => e' = .returned (.bool false) ∧ ∃ u : Up wr, w' = u.w := fun z => z.calls (h5 ▸ made_calls m (idP s.c) z.w)
          have HMA := Aside0.mk HMA
          go_wp2_with (fail)
          refine wp_region_up (by kernel_rfl) (by kernel_rfl) ?_
          repeat (first | go_big_quiet_skip | (go_big_quiet_want; first | (refine quiet_load_any 57 (.tmp 26) rfl (ad.add (k * 20)) rfl (encS m) _ ?_ Tryz.underlying57 rfl s57 ?_; (rintro _ ⟨z, rfl⟩; exact HCE z); simp only [Act.put, List.setIfInBounds_toArray, List.set_cons_zero, List.set_cons_succ]; go_big_quiet_on) | (go_big_quiet_op; first | go_big_quiet_on | (apply Exists.intro; refine ⟨fun z => ?_, ?_⟩; (focus (exact HMA.out z; done)); go_big_quiet_on))))
          refine wpQuiet_nil ?_
          rintro _ ⟨z, rfl⟩
          have HN : Aside0 ((l.take (k + 1)).any (mq s) = false) := ⟨by rw [HTK.out, HQ.out, mq_no h5] <;> rfl⟩
          have HWZ := Aside0.mk (below_step HW.out z.h)
          clear HTK HYE HCE y1 x6
          go_wp2_with (fail)
          go_roundw
          case rel => exact ⟨k + 1, hlt, by go_simp, HN, HWZ⟩
          case measure => simp [intOf]; omega
        | true =>
          cases h6 : neP s.c.path with
          | false =>
            have q1 : (s.c.path.toList == ([] : List UInt8)) = true := by unfold neP at h6; simpa using h6
            have HMA : ∀ z : Up wr, Calls Tryz.prog 23 #[aggS m, .string (idP s.c)] z.w fun e' w' => e' = .returned (.bool true) ∧ ∃ u : Up wr, w' = u.w := fun z => z.calls (h5 ▸ made_calls m (idP s.c) z.w)
            have HMA := Aside0.mk HMA
            go_wp2_with (fail)
            refine wp_region_up (by kernel_rfl) (by kernel_rfl) ?_
            repeat (first | go_big_quiet_skip | (go_big_quiet_want; first | (refine quiet_load_any 57 (.tmp 26) rfl (ad.add (k * 20)) rfl (encS m) _ ?_ Tryz.underlying57 rfl s57 ?_; (rintro _ ⟨z, rfl⟩; exact HCE z); simp only [Act.put, List.setIfInBounds_toArray, List.set_cons_zero, List.set_cons_succ]; go_big_quiet_on) | (go_big_quiet_op; first | go_big_quiet_on | (apply Exists.intro; refine ⟨fun z => ?_, ?_⟩; (focus (exact HMA.out z; done)); go_big_quiet_on))))
            refine wpQuiet_nil ?_
            rintro _ ⟨z, rfl⟩
            have HN : Aside0 (l.any (mq s) = true) := ⟨HYE.out (by rw [mq_empty h5 h6] <;> rfl)⟩
            have HBZ := Aside0.mk (below_step HBW.out z.h)
            go_wp2_with (fail)
            go_ret
            exact ⟨by rw [missedP_mq, h3, HN.out]; rfl, HBZ.out⟩
          | true =>
            have q1 : (s.c.path.toList == ([] : List UInt8)) = false := by unfold neP at h6; simpa using h6
            obtain ⟨pl, hpl⟩ : ∃ n, n = (partP m.c.ents s.c.path).length := ⟨_, rfl⟩
            by_cases h7 : 0 < pl
            · have d7 : decide (0 < pl) = true := decide_eq_true h7
              have d8 : decide (0 < (pl : Int)) = true := decide_eq_true (by omega)
              have HP := Aside0.mk (mq_part (s := s) h5 h6)
              go_wp2_with (fail)
              refine start_ (n := 26) (ds := ([] : List Nat)) (S := fun w' => ∃ z : Up wr, w' = z.w) #[false, false, false, false, false, false, false, false, false, false, false, false, false, false, false, false, false, false, false, false, false, false, false, false, false, false] (by kernel_rfl) rfl rfl ⟨⟨_, below_drew (Below.refl _ _)⟩, rfl⟩ (fun hHeld => ?_)
              refine take_ (i := 0) (N := (some 24)) (v := ?_) (a' := ?_) #[true, false, false, false, false, false, false, false, false, false, false, false, false, false, false, false, false, false, false, false, false, false, false, false, false, false] rfl rfl (by kernel_rfl) (fun _ _ _ h => h) (Or.inl ⟨by rfl, ?_⟩) hHeld ?_ ?_
              rotate_left
              · rintro w' ⟨z, rfl⟩
                go_simp
                try with_reducible rfl
              rotate_left
              · simp only [Act.put, List.setIfInBounds_toArray, List.set_cons_zero, List.set_cons_succ, i64_w, i32_w]
                rfl
              refine take_ (i := 1) (N := (some 25)) (v := ?_) (a' := ?_) #[true, true, false, false, false, false, false, false, false, false, false, false, false, false, false, false, false, false, false, false, false, false, false, false, false, false] rfl rfl (by kernel_rfl) (fun _ _ _ h => h) (Or.inl ⟨by rfl, ?_⟩) hHeld ?_ ?_
              rotate_left
              · rintro w' ⟨z, rfl⟩
                go_simp
                try with_reducible rfl
              rotate_left
              · simp only [Act.put, List.setIfInBounds_toArray, List.set_cons_zero, List.set_cons_succ, i64_w, i32_w]
                rfl
              refine take_ (i := 2) (N := (some 26)) (v := ?_) (a' := ?_) #[true, true, true, false, false, false, false, false, false, false, false, false, false, false, false, false, false, false, false, false, false, false, false, false, false, false] rfl rfl (by kernel_rfl) (fun _ _ _ h => h) (Or.inl ⟨by rfl, ?_⟩) hHeld ?_ ?_
              rotate_left
              · rintro w' ⟨z, rfl⟩
                go_simp
                try with_reducible rfl
              rotate_left
              · simp only [Act.put, List.setIfInBounds_toArray, List.set_cons_zero, List.set_cons_succ, i64_w, i32_w]
                rfl
              refine take_ (i := 3) (N := (some 27)) (v := .agg (encS m).toArray) (a' := ?_) #[true, true, true, true, false, false, false, false, false, false, false, false, false, false, false, false, false, false, false, false, false, false, false, false, false, false] rfl rfl (by kernel_rfl) (fun _ _ _ h => h) (yieldsIf_load_any (by rfl) 57 (.tmp 26) rfl (ad.add (k * 20)) rfl (encS m) _ (by rintro _ ⟨z, rfl⟩; exact HCE z) Tryz.underlying57 rfl s57) hHeld ?_ ?_
              rotate_left
              · simp only [Act.put, List.setIfInBounds_toArray, List.set_cons_zero, List.set_cons_succ, i64_w, i32_w]
                rfl
              refine take_ (i := 4) (N := (some 28)) (v := ?_) (a' := ?_) #[true, true, true, true, true, false, false, false, false, false, false, false, false, false, false, false, false, false, false, false, false, false, false, false, false, false] rfl rfl (by kernel_rfl) (fun _ _ _ h => h) (Or.inl ⟨by rfl, ?_⟩) hHeld ?_ ?_
              rotate_left
              · rintro w' ⟨z, rfl⟩
                go_simp
                try with_reducible rfl
              rotate_left
              · simp only [Act.put, List.setIfInBounds_toArray, List.set_cons_zero, List.set_cons_succ, i64_w, i32_w]
                rfl
              refine one_ (i := 5) (N := (some 29)) #[true, true, true, true, true, true, false, false, false, false, false, false, false, false, false, false, false, false, false, false, false, false, false, false, false, false] rfl rfl (by kernel_rfl) (by decide) (fun K hK => ?_)
              refine goes_ Tryz.func23 (by kernel_rfl) rfl #[.agg (encS m).toArray, .string (idP s.c)] (by rfl) rfl rfl (by (try simp only [List.map_toArray, List.map_cons, List.map_nil]); first | done | rfl) ?_
              refine (made_calls m (idP s.c) _).mono ?_
              rintro e2 w3 ⟨rfl, hB⟩
              have HW2 : Below wr.heap.size wr w3 := below_step (below_drew (Below.refl _ _)) hB
              clear hB
              rw [h5]
              refine ⟨_, rfl, ?_⟩
              refine hK.out _ _ ⟨⟨_, HW2⟩, rfl⟩ (fun hHeld => ?_)
              clear hK K
              refine norm_ (a' := ?_) ?_ ?_
              rotate_left
              · show Act.put _ (some 29) _ = _
                simp only [Act.put, List.setIfInBounds_toArray, List.set_cons_zero, List.set_cons_succ, i64_w, i32_w]
                rfl
              refine take_ (i := 6) (N := (some 30)) (v := ?_) (a' := ?_) #[true, true, true, true, true, true, true, false, false, false, false, false, false, false, false, false, false, false, false, false, false, false, false, false, false, false] rfl rfl (by kernel_rfl) (fun _ _ _ h => h) (Or.inl ⟨by rfl, ?_⟩) hHeld ?_ ?_
              rotate_left
              · rintro w' ⟨z, rfl⟩
                go_simp
                try with_reducible rfl
              rotate_left
              · simp only [Act.put, List.setIfInBounds_toArray, List.set_cons_zero, List.set_cons_succ, i64_w, i32_w]
                rfl
              refine take_ (i := 7) (N := (some 31)) (v := ?_) (a' := ?_) #[true, true, true, true, true, true, true, true, false, false, false, false, false, false, false, false, false, false, false, false, false, false, false, false, false, false] rfl rfl (by kernel_rfl) (fun _ _ _ h => h) (Or.inl ⟨by rfl, ?_⟩) hHeld ?_ ?_
              rotate_left
              · rintro w' ⟨z, rfl⟩
                go_simp
                try with_reducible rfl
              rotate_left
              · simp only [Act.put, List.setIfInBounds_toArray, List.set_cons_zero, List.set_cons_succ, i64_w, i32_w]
                rfl
              refine take_ (i := 8) (N := (some 32)) (v := ?_) (a' := ?_) #[true, true, true, true, true, true, true, true, true, false, false, false, false, false, false, false, false, false, false, false, false, false, false, false, false, false] rfl rfl (by kernel_rfl) (fun _ _ _ h => h) (Or.inl ⟨by rfl, ?_⟩) hHeld ?_ ?_
              rotate_left
              · rintro w' ⟨z, rfl⟩
                go_simp
                try with_reducible rfl
              rotate_left
              · simp only [Act.put, List.setIfInBounds_toArray, List.set_cons_zero, List.set_cons_succ, i64_w, i32_w]
                rfl
              refine take_ (i := 9) (N := (some 33)) (v := ?_) (a' := ?_) #[true, true, true, true, true, true, true, true, true, true, false, false, false, false, false, false, false, false, false, false, false, false, false, false, false, false] rfl rfl (by kernel_rfl) (fun _ _ _ h => h) (Or.inl ⟨by rfl, ?_⟩) hHeld ?_ ?_
              rotate_left
              · rintro w' ⟨z, rfl⟩
                go_simp
                try with_reducible rfl
              rotate_left
              · simp only [Act.put, List.setIfInBounds_toArray, List.set_cons_zero, List.set_cons_succ, i64_w, i32_w]
                rfl
              refine take_ (i := 10) (N := (some 34)) (v := ?_) (a' := ?_) #[true, true, true, true, true, true, true, true, true, true, true, false, false, false, false, false, false, false, false, false, false, false, false, false, false, false] rfl rfl (by kernel_rfl) (fun _ _ _ h => h) (Or.inl ⟨by rfl, ?_⟩) hHeld ?_ ?_
              rotate_left
              · rintro w' ⟨z, rfl⟩
                go_simp
                try with_reducible rfl
              rotate_left
              · simp only [Act.put, List.setIfInBounds_toArray, List.set_cons_zero, List.set_cons_succ, i64_w, i32_w]
                rfl
              refine take_ (i := 11) (N := (some 35)) (v := ?_) (a' := ?_) #[true, true, true, true, true, true, true, true, true, true, true, true, false, false, false, false, false, false, false, false, false, false, false, false, false, false] rfl rfl (by kernel_rfl) (fun _ _ _ h => h) (Or.inl ⟨by rfl, ?_⟩) hHeld ?_ ?_
              rotate_left
              · rintro w' ⟨z, rfl⟩
                go_simp
                try with_reducible rfl
              rotate_left
              · simp only [Act.put, List.setIfInBounds_toArray, List.set_cons_zero, List.set_cons_succ, i64_w, i32_w]
                rfl
              refine take_ (i := 12) (N := (some 36)) (v := ?_) (a' := ?_) #[true, true, true, true, true, true, true, true, true, true, true, true, true, false, false, false, false, false, false, false, false, false, false, false, false, false] rfl rfl (by kernel_rfl) (fun _ _ _ h => h) (Or.inl ⟨by rfl, ?_⟩) hHeld ?_ ?_
              rotate_left
              · rintro w' ⟨z, rfl⟩
                go_simp
                try with_reducible rfl
              rotate_left
              · simp only [Act.put, List.setIfInBounds_toArray, List.set_cons_zero, List.set_cons_succ, i64_w, i32_w]
                rfl
              refine take_ (i := 13) (N := (some 37)) (v := ?_) (a' := ?_) #[true, true, true, true, true, true, true, true, true, true, true, true, true, true, false, false, false, false, false, false, false, false, false, false, false, false] rfl rfl (by kernel_rfl) (fun _ _ _ h => h) (Or.inl ⟨by rfl, ?_⟩) hHeld ?_ ?_
              rotate_left
              · rintro w' ⟨z, rfl⟩
                go_simp
                try with_reducible rfl
              rotate_left
              · simp only [Act.put, List.setIfInBounds_toArray, List.set_cons_zero, List.set_cons_succ, i64_w, i32_w]
                rfl
              refine take_ (i := 14) (N := (some 38)) (v := ?_) (a' := ?_) #[true, true, true, true, true, true, true, true, true, true, true, true, true, true, true, false, false, false, false, false, false, false, false, false, false, false] rfl rfl (by kernel_rfl) (fun _ _ _ h => h) (Or.inl ⟨by rfl, ?_⟩) hHeld ?_ ?_
              rotate_left
              · rintro w' ⟨z, rfl⟩
                go_simp
                try with_reducible rfl
              rotate_left
              · simp only [Act.put, List.setIfInBounds_toArray, List.set_cons_zero, List.set_cons_succ, i64_w, i32_w]
                rfl
              refine take_ (i := 15) (N := (some 39)) (v := ?_) (a' := ?_) #[true, true, true, true, true, true, true, true, true, true, true, true, true, true, true, true, false, false, false, false, false, false, false, false, false, false] rfl rfl (by kernel_rfl) (fun _ _ _ h => h) (Or.inl ⟨by rfl, ?_⟩) hHeld ?_ ?_
              rotate_left
              · rintro w' ⟨z, rfl⟩
                go_simp
                try with_reducible rfl
              rotate_left
              · simp only [Act.put, List.setIfInBounds_toArray, List.set_cons_zero, List.set_cons_succ, i64_w, i32_w]
                rfl
              refine take_ (i := 16) (N := (some 40)) (v := ?_) (a' := ?_) #[true, true, true, true, true, true, true, true, true, true, true, true, true, true, true, true, true, false, false, false, false, false, false, false, false, false] rfl rfl (by kernel_rfl) (fun _ _ _ h => h) (Or.inl ⟨by rfl, ?_⟩) hHeld ?_ ?_
              rotate_left
              · rintro w' ⟨z, rfl⟩
                go_simp
                try with_reducible rfl
              rotate_left
              · simp only [Act.put, List.setIfInBounds_toArray, List.set_cons_zero, List.set_cons_succ, i64_w, i32_w]
                rfl
              refine take_ (i := 17) (N := (some 41)) (v := ?_) (a' := ?_) #[true, true, true, true, true, true, true, true, true, true, true, true, true, true, true, true, true, true, false, false, false, false, false, false, false, false] rfl rfl (by kernel_rfl) (fun _ _ _ h => h) (Or.inl ⟨by rfl, ?_⟩) hHeld ?_ ?_
              rotate_left
              · rintro w' ⟨z, rfl⟩
                go_simp
                try with_reducible rfl
              rotate_left
              · simp only [Act.put, List.setIfInBounds_toArray, List.set_cons_zero, List.set_cons_succ, i64_w, i32_w]
                rfl
              refine take_ (i := 18) (N := (some 42)) (v := ?_) (a' := ?_) #[true, true, true, true, true, true, true, true, true, true, true, true, true, true, true, true, true, true, true, false, false, false, false, false, false, false] rfl rfl (by kernel_rfl) (fun _ _ _ h => h) (Or.inl ⟨by rfl, ?_⟩) hHeld ?_ ?_
              rotate_left
              · rintro w' ⟨z, rfl⟩
                go_simp
                try with_reducible rfl
              rotate_left
              · simp only [Act.put, List.setIfInBounds_toArray, List.set_cons_zero, List.set_cons_succ, i64_w, i32_w]
                rfl
              refine take_ (i := 19) (N := (some 43)) (v := ?_) (a' := ?_) #[true, true, true, true, true, true, true, true, true, true, true, true, true, true, true, true, true, true, true, true, false, false, false, false, false, false] rfl rfl (by kernel_rfl) (fun _ _ _ h => h) (Or.inl ⟨by rfl, ?_⟩) hHeld ?_ ?_
              rotate_left
              · rintro w' ⟨z, rfl⟩
                go_simp
                try with_reducible rfl
              rotate_left
              · simp only [Act.put, List.setIfInBounds_toArray, List.set_cons_zero, List.set_cons_succ, i64_w, i32_w]
                rfl
              refine take_ (i := 20) (N := (some 44)) (v := ?_) (a' := ?_) #[true, true, true, true, true, true, true, true, true, true, true, true, true, true, true, true, true, true, true, true, true, false, false, false, false, false] rfl rfl (by kernel_rfl) (fun _ _ _ h => h) (Or.inl ⟨by rfl, ?_⟩) hHeld ?_ ?_
              rotate_left
              · rintro w' ⟨z, rfl⟩
                go_simp
                try with_reducible rfl
              rotate_left
              · simp only [Act.put, List.setIfInBounds_toArray, List.set_cons_zero, List.set_cons_succ, i64_w, i32_w]
                rfl
              refine one_ (i := 21) (N := (some 45)) #[true, true, true, true, true, true, true, true, true, true, true, true, true, true, true, true, true, true, true, true, true, true, false, false, false, false] rfl rfl (by kernel_rfl) (by decide) (fun K hK => ?_)
              refine goes_ Tryz.func68 (by kernel_rfl) rfl #[.slice m.c.eA m.c.eN m.c.eC, .string s.c.path] (by rfl) rfl rfl (by (try simp only [List.map_toArray, List.map_cons, List.map_nil]); first | done | rfl) ?_
              refine (part_calls m.c.eA m.c.eC m.c.eN m.c.ents s.c.path _ (Kd.C_below HRD.out.1.ents.2.2 HW2) HRD.out.1.ents.2.1 HRD.out.1.ents.1 HLN.out.2.2.1 hls.2.2.2.2).mono ?_
              rintro e3 w4 ⟨v, rfl, hR, hB⟩
              obtain ⟨Ap, cp, rfl, hcp, hCp⟩ := Kd.R_reads hR
              have HW3 : Below wr.heap.size wr w4 := below_step HW2 hB
              clear hB hR hCp
              refine ⟨_, rfl, ?_⟩
              refine hK.out _ _ ⟨⟨_, HW3⟩, rfl⟩ (fun hHeld => ?_)
              clear hK K
              refine norm_ (a' := ?_) ?_ ?_
              rotate_left
              · show Act.put _ (some 45) _ = _
                simp only [Act.put, List.setIfInBounds_toArray, List.set_cons_zero, List.set_cons_succ, i64_w, i32_w]
                rfl
              refine take_ (i := 22) (N := (some 46)) (v := ?_) (a' := ?_) #[true, true, true, true, true, true, true, true, true, true, true, true, true, true, true, true, true, true, true, true, true, true, true, false, false, false] rfl rfl (by kernel_rfl) (fun _ _ _ h => h) (Or.inl ⟨by rfl, ?_⟩) hHeld ?_ ?_
              rotate_left
              · rintro w' ⟨z, rfl⟩
                go_simp
                try with_reducible rfl
              rotate_left
              · simp only [Act.put, List.setIfInBounds_toArray, List.set_cons_zero, List.set_cons_succ, i64_w, i32_w]
                rfl
              refine take_ (i := 23) (N := (some 47)) (v := ?_) (a' := ?_) #[true, true, true, true, true, true, true, true, true, true, true, true, true, true, true, true, true, true, true, true, true, true, true, true, false, false] rfl rfl (by kernel_rfl) (fun _ _ _ h => h) (Or.inl ⟨by rfl, ?_⟩) hHeld ?_ ?_
              rotate_left
              · rintro w' ⟨z, rfl⟩
                go_simp
                try with_reducible rfl
              rotate_left
              · simp only [Act.put, List.setIfInBounds_toArray, List.set_cons_zero, List.set_cons_succ, i64_w, i32_w]
                rfl
              refine take_ (i := 24) (N := (some 48)) (v := ?_) (a' := ?_) #[true, true, true, true, true, true, true, true, true, true, true, true, true, true, true, true, true, true, true, true, true, true, true, true, true, false] rfl rfl (by kernel_rfl) (fun _ _ _ h => h) (Or.inl ⟨by rfl, ?_⟩) hHeld ?_ ?_
              rotate_left
              · rintro w' ⟨z, rfl⟩
                go_simp
                try with_reducible rfl
              rotate_left
              · simp only [Act.put, List.setIfInBounds_toArray, List.set_cons_zero, List.set_cons_succ, i64_w, i32_w]
                rfl
              refine take_ (i := 25) (N := (some 49)) (v := ?_) (a' := ?_) #[true, true, true, true, true, true, true, true, true, true, true, true, true, true, true, true, true, true, true, true, true, true, true, true, true, true] rfl rfl (by kernel_rfl) (fun _ _ _ h => h) (Or.inl ⟨by rfl, ?_⟩) hHeld ?_ ?_
              rotate_left
              · rintro w' ⟨z, rfl⟩
                go_simp
                try with_reducible rfl
              rotate_left
              · simp only [Act.put, List.setIfInBounds_toArray, List.set_cons_zero, List.set_cons_succ, i64_w, i32_w]
                rfl
              refine done_ (by kernel_rfl) ?_
              have HZ := Aside0.mk HW3
              clear hHeld HW2 HW3
              have HN : Aside0 (l.any (mq s) = true) := ⟨HYE.out (by rw [HP.out, ← hpl, d7] <;> rfl)⟩
              have HBZ := Aside0.mk (below_step HBW.out HZ.out)
              go_wp2_with (fail)
              go_ret
              exact ⟨by rw [missedP_mq, h3, HN.out]; rfl, HBZ.out⟩
            · have d7 : decide (0 < pl) = false := decide_eq_false h7
              have d8 : decide (0 < (pl : Int)) = false := decide_eq_false (by omega)
              have HP := Aside0.mk (mq_part (s := s) h5 h6)
              go_wp2_with (fail)
              refine start_ (n := 26) (ds := ([] : List Nat)) (S := fun w' => ∃ z : Up wr, w' = z.w) #[false, false, false, false, false, false, false, false, false, false, false, false, false, false, false, false, false, false, false, false, false, false, false, false, false, false] (by kernel_rfl) rfl rfl ⟨⟨_, below_drew (Below.refl _ _)⟩, rfl⟩ (fun hHeld => ?_)
              refine take_ (i := 0) (N := (some 24)) (v := ?_) (a' := ?_) #[true, false, false, false, false, false, false, false, false, false, false, false, false, false, false, false, false, false, false, false, false, false, false, false, false, false] rfl rfl (by kernel_rfl) (fun _ _ _ h => h) (Or.inl ⟨by rfl, ?_⟩) hHeld ?_ ?_
              rotate_left
              · rintro w' ⟨z, rfl⟩
                go_simp
                try with_reducible rfl
              rotate_left
              · simp only [Act.put, List.setIfInBounds_toArray, List.set_cons_zero, List.set_cons_succ, i64_w, i32_w]
                rfl
              refine take_ (i := 1) (N := (some 25)) (v := ?_) (a' := ?_) #[true, true, false, false, false, false, false, false, false, false, false, false, false, false, false, false, false, false, false, false, false, false, false, false, false, false] rfl rfl (by kernel_rfl) (fun _ _ _ h => h) (Or.inl ⟨by rfl, ?_⟩) hHeld ?_ ?_
              rotate_left
              · rintro w' ⟨z, rfl⟩
                go_simp
                try with_reducible rfl
              rotate_left
              · simp only [Act.put, List.setIfInBounds_toArray, List.set_cons_zero, List.set_cons_succ, i64_w, i32_w]
                rfl
              refine take_ (i := 2) (N := (some 26)) (v := ?_) (a' := ?_) #[true, true, true, false, false, false, false, false, false, false, false, false, false, false, false, false, false, false, false, false, false, false, false, false, false, false] rfl rfl (by kernel_rfl) (fun _ _ _ h => h) (Or.inl ⟨by rfl, ?_⟩) hHeld ?_ ?_
              rotate_left
              · rintro w' ⟨z, rfl⟩
                go_simp
                try with_reducible rfl
              rotate_left
              · simp only [Act.put, List.setIfInBounds_toArray, List.set_cons_zero, List.set_cons_succ, i64_w, i32_w]
                rfl
              refine take_ (i := 3) (N := (some 27)) (v := .agg (encS m).toArray) (a' := ?_) #[true, true, true, true, false, false, false, false, false, false, false, false, false, false, false, false, false, false, false, false, false, false, false, false, false, false] rfl rfl (by kernel_rfl) (fun _ _ _ h => h) (yieldsIf_load_any (by rfl) 57 (.tmp 26) rfl (ad.add (k * 20)) rfl (encS m) _ (by rintro _ ⟨z, rfl⟩; exact HCE z) Tryz.underlying57 rfl s57) hHeld ?_ ?_
              rotate_left
              · simp only [Act.put, List.setIfInBounds_toArray, List.set_cons_zero, List.set_cons_succ, i64_w, i32_w]
                rfl
              refine take_ (i := 4) (N := (some 28)) (v := ?_) (a' := ?_) #[true, true, true, true, true, false, false, false, false, false, false, false, false, false, false, false, false, false, false, false, false, false, false, false, false, false] rfl rfl (by kernel_rfl) (fun _ _ _ h => h) (Or.inl ⟨by rfl, ?_⟩) hHeld ?_ ?_
              rotate_left
              · rintro w' ⟨z, rfl⟩
                go_simp
                try with_reducible rfl
              rotate_left
              · simp only [Act.put, List.setIfInBounds_toArray, List.set_cons_zero, List.set_cons_succ, i64_w, i32_w]
                rfl
              refine one_ (i := 5) (N := (some 29)) #[true, true, true, true, true, true, false, false, false, false, false, false, false, false, false, false, false, false, false, false, false, false, false, false, false, false] rfl rfl (by kernel_rfl) (by decide) (fun K hK => ?_)
              refine goes_ Tryz.func23 (by kernel_rfl) rfl #[.agg (encS m).toArray, .string (idP s.c)] (by rfl) rfl rfl (by (try simp only [List.map_toArray, List.map_cons, List.map_nil]); first | done | rfl) ?_
              refine (made_calls m (idP s.c) _).mono ?_
              rintro e2 w3 ⟨rfl, hB⟩
              have HW2 : Below wr.heap.size wr w3 := below_step (below_drew (Below.refl _ _)) hB
              clear hB
              rw [h5]
              refine ⟨_, rfl, ?_⟩
              refine hK.out _ _ ⟨⟨_, HW2⟩, rfl⟩ (fun hHeld => ?_)
              clear hK K
              refine norm_ (a' := ?_) ?_ ?_
              rotate_left
              · show Act.put _ (some 29) _ = _
                simp only [Act.put, List.setIfInBounds_toArray, List.set_cons_zero, List.set_cons_succ, i64_w, i32_w]
                rfl
              refine take_ (i := 6) (N := (some 30)) (v := ?_) (a' := ?_) #[true, true, true, true, true, true, true, false, false, false, false, false, false, false, false, false, false, false, false, false, false, false, false, false, false, false] rfl rfl (by kernel_rfl) (fun _ _ _ h => h) (Or.inl ⟨by rfl, ?_⟩) hHeld ?_ ?_
              rotate_left
              · rintro w' ⟨z, rfl⟩
                go_simp
                try with_reducible rfl
              rotate_left
              · simp only [Act.put, List.setIfInBounds_toArray, List.set_cons_zero, List.set_cons_succ, i64_w, i32_w]
                rfl
              refine take_ (i := 7) (N := (some 31)) (v := ?_) (a' := ?_) #[true, true, true, true, true, true, true, true, false, false, false, false, false, false, false, false, false, false, false, false, false, false, false, false, false, false] rfl rfl (by kernel_rfl) (fun _ _ _ h => h) (Or.inl ⟨by rfl, ?_⟩) hHeld ?_ ?_
              rotate_left
              · rintro w' ⟨z, rfl⟩
                go_simp
                try with_reducible rfl
              rotate_left
              · simp only [Act.put, List.setIfInBounds_toArray, List.set_cons_zero, List.set_cons_succ, i64_w, i32_w]
                rfl
              refine take_ (i := 8) (N := (some 32)) (v := ?_) (a' := ?_) #[true, true, true, true, true, true, true, true, true, false, false, false, false, false, false, false, false, false, false, false, false, false, false, false, false, false] rfl rfl (by kernel_rfl) (fun _ _ _ h => h) (Or.inl ⟨by rfl, ?_⟩) hHeld ?_ ?_
              rotate_left
              · rintro w' ⟨z, rfl⟩
                go_simp
                try with_reducible rfl
              rotate_left
              · simp only [Act.put, List.setIfInBounds_toArray, List.set_cons_zero, List.set_cons_succ, i64_w, i32_w]
                rfl
              refine take_ (i := 9) (N := (some 33)) (v := ?_) (a' := ?_) #[true, true, true, true, true, true, true, true, true, true, false, false, false, false, false, false, false, false, false, false, false, false, false, false, false, false] rfl rfl (by kernel_rfl) (fun _ _ _ h => h) (Or.inl ⟨by rfl, ?_⟩) hHeld ?_ ?_
              rotate_left
              · rintro w' ⟨z, rfl⟩
                go_simp
                try with_reducible rfl
              rotate_left
              · simp only [Act.put, List.setIfInBounds_toArray, List.set_cons_zero, List.set_cons_succ, i64_w, i32_w]
                rfl
              refine take_ (i := 10) (N := (some 34)) (v := ?_) (a' := ?_) #[true, true, true, true, true, true, true, true, true, true, true, false, false, false, false, false, false, false, false, false, false, false, false, false, false, false] rfl rfl (by kernel_rfl) (fun _ _ _ h => h) (Or.inl ⟨by rfl, ?_⟩) hHeld ?_ ?_
              rotate_left
              · rintro w' ⟨z, rfl⟩
                go_simp
                try with_reducible rfl
              rotate_left
              · simp only [Act.put, List.setIfInBounds_toArray, List.set_cons_zero, List.set_cons_succ, i64_w, i32_w]
                rfl
              refine take_ (i := 11) (N := (some 35)) (v := ?_) (a' := ?_) #[true, true, true, true, true, true, true, true, true, true, true, true, false, false, false, false, false, false, false, false, false, false, false, false, false, false] rfl rfl (by kernel_rfl) (fun _ _ _ h => h) (Or.inl ⟨by rfl, ?_⟩) hHeld ?_ ?_
              rotate_left
              · rintro w' ⟨z, rfl⟩
                go_simp
                try with_reducible rfl
              rotate_left
              · simp only [Act.put, List.setIfInBounds_toArray, List.set_cons_zero, List.set_cons_succ, i64_w, i32_w]
                rfl
              refine take_ (i := 12) (N := (some 36)) (v := ?_) (a' := ?_) #[true, true, true, true, true, true, true, true, true, true, true, true, true, false, false, false, false, false, false, false, false, false, false, false, false, false] rfl rfl (by kernel_rfl) (fun _ _ _ h => h) (Or.inl ⟨by rfl, ?_⟩) hHeld ?_ ?_
              rotate_left
              · rintro w' ⟨z, rfl⟩
                go_simp
                try with_reducible rfl
              rotate_left
              · simp only [Act.put, List.setIfInBounds_toArray, List.set_cons_zero, List.set_cons_succ, i64_w, i32_w]
                rfl
              refine take_ (i := 13) (N := (some 37)) (v := ?_) (a' := ?_) #[true, true, true, true, true, true, true, true, true, true, true, true, true, true, false, false, false, false, false, false, false, false, false, false, false, false] rfl rfl (by kernel_rfl) (fun _ _ _ h => h) (Or.inl ⟨by rfl, ?_⟩) hHeld ?_ ?_
              rotate_left
              · rintro w' ⟨z, rfl⟩
                go_simp
                try with_reducible rfl
              rotate_left
              · simp only [Act.put, List.setIfInBounds_toArray, List.set_cons_zero, List.set_cons_succ, i64_w, i32_w]
                rfl
              refine take_ (i := 14) (N := (some 38)) (v := ?_) (a' := ?_) #[true, true, true, true, true, true, true, true, true, true, true, true, true, true, true, false, false, false, false, false, false, false, false, false, false, false] rfl rfl (by kernel_rfl) (fun _ _ _ h => h) (Or.inl ⟨by rfl, ?_⟩) hHeld ?_ ?_
              rotate_left
              · rintro w' ⟨z, rfl⟩
                go_simp
                try with_reducible rfl
              rotate_left
              · simp only [Act.put, List.setIfInBounds_toArray, List.set_cons_zero, List.set_cons_succ, i64_w, i32_w]
                rfl
              refine take_ (i := 15) (N := (some 39)) (v := ?_) (a' := ?_) #[true, true, true, true, true, true, true, true, true, true, true, true, true, true, true, true, false, false, false, false, false, false, false, false, false, false] rfl rfl (by kernel_rfl) (fun _ _ _ h => h) (Or.inl ⟨by rfl, ?_⟩) hHeld ?_ ?_
              rotate_left
              · rintro w' ⟨z, rfl⟩
                go_simp
                try with_reducible rfl
              rotate_left
              · simp only [Act.put, List.setIfInBounds_toArray, List.set_cons_zero, List.set_cons_succ, i64_w, i32_w]
                rfl
              refine take_ (i := 16) (N := (some 40)) (v := ?_) (a' := ?_) #[true, true, true, true, true, true, true, true, true, true, true, true, true, true, true, true, true, false, false, false, false, false, false, false, false, false] rfl rfl (by kernel_rfl) (fun _ _ _ h => h) (Or.inl ⟨by rfl, ?_⟩) hHeld ?_ ?_
              rotate_left
              · rintro w' ⟨z, rfl⟩
                go_simp
                try with_reducible rfl
              rotate_left
              · simp only [Act.put, List.setIfInBounds_toArray, List.set_cons_zero, List.set_cons_succ, i64_w, i32_w]
                rfl
              refine take_ (i := 17) (N := (some 41)) (v := ?_) (a' := ?_) #[true, true, true, true, true, true, true, true, true, true, true, true, true, true, true, true, true, true, false, false, false, false, false, false, false, false] rfl rfl (by kernel_rfl) (fun _ _ _ h => h) (Or.inl ⟨by rfl, ?_⟩) hHeld ?_ ?_
              rotate_left
              · rintro w' ⟨z, rfl⟩
                go_simp
                try with_reducible rfl
              rotate_left
              · simp only [Act.put, List.setIfInBounds_toArray, List.set_cons_zero, List.set_cons_succ, i64_w, i32_w]
                rfl
              refine take_ (i := 18) (N := (some 42)) (v := ?_) (a' := ?_) #[true, true, true, true, true, true, true, true, true, true, true, true, true, true, true, true, true, true, true, false, false, false, false, false, false, false] rfl rfl (by kernel_rfl) (fun _ _ _ h => h) (Or.inl ⟨by rfl, ?_⟩) hHeld ?_ ?_
              rotate_left
              · rintro w' ⟨z, rfl⟩
                go_simp
                try with_reducible rfl
              rotate_left
              · simp only [Act.put, List.setIfInBounds_toArray, List.set_cons_zero, List.set_cons_succ, i64_w, i32_w]
                rfl
              refine take_ (i := 19) (N := (some 43)) (v := ?_) (a' := ?_) #[true, true, true, true, true, true, true, true, true, true, true, true, true, true, true, true, true, true, true, true, false, false, false, false, false, false] rfl rfl (by kernel_rfl) (fun _ _ _ h => h) (Or.inl ⟨by rfl, ?_⟩) hHeld ?_ ?_
              rotate_left
              · rintro w' ⟨z, rfl⟩
                go_simp
                try with_reducible rfl
              rotate_left
              · simp only [Act.put, List.setIfInBounds_toArray, List.set_cons_zero, List.set_cons_succ, i64_w, i32_w]
                rfl
              refine take_ (i := 20) (N := (some 44)) (v := ?_) (a' := ?_) #[true, true, true, true, true, true, true, true, true, true, true, true, true, true, true, true, true, true, true, true, true, false, false, false, false, false] rfl rfl (by kernel_rfl) (fun _ _ _ h => h) (Or.inl ⟨by rfl, ?_⟩) hHeld ?_ ?_
              rotate_left
              · rintro w' ⟨z, rfl⟩
                go_simp
                try with_reducible rfl
              rotate_left
              · simp only [Act.put, List.setIfInBounds_toArray, List.set_cons_zero, List.set_cons_succ, i64_w, i32_w]
                rfl
              refine one_ (i := 21) (N := (some 45)) #[true, true, true, true, true, true, true, true, true, true, true, true, true, true, true, true, true, true, true, true, true, true, false, false, false, false] rfl rfl (by kernel_rfl) (by decide) (fun K hK => ?_)
              refine goes_ Tryz.func68 (by kernel_rfl) rfl #[.slice m.c.eA m.c.eN m.c.eC, .string s.c.path] (by rfl) rfl rfl (by (try simp only [List.map_toArray, List.map_cons, List.map_nil]); first | done | rfl) ?_
              refine (part_calls m.c.eA m.c.eC m.c.eN m.c.ents s.c.path _ (Kd.C_below HRD.out.1.ents.2.2 HW2) HRD.out.1.ents.2.1 HRD.out.1.ents.1 HLN.out.2.2.1 hls.2.2.2.2).mono ?_
              rintro e3 w4 ⟨v, rfl, hR, hB⟩
              obtain ⟨Ap, cp, rfl, hcp, hCp⟩ := Kd.R_reads hR
              have HW3 : Below wr.heap.size wr w4 := below_step HW2 hB
              clear hB hR hCp
              refine ⟨_, rfl, ?_⟩
              refine hK.out _ _ ⟨⟨_, HW3⟩, rfl⟩ (fun hHeld => ?_)
              clear hK K
              refine norm_ (a' := ?_) ?_ ?_
              rotate_left
              · show Act.put _ (some 45) _ = _
                simp only [Act.put, List.setIfInBounds_toArray, List.set_cons_zero, List.set_cons_succ, i64_w, i32_w]
                rfl
              refine take_ (i := 22) (N := (some 46)) (v := ?_) (a' := ?_) #[true, true, true, true, true, true, true, true, true, true, true, true, true, true, true, true, true, true, true, true, true, true, true, false, false, false] rfl rfl (by kernel_rfl) (fun _ _ _ h => h) (Or.inl ⟨by rfl, ?_⟩) hHeld ?_ ?_
              rotate_left
              · rintro w' ⟨z, rfl⟩
                go_simp
                try with_reducible rfl
              rotate_left
              · simp only [Act.put, List.setIfInBounds_toArray, List.set_cons_zero, List.set_cons_succ, i64_w, i32_w]
                rfl
              refine take_ (i := 23) (N := (some 47)) (v := ?_) (a' := ?_) #[true, true, true, true, true, true, true, true, true, true, true, true, true, true, true, true, true, true, true, true, true, true, true, true, false, false] rfl rfl (by kernel_rfl) (fun _ _ _ h => h) (Or.inl ⟨by rfl, ?_⟩) hHeld ?_ ?_
              rotate_left
              · rintro w' ⟨z, rfl⟩
                go_simp
                try with_reducible rfl
              rotate_left
              · simp only [Act.put, List.setIfInBounds_toArray, List.set_cons_zero, List.set_cons_succ, i64_w, i32_w]
                rfl
              refine take_ (i := 24) (N := (some 48)) (v := ?_) (a' := ?_) #[true, true, true, true, true, true, true, true, true, true, true, true, true, true, true, true, true, true, true, true, true, true, true, true, true, false] rfl rfl (by kernel_rfl) (fun _ _ _ h => h) (Or.inl ⟨by rfl, ?_⟩) hHeld ?_ ?_
              rotate_left
              · rintro w' ⟨z, rfl⟩
                go_simp
                try with_reducible rfl
              rotate_left
              · simp only [Act.put, List.setIfInBounds_toArray, List.set_cons_zero, List.set_cons_succ, i64_w, i32_w]
                rfl
              refine take_ (i := 25) (N := (some 49)) (v := ?_) (a' := ?_) #[true, true, true, true, true, true, true, true, true, true, true, true, true, true, true, true, true, true, true, true, true, true, true, true, true, true] rfl rfl (by kernel_rfl) (fun _ _ _ h => h) (Or.inl ⟨by rfl, ?_⟩) hHeld ?_ ?_
              rotate_left
              · rintro w' ⟨z, rfl⟩
                go_simp
                try with_reducible rfl
              rotate_left
              · simp only [Act.put, List.setIfInBounds_toArray, List.set_cons_zero, List.set_cons_succ, i64_w, i32_w]
                rfl
              refine done_ (by kernel_rfl) ?_
              have HZ := Aside0.mk HW3
              clear hHeld HW2 HW3
              have HN : Aside0 ((l.take (k + 1)).any (mq s) = false) := ⟨by rw [HTK.out, HQ.out, HP.out, ← hpl, d7] <;> rfl⟩
              have HWZ := Aside0.mk (below_step HW.out HZ.out)
              clear HTK HYE HCE y1 x6
              go_wp2_with (fail)
              go_roundw
              case rel => exact ⟨k + 1, hlt, by go_simp, HN, HWZ⟩
              case measure => simp [intOf]; omega
      · obtain rfl : k = l.length := by omega
        have HN : Aside0 (l.any (mq s) = false) := ⟨by have := HQ.out; rwa [List.take_length] at this⟩
        go_wp2_with (fail)
        go_ret
        exact ⟨by rw [missedP_mq, h3, HN.out]; rfl, HBW.out⟩
end Go.Proofs.YtkicenkljjpcfaaGreatDoor.Q
/- The reference's listed, walked. -/
set_option linter.unusedSimpArgs false
namespace Go.Proofs.YtkicenkljjpcfaaGreatDoor.Q
open Go.RowKit Go.Proofs.YtkicenkljjpcfaaGreatDoorW.PrintWords Go.Proofs.YtkicenkljjpcfaaGreatDoorW.PrintLast Go.Proofs.YtkicenkljjpcfaaGreatDoorW.PrintMore
def lq (l : List Sp) (s m : Sp) : Bool := madeP m m.r.id && (sureP l m.r.id s.b s.e && !memT m.r.id s.r.rids)
def sx (l : List Sp) (s : Sp) (x : ByteArray) (m : Sp) : Bool := seenP l m x s.b s.e
def xq (l : List Sp) (s : Sp) (x : ByteArray) : Bool := !(l.any (sx l s x))
def listedP (l : List Sp) (s : Sp) : Bool := l.any (lq l s) || s.r.rids.any (xq l s)
theorem lq_no1 {l : List Sp} {s m : Sp} (h : madeP m m.r.id = false) : lq l s m = false := by unfold lq; rw [h]; rfl
theorem lq_no2 {l : List Sp} {s m : Sp} (h : madeP m m.r.id = true) (h2 : sureP l m.r.id s.b s.e = false) : lq l s m = false := by unfold lq; rw [h, h2]; rfl
theorem lq_mem {l : List Sp} {s m : Sp} (h : madeP m m.r.id = true) (h2 : sureP l m.r.id s.b s.e = true) : lq l s m = !memT m.r.id s.r.rids := by unfold lq; rw [h, h2]; rfl
set_option maxHeartbeats 16000000 in
set_option maxRecDepth 100000 in
theorem listed_calls (A : Option Addr) (c : Nat) (l : List Sp) (s : Sp) (w : World) (h : CS w A l) (hl : l.length ≤ 10000) (hs : ∀ s ∈ l, LenS s) (hr : RdS w s) (hls : LenS s) :
    Calls Tryz.prog 39 #[.slice A l.length c, aggS s] w fun e' w' => e' = .returned (.bool (listedP l s)) ∧ Below w.heap.size w w' := by
  have HC := Aside0.mk h
  have HS := Aside0.mk hs
  have HR := Aside0.mk hr
  have HLS := Aside0.mk hls
  have HB0 : Aside0 (Below w.heap.size w (w.alloc (.cells #[.int .i64 s.c.kind, .slice s.c.eA s.c.eN s.c.eC, .int .i64 s.c.time, .string s.c.host, .string s.c.parent, .slice s.c.iA s.c.iN s.c.iC, .string s.c.path, .slice s.c.uA s.c.uN s.c.uC, .int .i64 s.c.percent, .bool s.c.rd, .int .i64 s.r.code, .string s.r.id, .int .i64 s.r.n, .slice s.r.jA s.r.jN s.r.jC, .slice s.r.tA s.r.tN s.r.tC, .slice s.r.fA s.r.fN s.r.fC, .slice s.r.sA s.r.sN s.r.sC, .int .i64 s.b, .int .i64 s.e, .bool s.op] 57))) := ⟨below_alloc (Below.refl _ _) _⟩
  have HK0 : Aside0 ((w.alloc (.cells #[.int .i64 s.c.kind, .slice s.c.eA s.c.eN s.c.eC, .int .i64 s.c.time, .string s.c.host, .string s.c.parent, .slice s.c.iA s.c.iN s.c.iC, .string s.c.path, .slice s.c.uA s.c.uN s.c.uC, .int .i64 s.c.percent, .bool s.c.rd, .int .i64 s.r.code, .string s.r.id, .int .i64 s.r.n, .slice s.r.jA s.r.jN s.r.jC, .slice s.r.tA s.r.tN s.r.tC, .slice s.r.fA s.r.fN s.r.fC, .slice s.r.sA s.r.sN s.r.sC, .int .i64 s.b, .int .i64 s.e, .bool s.op] 57)).heap[w.heap.size]? = some (.cells (encS s).toArray 57 (0, 0))) := ⟨(MapKept.heap_alloc w _).1⟩
  clear h hs hr hls
  go_enter Tryz.func39, Tryz.ntmps39
  go_upto_region 1 with (fail)
  generalize (w.alloc (.cells #[.int .i64 s.c.kind, .slice s.c.eA s.c.eN s.c.eC, .int .i64 s.c.time, .string s.c.host, .string s.c.parent, .slice s.c.iA s.c.iN s.c.iC, .string s.c.path, .slice s.c.uA s.c.uN s.c.uC, .int .i64 s.c.percent, .bool s.c.rd, .int .i64 s.r.code, .string s.r.id, .int .i64 s.r.n, .slice s.r.jA s.r.jN s.r.jC, .slice s.r.tA s.r.tN s.r.tC, .slice s.r.fA s.r.fN s.r.fC, .slice s.r.sA s.r.sN s.r.sC, .int .i64 s.b, .int .i64 s.e, .bool s.op] 57)) = W0 at HB0 HK0 ⊢
  obtain ⟨g, hg⟩ : ∃ g, g = w.heap.size := ⟨_, rfl⟩
  rw [← hg] at HK0 ⊢
  clear hg
  go_wp2_with (fail)
  go_loopw [5] (fun v5 wr => ∃ k : Nat, k ≤ l.length ∧ v5 = .int .i64 k ∧ Aside0 ((l.take k).any (lq l s) = false) ∧ Aside0 (Below W0.heap.size W0 wr)) (fun v5 _ => l.length - (intOf v5).toNat)
  case atStart => exact ⟨0, Nat.zero_le _, rfl, ⟨rfl⟩, ⟨Below.refl _ _⟩⟩
  case round =>
    obtain ⟨k, hk, rfl, HQ, HW⟩ := hrel
    have HBW := Aside0.mk (below_step HB0.out HW.out)
    have HKW := Aside0.mk (blk_below HK0.out HW.out)
    by_cases hlt : k < l.length
    · obtain ⟨m, hm⟩ : ∃ r, l[k]? = some r := ⟨_, List.getElem?_eq_getElem hlt⟩
      have hrm : m ∈ l := List.mem_of_getElem? hm
      obtain ⟨ad, rfl, hcell⟩ := cellsS (HC.out.below HBW.out).1 k hlt m hm
      have HCE := Aside0.mk hcell
      have HTK := Aside0.mk (any_take (lq l s) l k m hm)
      have HYE : Aside0 (lq l s m = true → l.any (lq l s) = true) := ⟨fun hq => List.any_eq_true.2 ⟨m, hrm, hq⟩⟩
      have y11 : wr.cell? ⟨(ad.add (k * 20)).block, (ad.add (k * 20)).off + 11, none⟩ = some (.string m.r.id) := (addf ad (k * 20) 11 (by omega)) ▸ hcell 11 _ rfl
      clear hcell hrm hm
      have hml : k < maxLen := by unfold maxLen; omega
      go_wp2_with (((with_reducible refine gate_dst (N := 25) rfl ?_); refine wpList_load_any (by rfl) 57 (.tmp 24) rfl (ad.add (k * 20)) rfl (encS m) _ (HCE.out) Tryz.underlying57 rfl s57 ?_))
      refine (made_calls m m.r.id _).mono ?_
      rintro e1 w1 ⟨rfl, hB⟩
      have HW1 := Aside0.mk (below_step HW.out hB)
      have HB1 := Aside0.mk (below_step HBW.out hB)
      have HK1 := Aside0.mk (blk_below HKW.out hB)
      clear hB HW HBW HKW HCE y11
      cases h1 : madeP m m.r.id with
      | false =>
        have HN : Aside0 ((l.take (k + 1)).any (lq l s) = false) := ⟨by rw [HTK.out, HQ.out, lq_no1 h1] <;> rfl⟩
        clear HTK HYE
        go_wp2_with (fail)
        go_roundw
        case rel => exact ⟨k + 1, hlt, by go_simp, HN, HW1⟩
        case measure => simp [intOf]; omega
      | true =>
        have k17 : w1.cell? ⟨g, 17, none⟩ = some (.int .i64 s.b) := (blk_cell HK1.out 17).trans rfl
        have k18 : w1.cell? ⟨g, 18, none⟩ = some (.int .i64 s.e) := (blk_cell HK1.out 18).trans rfl
        go_wp2_with (fail)
        refine (sure_calls (some ad) c l m.r.id s.b s.e _ (HC.out.below HB1.out) hl HS.out).mono ?_
        rintro e2 w2 ⟨rfl, hB⟩
        have HW2 := Aside0.mk (below_step HW1.out hB)
        have HB2 := Aside0.mk (below_step HB1.out hB)
        have HK2 := Aside0.mk (blk_below HK1.out hB)
        clear hB HW1 HB1 HK1 k17 k18
        cases h2 : sureP l m.r.id s.b s.e with
        | false =>
          have HN : Aside0 ((l.take (k + 1)).any (lq l s) = false) := ⟨by rw [HTK.out, HQ.out, lq_no2 h1 h2] <;> rfl⟩
          clear HTK HYE
          go_wp2_with (fail)
          go_roundw
          case rel => exact ⟨k + 1, hlt, by go_simp, HN, HW2⟩
          case measure => simp [intOf]; omega
        | true =>
          have k13 : w2.cell? ⟨g, 13, none⟩ = some (.slice s.r.jA s.r.jN s.r.jC) := (blk_cell HK2.out 13).trans rfl
          go_wp2_with (fail)
          refine (within_calls m.r.id s.r.rids s.r.jA s.r.jN s.r.jC _ (Kd.C_below HR.out.2.ids.2.2 HB2.out) HR.out.2.ids.2.1 HR.out.2.ids.1 HLS.out.1).mono ?_
          rintro e3 w3 ⟨rfl, hB⟩
          have HW3 := Aside0.mk (below_step HW2.out hB)
          have HB3 := Aside0.mk (below_step HB2.out hB)
          clear hB HW2 HB2 HK2 k13
          have HME := Aside0.mk (lq_mem (l := l) (s := s) h1 h2)
          cases h3 : memT m.r.id s.r.rids with
          | true =>
            have HN : Aside0 ((l.take (k + 1)).any (lq l s) = false) := ⟨by rw [HTK.out, HQ.out, HME.out, h3] <;> rfl⟩
            clear HTK HYE
            go_wp2_with (fail)
            go_roundw
            case rel => exact ⟨k + 1, hlt, by go_simp, HN, HW3⟩
            case measure => simp [intOf]; omega
          | false =>
            have HN : Aside0 (l.any (lq l s) = true) := ⟨HYE.out (by rw [HME.out, h3] <;> rfl)⟩
            go_wp2_with (fail)
            go_ret
            exact ⟨by unfold listedP; rw [HN.out]; rfl, HB3.out⟩
    · obtain rfl : k = l.length := by omega
      have HN : Aside0 (l.any (lq l s) = false) := ⟨by have := HQ.out; rwa [List.take_length] at this⟩
      clear HQ HW hlt hk
      generalize wr = w5 at HBW HKW ⊢
      go_wp2_with (fail)
      go_loopw [7] (fun v7 wt => ∃ j : Nat, j ≤ s.r.jN ∧ v7 = .int .i64 j ∧ Aside0 ((s.r.rids.take j).any (xq l s) = false) ∧ Aside0 (Below w5.heap.size w5 wt)) (fun v7 _ => s.r.jN - (intOf v7).toNat)
      case atStart => exact ⟨0, Nat.zero_le _, rfl, ⟨rfl⟩, ⟨Below.refl _ _⟩⟩
      case round =>
        obtain ⟨j, hj, rfl, HQ, HW⟩ := hrel
        have HBT := Aside0.mk (below_step HBW.out HW.out)
        have HKT := Aside0.mk (blk_below HKW.out HW.out)
        have k13 : wr.cell? ⟨g, 13, none⟩ = some (.slice s.r.jA s.r.jN s.r.jC) := (blk_cell HKT.out 13).trans rfl
        by_cases hlt : j < s.r.jN
        · skip
          have hjn : j < s.r.rids.length := by rw [HR.out.2.ids.2.1]; exact hlt
          obtain ⟨a2, hA2, hx⟩ := Kd.at_string (Kd.C_below HR.out.2.ids.2.2 HBT.out) (j : Int) (by omega) (by omega)
          obtain ⟨x, hxe⟩ : ∃ x, s.r.rids[j]? = some x := ⟨_, List.getElem?_eq_getElem hjn⟩
          have hrd : rdOf ByteArray.empty s.r.rids (j : Int) = x := by unfold rdOf; simp [List.getD_eq_getElem?_getD, hxe]
          rw [hrd, Int.toNat_natCast] at hx
          have HTK := Aside0.mk (any_take (xq l s) s.r.rids j x hxe)
          have HYE : Aside0 (xq l s x = true → s.r.rids.any (xq l s) = true) := ⟨fun hq => List.any_eq_true.2 ⟨x, List.mem_of_getElem? hxe, hq⟩⟩
          clear hrd hxe hjn
          rw [hA2] at k13
          have hjl : s.r.jN ≤ 10000 := HLS.out.1
          have hml : j < maxLen := by unfold maxLen; omega
          have HX := Aside0.mk hx
          clear hx
          go_wp2_with (fail)
          generalize wr = w6 at HBT HKT HW HX k13 ⊢
          go_loopw [8, 9] (fun v8 v9 wt => ∃ k : Nat, k ≤ l.length ∧ v9 = .int .i64 k ∧ v8 = .bool ((l.take k).any (sx l s x)) ∧ Aside0 (Below w6.heap.size w6 wt)) (fun _ v9 _ => l.length - (intOf v9).toNat)
          case atStart => exact ⟨0, Nat.zero_le _, rfl, rfl, ⟨Below.refl _ _⟩⟩
          case round =>
            obtain ⟨k, hk, rfl, rfl, HV⟩ := hrel
            have HBV := Aside0.mk (below_step HBT.out HV.out)
            have HKV := Aside0.mk (blk_below HKT.out HV.out)
            have HWV := Aside0.mk (below_step HW.out HV.out)
            clear k13
            by_cases hlt2 : k < l.length
            · obtain ⟨m, hm⟩ : ∃ r, l[k]? = some r := ⟨_, List.getElem?_eq_getElem hlt2⟩
              obtain ⟨ad, rfl, hcell⟩ := cellsS (HC.out.below HBV.out).1 k hlt2 m hm
              have HCE : ∀ (z : Up wr) j v, (encS m)[j]? = some v → z.w.cell? ((ad.add (k * 20)).add j) = some v := fun z j v hv => pw_cell_below z.h (hcell j v hv)
              have HT2 := Aside0.mk (any_take (sx l s x) l k m hm)
              have x13 : ∀ z : Up wr, z.w.cell? ⟨g, 13, none⟩ = some (.slice (some a2) s.r.jN s.r.jC) := fun z => (blk_cell (blk_below HKV.out z.h) 13).trans (by rw [← hA2]; rfl)
              have x17 : ∀ z : Up wr, z.w.cell? ⟨g, 17, none⟩ = some (.int .i64 s.b) := fun z => (blk_cell (blk_below HKV.out z.h) 17).trans rfl
              have x18 : ∀ z : Up wr, z.w.cell? ⟨g, 18, none⟩ = some (.int .i64 s.e) := fun z => (blk_cell (blk_below HKV.out z.h) 18).trans rfl
              have xs : ∀ z : Up wr, z.w.cell? (a2.add j) = some (.string x) := fun z => pw_cell_below z.h (pw_cell_below HV.out HX.out)
              clear hcell hm
              have hml2 : k < maxLen := by unfold maxLen; omega
              cases hok : (l.take k).any (sx l s x) with
              | true =>
                go_wp2_with (fail)
                refine wp_region_up (by kernel_rfl) (by kernel_rfl) ?_
                repeat (first | go_big_quiet_skip | (go_big_quiet_want; first | (refine quiet_load_any 57 (.tmp 64) rfl (ad.add (k * 20)) rfl (encS m) _ ?_ Tryz.underlying57 rfl s57 ?_; (rintro _ ⟨z, rfl⟩; exact HCE z); simp only [Act.put, List.setIfInBounds_toArray, List.set_cons_zero, List.set_cons_succ]; go_big_quiet_on) | (go_big_quiet_op; first | go_big_quiet_on | (apply Exists.intro; refine ⟨fun z => ?_, ?_⟩; (focus (fail; done)); go_big_quiet_on))))
                refine wpQuiet_nil ?_
                rintro _ ⟨z, rfl⟩
                have HWZ := Aside0.mk (below_step HV.out z.h)
                have HN : Aside0 ((l.take (k + 1)).any (sx l s x) = true) := ⟨by rw [HT2.out, hok] <;> rfl⟩
                clear HT2 HCE x13 x17 x18 xs
                go_wp2_with (fail)
                go_roundw
                case rel => exact ⟨k + 1, hlt2, by go_simp, by rw [HN.out], HWZ⟩
                case measure => simp [intOf]; omega
              | false =>
                cases h9 : seenP l m x s.b s.e with
                | true =>
                  have HSE : ∀ z : Up wr, Calls Tryz.prog 66 #[.slice (some ad) l.length c, aggS m, .string x, .int .i64 s.b, .int .i64 s.e] z.w fun e' w' => e' = .returned (.bool true) ∧ ∃ u : Up wr, w' = u.w := fun z => z.calls (h9 ▸ seen_calls (some ad) c l m x s.b s.e z.w ((HC.out.below HBV.out).below z.h) hl HS.out)
                  have HSE := Aside0.mk HSE
                  go_wp2_with (fail)
                  refine wp_region_up (by kernel_rfl) (by kernel_rfl) ?_
                  repeat (first | go_big_quiet_skip | (go_big_quiet_want; first | (refine quiet_load_any 57 (.tmp 64) rfl (ad.add (k * 20)) rfl (encS m) _ ?_ Tryz.underlying57 rfl s57 ?_; (rintro _ ⟨z, rfl⟩; exact HCE z); simp only [Act.put, List.setIfInBounds_toArray, List.set_cons_zero, List.set_cons_succ]; go_big_quiet_on) | (go_big_quiet_op; first | go_big_quiet_on | (apply Exists.intro; refine ⟨fun z => ?_, ?_⟩; (focus (exact HSE.out z; done)); go_big_quiet_on))))
                  refine wpQuiet_nil ?_
                  rintro _ ⟨z, rfl⟩
                  have HWZ := Aside0.mk (below_step HV.out z.h)
                  have HN : Aside0 ((l.take (k + 1)).any (sx l s x) = true) := ⟨by rw [HT2.out, hok, show sx l s x m = true from h9] <;> rfl⟩
                  clear HT2 HCE x13 x17 x18 xs
                  go_wp2_with (fail)
                  go_roundw
                  case rel => exact ⟨k + 1, hlt2, by go_simp, by rw [HN.out], HWZ⟩
                  case measure => simp [intOf]; omega
                | false =>
                  have HSE : ∀ z : Up wr, Calls Tryz.prog 66 #[.slice (some ad) l.length c, aggS m, .string x, .int .i64 s.b, .int .i64 s.e] z.w fun e' w' => e' = .returned (.bool false) ∧ ∃ u : Up wr, w' = u.w := fun z => z.calls (h9 ▸ seen_calls (some ad) c l m x s.b s.e z.w ((HC.out.below HBV.out).below z.h) hl HS.out)
                  have HSE := Aside0.mk HSE
                  go_wp2_with (fail)
                  refine wp_region_up (by kernel_rfl) (by kernel_rfl) ?_
                  repeat (first | go_big_quiet_skip | (go_big_quiet_want; first | (refine quiet_load_any 57 (.tmp 64) rfl (ad.add (k * 20)) rfl (encS m) _ ?_ Tryz.underlying57 rfl s57 ?_; (rintro _ ⟨z, rfl⟩; exact HCE z); simp only [Act.put, List.setIfInBounds_toArray, List.set_cons_zero, List.set_cons_succ]; go_big_quiet_on) | (go_big_quiet_op; first | go_big_quiet_on | (apply Exists.intro; refine ⟨fun z => ?_, ?_⟩; (focus (exact HSE.out z; done)); go_big_quiet_on))))
                  refine wpQuiet_nil ?_
                  rintro _ ⟨z, rfl⟩
                  have HWZ := Aside0.mk (below_step HV.out z.h)
                  have HN : Aside0 ((l.take (k + 1)).any (sx l s x) = false) := ⟨by rw [HT2.out, hok, show sx l s x m = false from h9] <;> rfl⟩
                  clear HT2 HCE x13 x17 x18 xs
                  go_wp2_with (fail)
                  go_roundw
                  case rel => exact ⟨k + 1, hlt2, by go_simp, by rw [HN.out], HWZ⟩
                  case measure => simp [intOf]; omega
            · obtain rfl : k = l.length := by omega
              cases hok : (l.take l.length).any (sx l s x) with
              | true =>
                have HN2 : Aside0 ((s.r.rids.take (j + 1)).any (xq l s) = false) := ⟨by rw [HTK.out, HQ.out]; rw [List.take_length] at hok; unfold xq; rw [hok]; rfl⟩
                clear HTK HYE HX
                go_wp2_with (fail)
                go_roundw
                case rel => exact ⟨j + 1, hlt, by go_simp, HN2, HWV⟩
                case measure => simp [intOf]; omega
              | false =>
                have HN2 : Aside0 (s.r.rids.any (xq l s) = true) := ⟨HYE.out (by rw [List.take_length] at hok; unfold xq; rw [hok]; rfl)⟩
                go_wp2_with (fail)
                go_ret
                exact ⟨by unfold listedP; rw [HN.out, HN2.out]; rfl, HBV.out⟩
        · obtain rfl : j = s.r.jN := by omega
          go_wp2_with (fail)
          go_ret
          exact ⟨by unfold listedP; rw [HN.out]; have := HQ.out; rw [List.take_of_length_le (Nat.le_of_eq HR.out.2.ids.2.1)] at this; rw [this]; rfl, HBT.out⟩
end Go.Proofs.YtkicenkljjpcfaaGreatDoor.Q
/- The reference's wrong, walked. -/
set_option linter.unusedSimpArgs false
namespace Go.Proofs.YtkicenkljjpcfaaGreatDoor.Q
open Go.RowKit Go.Proofs.YtkicenkljjpcfaaGreatDoorW.PrintWords Go.Proofs.YtkicenkljjpcfaaGreatDoorW.PrintLast Go.Proofs.YtkicenkljjpcfaaGreatDoorW.PrintMore
def wrongI (l : List Sp) (s : Sp) : Bool := if s.c.kind == 3 then (if s.r.code == 0 then restoredP l s else if s.r.code == 5 then missedP l s else false) else if s.c.kind == 4 then (if s.r.code == 0 then listedP l s else false) else if s.c.kind == 2 then (if s.r.code == 0 then ((s.r.id.size : Int) != 32) else false) else false
def wrongP (l : List Sp) (s : Sp) : Bool := !s.op && wrongI l s
theorem wrongP_eq (l : List Sp) (s : Sp) : wrongP l s = (!s.op && wrongI l s) := rfl
set_option maxHeartbeats 8000000 in
set_option maxRecDepth 100000 in
theorem wrong_calls (A : Option Addr) (c : Nat) (l : List Sp) (s : Sp) (w : World) (h : CS w A l) (hl : l.length ≤ 10000) (hs : ∀ s ∈ l, LenS s) (hr : RdS w s) (hls : LenS s) :
    Calls Tryz.prog 18 #[.slice A l.length c, aggS s] w fun e' w' => e' = .returned (.bool (wrongP l s)) ∧ Below w.heap.size w w' := by
  have HC := Aside0.mk h
  have HS := Aside0.mk hs
  have HR := Aside0.mk hr
  have HLS := Aside0.mk hls
  have HB0 : Aside0 (Below w.heap.size w (w.alloc (.cells #[.int .i64 s.c.kind, .slice s.c.eA s.c.eN s.c.eC, .int .i64 s.c.time, .string s.c.host, .string s.c.parent, .slice s.c.iA s.c.iN s.c.iC, .string s.c.path, .slice s.c.uA s.c.uN s.c.uC, .int .i64 s.c.percent, .bool s.c.rd, .int .i64 s.r.code, .string s.r.id, .int .i64 s.r.n, .slice s.r.jA s.r.jN s.r.jC, .slice s.r.tA s.r.tN s.r.tC, .slice s.r.fA s.r.fN s.r.fC, .slice s.r.sA s.r.sN s.r.sC, .int .i64 s.b, .int .i64 s.e, .bool s.op] 57))) := ⟨below_alloc (Below.refl _ _) _⟩
  have HK0 : Aside0 ((w.alloc (.cells #[.int .i64 s.c.kind, .slice s.c.eA s.c.eN s.c.eC, .int .i64 s.c.time, .string s.c.host, .string s.c.parent, .slice s.c.iA s.c.iN s.c.iC, .string s.c.path, .slice s.c.uA s.c.uN s.c.uC, .int .i64 s.c.percent, .bool s.c.rd, .int .i64 s.r.code, .string s.r.id, .int .i64 s.r.n, .slice s.r.jA s.r.jN s.r.jC, .slice s.r.tA s.r.tN s.r.tC, .slice s.r.fA s.r.fN s.r.fC, .slice s.r.sA s.r.sN s.r.sC, .int .i64 s.b, .int .i64 s.e, .bool s.op] 57)).heap[w.heap.size]? = some (.cells (encS s).toArray 57 (0, 0))) := ⟨(MapKept.heap_alloc w _).1⟩
  clear h hs hr hls
  go_enter Tryz.func18, Tryz.ntmps18
  go_upto_region 1 with (fail)
  generalize (w.alloc (.cells #[.int .i64 s.c.kind, .slice s.c.eA s.c.eN s.c.eC, .int .i64 s.c.time, .string s.c.host, .string s.c.parent, .slice s.c.iA s.c.iN s.c.iC, .string s.c.path, .slice s.c.uA s.c.uN s.c.uC, .int .i64 s.c.percent, .bool s.c.rd, .int .i64 s.r.code, .string s.r.id, .int .i64 s.r.n, .slice s.r.jA s.r.jN s.r.jC, .slice s.r.tA s.r.tN s.r.tC, .slice s.r.fA s.r.fN s.r.fC, .slice s.r.sA s.r.sN s.r.sC, .int .i64 s.b, .int .i64 s.e, .bool s.op] 57)) = W0 at HB0 HK0 ⊢
  obtain ⟨g, hg⟩ : ∃ g, g = w.heap.size := ⟨_, rfl⟩
  rw [← hg] at HK0 ⊢
  clear hg
  have k0 : W0.cell? ⟨g, 0, none⟩ = some (.int .i64 s.c.kind) := (blk_cell HK0.out 0).trans rfl
  have k10 : W0.cell? ⟨g, 10, none⟩ = some (.int .i64 s.r.code) := (blk_cell HK0.out 10).trans rfl
  have k11 : W0.cell? ⟨g, 11, none⟩ = some (.string s.r.id) := (blk_cell HK0.out 11).trans rfl
  have k19 : W0.cell? ⟨g, 19, none⟩ = some (.bool s.op) := (blk_cell HK0.out 19).trans rfl
  cases ho : s.op with
  | true =>
    rw [ho] at k19
    go_wp2_with (fail)
    go_ret
    exact ⟨by rw [wrongP_eq, ho]; rfl, HB0.out⟩
  | false =>
    rw [ho] at k19
    have HO := Aside0.mk ho
    clear ho
    by_cases hk : s.c.kind = 3
    · by_cases hc : s.r.code = 0
      · have a2 : (s.c.kind == 2) = false := beq_eq_false_iff_ne.2 (by omega)
        have a3 : (s.c.kind == 3) = true := beq_iff_eq.2 hk
        have a4 : (s.c.kind == 4) = false := beq_eq_false_iff_ne.2 (by omega)
        have b0 : (s.r.code == 0) = true := beq_iff_eq.2 hc
        have b5 : (s.r.code == 5) = false := beq_eq_false_iff_ne.2 (by omega)
        have HW : Aside0 (wrongI l s = restoredP l s) := ⟨by unfold wrongI; rw [a3, b0]; rfl⟩
        clear hk hc
        go_wp2_with (((with_reducible refine gate_dst (N := 19) rfl ?_); refine wpList_load_any (by rfl) 57 (.tmp 3) rfl ⟨g, 0, none⟩ rfl (encS s) _ (cells_blk HK0.out) Tryz.underlying57 rfl s57 ?_))
        refine (restored_calls A c l s _ (HC.out.below HB0.out) hl HS.out (HR.out.below HB0.out) HLS.out).mono ?_
        rintro e1 w1 ⟨rfl, hB⟩
        have HB1 := Aside0.mk (below_step HB0.out hB)
        clear hB
        go_wp2_with (fail)
        go_ret
        exact ⟨by rw [wrongP_eq, HO.out, HW.out]; rfl, HB1.out⟩
      · by_cases hc5 : s.r.code = 5
        · have a2 : (s.c.kind == 2) = false := beq_eq_false_iff_ne.2 (by omega)
          have a3 : (s.c.kind == 3) = true := beq_iff_eq.2 hk
          have a4 : (s.c.kind == 4) = false := beq_eq_false_iff_ne.2 (by omega)
          have b0 : (s.r.code == 0) = false := beq_eq_false_iff_ne.2 (by omega)
          have b5 : (s.r.code == 5) = true := beq_iff_eq.2 hc5
          have HW : Aside0 (wrongI l s = missedP l s) := ⟨by unfold wrongI; rw [a3, b0, b5]; rfl⟩
          clear hk hc hc5
          go_wp2_with (((with_reducible refine gate_dst (N := 33) rfl ?_); refine wpList_load_any (by rfl) 57 (.tmp 3) rfl ⟨g, 0, none⟩ rfl (encS s) _ (cells_blk HK0.out) Tryz.underlying57 rfl s57 ?_))
          refine (missed_calls A c l s _ (HC.out.below HB0.out) hl HS.out (HR.out.below HB0.out) HLS.out).mono ?_
          rintro e1 w1 ⟨rfl, hB⟩
          have HB1 := Aside0.mk (below_step HB0.out hB)
          clear hB
          go_wp2_with (fail)
          go_ret
          exact ⟨by rw [wrongP_eq, HO.out, HW.out]; rfl, HB1.out⟩
        · have a2 : (s.c.kind == 2) = false := beq_eq_false_iff_ne.2 (by omega)
          have a3 : (s.c.kind == 3) = true := beq_iff_eq.2 hk
          have a4 : (s.c.kind == 4) = false := beq_eq_false_iff_ne.2 (by omega)
          have b0 : (s.r.code == 0) = false := beq_eq_false_iff_ne.2 (by omega)
          have b5 : (s.r.code == 5) = false := beq_eq_false_iff_ne.2 (by omega)
          have HW : Aside0 (wrongI l s = false) := ⟨by unfold wrongI; rw [a3, b0, b5]; rfl⟩
          clear hk hc hc5
          go_wp2_with (fail)
          go_ret
          exact ⟨by rw [wrongP_eq, HO.out, HW.out]; rfl, HB0.out⟩
    · by_cases hk4 : s.c.kind = 4
      · by_cases hc : s.r.code = 0
        · have a2 : (s.c.kind == 2) = false := beq_eq_false_iff_ne.2 (by omega)
          have a3 : (s.c.kind == 3) = false := beq_eq_false_iff_ne.2 (by omega)
          have a4 : (s.c.kind == 4) = true := beq_iff_eq.2 hk4
          have b0 : (s.r.code == 0) = true := beq_iff_eq.2 hc
          have b5 : (s.r.code == 5) = false := beq_eq_false_iff_ne.2 (by omega)
          have HW : Aside0 (wrongI l s = listedP l s) := ⟨by unfold wrongI; rw [a3, a4, b0]; rfl⟩
          clear hk hk4 hc
          go_wp2_with (((with_reducible refine gate_dst (N := 47) rfl ?_); refine wpList_load_any (by rfl) 57 (.tmp 3) rfl ⟨g, 0, none⟩ rfl (encS s) _ (cells_blk HK0.out) Tryz.underlying57 rfl s57 ?_))
          refine (listed_calls A c l s _ (HC.out.below HB0.out) hl HS.out (HR.out.below HB0.out) HLS.out).mono ?_
          rintro e1 w1 ⟨rfl, hB⟩
          have HB1 := Aside0.mk (below_step HB0.out hB)
          clear hB
          go_wp2_with (fail)
          go_ret
          exact ⟨by rw [wrongP_eq, HO.out, HW.out]; rfl, HB1.out⟩
        · have a2 : (s.c.kind == 2) = false := beq_eq_false_iff_ne.2 (by omega)
          have a3 : (s.c.kind == 3) = false := beq_eq_false_iff_ne.2 (by omega)
          have a4 : (s.c.kind == 4) = true := beq_iff_eq.2 hk4
          have b0 : (s.r.code == 0) = false := beq_eq_false_iff_ne.2 hc
          have HW : Aside0 (wrongI l s = false) := ⟨by unfold wrongI; rw [a3, a4, b0]; rfl⟩
          clear hk hk4 hc
          go_wp2_with (fail)
          go_ret
          exact ⟨by rw [wrongP_eq, HO.out, HW.out]; rfl, HB0.out⟩
      · by_cases hk2 : s.c.kind = 2
        · by_cases hc : s.r.code = 0
          · have a2 : (s.c.kind == 2) = true := beq_iff_eq.2 hk2
            have a3 : (s.c.kind == 3) = false := beq_eq_false_iff_ne.2 (by omega)
            have a4 : (s.c.kind == 4) = false := beq_eq_false_iff_ne.2 (by omega)
            have b0 : (s.r.code == 0) = true := beq_iff_eq.2 hc
            have b5 : (s.r.code == 5) = false := beq_eq_false_iff_ne.2 (by omega)
            have HW : Aside0 (wrongI l s = ((s.r.id.size : Int) != 32)) := ⟨by unfold wrongI; rw [a3, a4, a2, b0]; rfl⟩
            clear hk hk4 hk2 hc
            go_wp2_with (fail)
            go_ret
            exact ⟨by rw [wrongP_eq, HO.out, HW.out]; rfl, HB0.out⟩
          · have a2 : (s.c.kind == 2) = true := beq_iff_eq.2 hk2
            have a3 : (s.c.kind == 3) = false := beq_eq_false_iff_ne.2 (by omega)
            have a4 : (s.c.kind == 4) = false := beq_eq_false_iff_ne.2 (by omega)
            have b0 : (s.r.code == 0) = false := beq_eq_false_iff_ne.2 hc
            have HW : Aside0 (wrongI l s = false) := ⟨by unfold wrongI; rw [a3, a4, a2, b0]; rfl⟩
            clear hk hk4 hk2 hc
            go_wp2_with (fail)
            go_ret
            exact ⟨by rw [wrongP_eq, HO.out, HW.out]; rfl, HB0.out⟩
        · have a2 : (s.c.kind == 2) = false := beq_eq_false_iff_ne.2 (by omega)
          have a3 : (s.c.kind == 3) = false := beq_eq_false_iff_ne.2 (by omega)
          have a4 : (s.c.kind == 4) = false := beq_eq_false_iff_ne.2 (by omega)
          have HW : Aside0 (wrongI l s = false) := ⟨by unfold wrongI; rw [a3, a4, a2]; rfl⟩
          clear hk hk4 hk2
          go_wp2_with (fail)
          go_ret
          exact ⟨by rw [wrongP_eq, HO.out, HW.out]; rfl, HB0.out⟩
end Go.Proofs.YtkicenkljjpcfaaGreatDoor.Q
