/- Of the proof about model: several texts, joined. -/
import Derived.Test.YtkicenkljjpcfaaGreatDoorMF
import Derived.Test.YtkicenkljjpcfaaGreatDoorMG
import Derived.Test.YtkicenkljjpcfaaGreatDoorMD
set_option linter.unusedVariables false
set_option linter.unusedSimpArgs false
set_option linter.unusedSimpArgs false
namespace Go.Proofs.YtkicenkljjpcfaaGreatDoor.Q
open Go.RowKit Go.Shelf Go.Proofs.YtkicenkljjpcfaaGreatDoorW.PrintWords Go.Proofs.YtkicenkljjpcfaaGreatDoorW.PrintLast Go.Proofs.YtkicenkljjpcfaaGreatDoorW.PrintMore
theorem s47 : (Tryz.prog.info? 47).map (·.size) = some 2 := by kernel_rfl
theorem eequal2 (A : Option Addr) (c m : Nat) (l : List S101) (B : Option Addr) (d n : Nat) (k : List S101) (w : World) (hm : l.length = m) (hn : k.length = n) (hr : Kd.C k101 w A m l) (hk : Kd.C k101 w B n k) (hl : m ≤ 10000) (hl2 : n ≤ 10000) :
    Calls Tryz.prog 57 #[.slice A m c, .slice B n d] w fun e w' => e = .returned (.bool (eqE l k)) ∧ Below w.heap.size w w' := by
  subst hm; subst hn
  exact eequal_calls A c l B d k w hr hk (by omega) (by omega)
set_option maxHeartbeats 8000000 in
set_option maxRecDepth 100000 in
theorem q54_calls (A : Option Addr) (c : Nat) (n : Int) (l : List Sp) (s m : Sp) (gh gs : Nat) (w : World) (hC : CS w A l) (hl : l.length ≤ 10000) (hs : ∀ s ∈ l, LenS s) (hm : RdS w m) (hlm : LenS m) (hr : RdS w s) (hls : LenS s)
    (hh : HistAt w gh A c l n) (hg : w.heap[gs]? = some (.cells (encS s).toArray 51 (0, 0))) :
    Calls Tryz.prog 54 #[aggS m, .pointer (some ⟨gh, 0, none⟩), .pointer (some ⟨gs, 0, none⟩)] w fun e' w' => e' = .returned (.bool (rq l s m)) ∧ Below w.heap.size w w' := by
  have HC := Aside0.mk hC
  have HL := Aside0.mk hs
  have HM := Aside0.mk hm
  have HLM := Aside0.mk hlm
  have HR := Aside0.mk hr
  have HLS := Aside0.mk hls
  have HH := Aside0.mk hh
  have HG := Aside0.mk hg
  clear hC hs hm hlm hr hls hh hg
  have HB0 : Aside0 (Below w.heap.size w (w.alloc (.cells #[.int .i64 m.c.kind, .slice m.c.eA m.c.eN m.c.eC, .int .i64 m.c.time, .string m.c.host, .string m.c.parent, .slice m.c.iA m.c.iN m.c.iC, .string m.c.path, .slice m.c.uA m.c.uN m.c.uC, .int .i64 m.c.percent, .bool m.c.rd, .int .i64 m.r.code, .string m.r.id, .int .i64 m.r.n, .slice m.r.jA m.r.jN m.r.jC, .slice m.r.tA m.r.tN m.r.tC, .slice m.r.fA m.r.fN m.r.fC, .slice m.r.sA m.r.sN m.r.sC, .int .i64 m.b, .int .i64 m.e, .bool m.op] 51))) := ⟨below_alloc (Below.refl _ _) _⟩
  have HK0 : Aside0 ((w.alloc (.cells #[.int .i64 m.c.kind, .slice m.c.eA m.c.eN m.c.eC, .int .i64 m.c.time, .string m.c.host, .string m.c.parent, .slice m.c.iA m.c.iN m.c.iC, .string m.c.path, .slice m.c.uA m.c.uN m.c.uC, .int .i64 m.c.percent, .bool m.c.rd, .int .i64 m.r.code, .string m.r.id, .int .i64 m.r.n, .slice m.r.jA m.r.jN m.r.jC, .slice m.r.tA m.r.tN m.r.tC, .slice m.r.fA m.r.fN m.r.fC, .slice m.r.sA m.r.sN m.r.sC, .int .i64 m.b, .int .i64 m.e, .bool m.op] 51)).heap[w.heap.size]? = some (.cells (encS m).toArray 51 (0, 0))) := ⟨(MapKept.heap_alloc w _).1⟩
  go_enter Tryz.func54, Tryz.ntmps54
  go_upto_region 1 with (fail)
  generalize (w.alloc (.cells #[.int .i64 m.c.kind, .slice m.c.eA m.c.eN m.c.eC, .int .i64 m.c.time, .string m.c.host, .string m.c.parent, .slice m.c.iA m.c.iN m.c.iC, .string m.c.path, .slice m.c.uA m.c.uN m.c.uC, .int .i64 m.c.percent, .bool m.c.rd, .int .i64 m.r.code, .string m.r.id, .int .i64 m.r.n, .slice m.r.jA m.r.jN m.r.jC, .slice m.r.tA m.r.tN m.r.tC, .slice m.r.fA m.r.fN m.r.fC, .slice m.r.sA m.r.sN m.r.sC, .int .i64 m.b, .int .i64 m.e, .bool m.op] 51)) = W0 at HB0 HK0 ⊢
  obtain ⟨g, hg⟩ : ∃ g, g = w.heap.size := ⟨_, rfl⟩
  rw [← hg] at HK0 ⊢
  clear hg
  have HH0 : Aside0 (W0.heap[gh]? = some (.cells ([.slice A l.length c, .int .i64 n] : List Value).toArray 47 (0, 0))) := ⟨blk_below HH.out HB0.out⟩
  have HG0 := Aside0.mk (blk_below HG.out HB0.out)
  have HCH : ∀ (z : Up W0) j v, ([.slice A l.length c, .int .i64 n] : List Value)[j]? = some v → z.w.cell? ((⟨gh, 0, none⟩ : Addr).add j) = some v := fun z => cells_blk (blk_below HH0.out z.h)
  have HCM : ∀ (z : Up W0) j v, (encS m)[j]? = some v → z.w.cell? ((⟨g, 0, none⟩ : Addr).add j) = some v := fun z => cells_blk (blk_below HK0.out z.h)
  have HCC : ∀ (z : Up W0) j v, (encC s.c)[j]? = some v → z.w.cell? ((⟨gs, 0, none⟩ : Addr).add j) = some v := fun z j v hv => cells_blk (blk_below HG0.out z.h) j v (prefix_get hv)
  have y1 : ∀ z : Up W0, z.w.cell? ⟨g, 1, none⟩ = some (.slice m.c.eA m.c.eN m.c.eC) := fun z => (blk_cell (blk_below HK0.out z.h) 1).trans rfl
  have x6 : ∀ z : Up W0, z.w.cell? ⟨gs, 6, none⟩ = some (.string s.c.path) := fun z => (blk_cell (blk_below HG0.out z.h) 6).trans rfl
  have x15 : ∀ z : Up W0, z.w.cell? ⟨gs, 15, none⟩ = some (.slice s.r.fA s.r.fN s.r.fC) := fun z => (blk_cell (blk_below HG0.out z.h) 15).trans rfl
  have x17 : ∀ z : Up W0, z.w.cell? ⟨gs, 17, none⟩ = some (.int .i64 s.b) := fun z => (blk_cell (blk_below HG0.out z.h) 17).trans rfl
  have x18 : ∀ z : Up W0, z.w.cell? ⟨gs, 18, none⟩ = some (.int .i64 s.e) := fun z => (blk_cell (blk_below HG0.out z.h) 18).trans rfl
  cases h5 : seenP l m (idP s.c) s.b s.e with
  | false =>
    have HID : ∀ z : Up W0, Calls Tryz.prog 56 #[aggC s.c] z.w fun e' w' => e' = .returned (.string (idP s.c)) ∧ ∃ u : Up W0, w' = u.w := fun z => z.calls (pid_calls s.c z.w (HR.out.1.below (below_step HB0.out z.h)))
    have HSE : ∀ z : Up W0, Calls Tryz.prog 55 #[.agg #[.slice A l.length c, .int .i64 n], aggS m, .string (idP s.c), .int .i64 s.b, .int .i64 s.e] z.w fun e' w' => e' = .returned (.bool false) ∧ ∃ u : Up W0, w' = u.w := fun z => z.calls (h5 ▸ pseen_calls A c n l m (idP s.c) s.b s.e z.w (HC.out.below (below_step HB0.out z.h)) hl HL.out)
    have HSE := Aside0.mk HSE
    have HID := Aside0.mk HID
    refine wp_region_up (by kernel_rfl) (by kernel_rfl) ?_
    repeat (first | go_big_quiet_skip | (go_big_quiet_want; first | (refine quiet_load_any 47 (.tmp 1) rfl (⟨gh, 0, none⟩ : Addr) rfl ([.slice A l.length c, .int .i64 n]) _ ?_ Tryz.underlying47 rfl s47 ?_; (rintro _ ⟨z, rfl⟩; exact HCH z); simp only [Act.put, List.setIfInBounds_toArray, List.set_cons_zero, List.set_cons_succ]; go_big_quiet_on) | (refine quiet_load_any 51 (.tmp 3) rfl (⟨g, 0, none⟩ : Addr) rfl (encS m) _ ?_ Tryz.underlying51 rfl s51 ?_; (rintro _ ⟨z, rfl⟩; exact HCM z); simp only [Act.put, List.setIfInBounds_toArray, List.set_cons_zero, List.set_cons_succ]; go_big_quiet_on) | (refine quiet_load_any 28 (.tmp 7) rfl (⟨gs, 0, none⟩ : Addr) rfl (encC s.c) _ ?_ Tryz.underlying28 rfl s28 ?_; (rintro _ ⟨z, rfl⟩; exact HCC z); simp only [Act.put, List.setIfInBounds_toArray, List.set_cons_zero, List.set_cons_succ]; go_big_quiet_on) | (go_big_quiet_op; first | go_big_quiet_on | (apply Exists.intro; refine ⟨fun z => ?_, ?_⟩; (focus (first | exact HSE.out z | exact HID.out z; done)); go_big_quiet_on))))
    refine wpQuiet_nil ?_
    rintro _ ⟨z, rfl⟩
    have HWZ := Aside0.mk (below_step HB0.out z.h)
    have HN : Aside0 (rq l s m = false) := ⟨by unfold rq; rw [h5]; rfl⟩
    clear HCH HCM HCC y1 x6 x15 x17 x18
    go_wp2_with (fail)
    go_ret
    exact ⟨by rw [HN.out]; rfl, HWZ.out⟩
  | true =>
    refine start_ (n := 24) (ds := ([] : List Nat)) (S := fun w' => ∃ z : Up W0, w' = z.w) #[false, false, false, false, false, false, false, false, false, false, false, false, false, false, false, false, false, false, false, false, false, false, false, false] (by kernel_rfl) rfl rfl ⟨⟨_, below_drew (Below.refl _ _)⟩, rfl⟩ (fun hHeld => ?_)
    refine take_ (i := 0) (N := (some 5)) (v := .agg ([.slice A l.length c, .int .i64 n]).toArray) (a' := ?_) #[true, false, false, false, false, false, false, false, false, false, false, false, false, false, false, false, false, false, false, false, false, false, false, false] rfl rfl (by kernel_rfl) (fun _ _ _ h => h) (yieldsIf_load_any (by rfl) 47 (.tmp 1) rfl (⟨gh, 0, none⟩ : Addr) rfl ([.slice A l.length c, .int .i64 n]) _ (by rintro _ ⟨z, rfl⟩; exact HCH z) Tryz.underlying47 rfl s47) hHeld ?_ ?_
    rotate_left
    · simp only [Act.put, List.setIfInBounds_toArray, List.set_cons_zero, List.set_cons_succ, i64_w, i32_w]
      rfl
    refine take_ (i := 1) (N := (some 6)) (v := .agg (encS m).toArray) (a' := ?_) #[true, true, false, false, false, false, false, false, false, false, false, false, false, false, false, false, false, false, false, false, false, false, false, false] rfl rfl (by kernel_rfl) (fun _ _ _ h => h) (yieldsIf_load_any (by rfl) 51 (.tmp 3) rfl (⟨g, 0, none⟩ : Addr) rfl (encS m) _ (by rintro _ ⟨z, rfl⟩; exact HCM z) Tryz.underlying51 rfl s51) hHeld ?_ ?_
    rotate_left
    · simp only [Act.put, List.setIfInBounds_toArray, List.set_cons_zero, List.set_cons_succ, i64_w, i32_w]
      rfl
    refine take_ (i := 2) (N := (some 7)) (v := ?_) (a' := ?_) #[true, true, true, false, false, false, false, false, false, false, false, false, false, false, false, false, false, false, false, false, false, false, false, false] rfl rfl (by kernel_rfl) (fun _ _ _ h => h) (Or.inl ⟨by rfl, ?_⟩) hHeld ?_ ?_
    rotate_left
    · rintro w' ⟨z, rfl⟩
      go_simp
      try with_reducible rfl
    rotate_left
    · simp only [Act.put, List.setIfInBounds_toArray, List.set_cons_zero, List.set_cons_succ, i64_w, i32_w]
      rfl
    refine take_ (i := 3) (N := (some 8)) (v := .agg (encC s.c).toArray) (a' := ?_) #[true, true, true, true, false, false, false, false, false, false, false, false, false, false, false, false, false, false, false, false, false, false, false, false] rfl rfl (by kernel_rfl) (fun _ _ _ h => h) (yieldsIf_load_any (by rfl) 28 (.tmp 7) rfl (⟨gs, 0, none⟩ : Addr) rfl (encC s.c) _ (by rintro _ ⟨z, rfl⟩; exact HCC z) Tryz.underlying28 rfl s28) hHeld ?_ ?_
    rotate_left
    · simp only [Act.put, List.setIfInBounds_toArray, List.set_cons_zero, List.set_cons_succ, i64_w, i32_w]
      rfl
    refine take_ (i := 5) (N := (some 10)) (v := ?_) (a' := ?_) #[true, true, true, true, false, true, false, false, false, false, false, false, false, false, false, false, false, false, false, false, false, false, false, false] rfl rfl (by kernel_rfl) (fun _ _ _ h => h) (Or.inl ⟨by rfl, ?_⟩) hHeld ?_ ?_
    rotate_left
    · rintro w' ⟨z, rfl⟩
      go_simp
      try with_reducible rfl
    rotate_left
    · simp only [Act.put, List.setIfInBounds_toArray, List.set_cons_zero, List.set_cons_succ, i64_w, i32_w]
      rfl
    refine take_ (i := 6) (N := (some 11)) (v := ?_) (a' := ?_) #[true, true, true, true, false, true, true, false, false, false, false, false, false, false, false, false, false, false, false, false, false, false, false, false] rfl rfl (by kernel_rfl) (fun _ _ _ h => h) (Or.inl ⟨by rfl, ?_⟩) hHeld ?_ ?_
    rotate_left
    · rintro w' ⟨z, rfl⟩
      go_simp
      try with_reducible rfl
    rotate_left
    · simp only [Act.put, List.setIfInBounds_toArray, List.set_cons_zero, List.set_cons_succ, i64_w, i32_w]
      rfl
    refine take_ (i := 7) (N := (some 12)) (v := ?_) (a' := ?_) #[true, true, true, true, false, true, true, true, false, false, false, false, false, false, false, false, false, false, false, false, false, false, false, false] rfl rfl (by kernel_rfl) (fun _ _ _ h => h) (Or.inl ⟨by rfl, ?_⟩) hHeld ?_ ?_
    rotate_left
    · rintro w' ⟨z, rfl⟩
      go_simp
      try with_reducible rfl
    rotate_left
    · simp only [Act.put, List.setIfInBounds_toArray, List.set_cons_zero, List.set_cons_succ, i64_w, i32_w]
      rfl
    refine take_ (i := 8) (N := (some 13)) (v := ?_) (a' := ?_) #[true, true, true, true, false, true, true, true, true, false, false, false, false, false, false, false, false, false, false, false, false, false, false, false] rfl rfl (by kernel_rfl) (fun _ _ _ h => h) (Or.inl ⟨by rfl, ?_⟩) hHeld ?_ ?_
    rotate_left
    · rintro w' ⟨z, rfl⟩
      go_simp
      try with_reducible rfl
    rotate_left
    · simp only [Act.put, List.setIfInBounds_toArray, List.set_cons_zero, List.set_cons_succ, i64_w, i32_w]
      rfl
    refine one_ (i := 4) (N := (some 9)) #[true, true, true, true, true, true, true, true, true, false, false, false, false, false, false, false, false, false, false, false, false, false, false, false] rfl rfl (by kernel_rfl) (by decide) (fun K hK => ?_)
    refine goes_ Tryz.func56 (by kernel_rfl) rfl #[.agg (encC s.c).toArray] (by rfl) rfl rfl (by (try simp only [List.map_toArray, List.map_cons, List.map_nil]); first | done | rfl) ?_
    refine (pid_calls s.c _ (HR.out.1.below (below_step HB0.out (below_drew (Below.refl _ _))))).mono ?_
    rintro e1 w1 ⟨rfl, hB⟩
    have HW1 : Below W0.heap.size W0 w1 := below_step (below_drew (Below.refl _ _)) hB
    clear hB
    refine ⟨_, rfl, ?_⟩
    refine hK.out _ _ ⟨⟨_, HW1⟩, rfl⟩ (fun hHeld => ?_)
    clear hK K
    refine norm_ (a' := ?_) ?_ ?_
    rotate_left
    · show Act.put _ (some 9) _ = _
      simp only [Act.put, List.setIfInBounds_toArray, List.set_cons_zero, List.set_cons_succ, i64_w, i32_w]
      rfl
    refine one_ (i := 9) (N := (some 14)) #[true, true, true, true, true, true, true, true, true, true, false, false, false, false, false, false, false, false, false, false, false, false, false, false] rfl rfl (by kernel_rfl) (by decide) (fun K hK => ?_)
    refine goes_ Tryz.func55 (by kernel_rfl) rfl #[.agg ([.slice A l.length c, .int .i64 n] : List Value).toArray, .agg (encS m).toArray, .string (idP s.c), .int .i64 s.b, .int .i64 s.e] (by rfl) rfl rfl (by (try simp only [List.map_toArray, List.map_cons, List.map_nil]); first | done | rfl) ?_
    refine (pseen_calls A c n l m (idP s.c) s.b s.e _ (HC.out.below (below_step HB0.out HW1)) hl HL.out).mono ?_
    rintro e2 w2 ⟨rfl, hB⟩
    have HW2 : Below W0.heap.size W0 w2 := below_step HW1 hB
    clear hB
    rw [h5]
    refine ⟨_, rfl, ?_⟩
    refine hK.out _ _ ⟨⟨_, HW2⟩, rfl⟩ (fun hHeld => ?_)
    clear hK K
    refine norm_ (a' := ?_) ?_ ?_
    rotate_left
    · show Act.put _ (some 14) _ = _
      simp only [Act.put, List.setIfInBounds_toArray, List.set_cons_zero, List.set_cons_succ, i64_w, i32_w]
      rfl
    refine take_ (i := 10) (N := (some 15)) (v := ?_) (a' := ?_) #[true, true, true, true, true, true, true, true, true, true, true, false, false, false, false, false, false, false, false, false, false, false, false, false] rfl rfl (by kernel_rfl) (fun _ _ _ h => h) (Or.inl ⟨by rfl, ?_⟩) hHeld ?_ ?_
    rotate_left
    · rintro w' ⟨z, rfl⟩
      go_simp
      try with_reducible rfl
    rotate_left
    · simp only [Act.put, List.setIfInBounds_toArray, List.set_cons_zero, List.set_cons_succ, i64_w, i32_w]
      rfl
    refine take_ (i := 11) (N := (some 16)) (v := ?_) (a' := ?_) #[true, true, true, true, true, true, true, true, true, true, true, true, false, false, false, false, false, false, false, false, false, false, false, false] rfl rfl (by kernel_rfl) (fun _ _ _ h => h) (Or.inl ⟨by rfl, ?_⟩) hHeld ?_ ?_
    rotate_left
    · rintro w' ⟨z, rfl⟩
      go_simp
      try with_reducible rfl
    rotate_left
    · simp only [Act.put, List.setIfInBounds_toArray, List.set_cons_zero, List.set_cons_succ, i64_w, i32_w]
      rfl
    refine take_ (i := 12) (N := (some 17)) (v := ?_) (a' := ?_) #[true, true, true, true, true, true, true, true, true, true, true, true, true, false, false, false, false, false, false, false, false, false, false, false] rfl rfl (by kernel_rfl) (fun _ _ _ h => h) (Or.inl ⟨by rfl, ?_⟩) hHeld ?_ ?_
    rotate_left
    · rintro w' ⟨z, rfl⟩
      go_simp
      try with_reducible rfl
    rotate_left
    · simp only [Act.put, List.setIfInBounds_toArray, List.set_cons_zero, List.set_cons_succ, i64_w, i32_w]
      rfl
    refine take_ (i := 13) (N := (some 18)) (v := ?_) (a' := ?_) #[true, true, true, true, true, true, true, true, true, true, true, true, true, true, false, false, false, false, false, false, false, false, false, false] rfl rfl (by kernel_rfl) (fun _ _ _ h => h) (Or.inl ⟨by rfl, ?_⟩) hHeld ?_ ?_
    rotate_left
    · rintro w' ⟨z, rfl⟩
      go_simp
      try with_reducible rfl
    rotate_left
    · simp only [Act.put, List.setIfInBounds_toArray, List.set_cons_zero, List.set_cons_succ, i64_w, i32_w]
      rfl
    refine take_ (i := 14) (N := (some 19)) (v := ?_) (a' := ?_) #[true, true, true, true, true, true, true, true, true, true, true, true, true, true, true, false, false, false, false, false, false, false, false, false] rfl rfl (by kernel_rfl) (fun _ _ _ h => h) (Or.inl ⟨by rfl, ?_⟩) hHeld ?_ ?_
    rotate_left
    · rintro w' ⟨z, rfl⟩
      go_simp
      try with_reducible rfl
    rotate_left
    · simp only [Act.put, List.setIfInBounds_toArray, List.set_cons_zero, List.set_cons_succ, i64_w, i32_w]
      rfl
    refine take_ (i := 15) (N := (some 20)) (v := ?_) (a' := ?_) #[true, true, true, true, true, true, true, true, true, true, true, true, true, true, true, true, false, false, false, false, false, false, false, false] rfl rfl (by kernel_rfl) (fun _ _ _ h => h) (Or.inl ⟨by rfl, ?_⟩) hHeld ?_ ?_
    rotate_left
    · rintro w' ⟨z, rfl⟩
      go_simp
      try with_reducible rfl
    rotate_left
    · simp only [Act.put, List.setIfInBounds_toArray, List.set_cons_zero, List.set_cons_succ, i64_w, i32_w]
      rfl
    refine take_ (i := 16) (N := (some 21)) (v := ?_) (a' := ?_) #[true, true, true, true, true, true, true, true, true, true, true, true, true, true, true, true, true, false, false, false, false, false, false, false] rfl rfl (by kernel_rfl) (fun _ _ _ h => h) (Or.inl ⟨by rfl, ?_⟩) hHeld ?_ ?_
    rotate_left
    · rintro w' ⟨z, rfl⟩
      go_simp
      try with_reducible rfl
    rotate_left
    · simp only [Act.put, List.setIfInBounds_toArray, List.set_cons_zero, List.set_cons_succ, i64_w, i32_w]
      rfl
    refine take_ (i := 18) (N := (some 23)) (v := ?_) (a' := ?_) #[true, true, true, true, true, true, true, true, true, true, true, true, true, true, true, true, true, false, true, false, false, false, false, false] rfl rfl (by kernel_rfl) (fun _ _ _ h => h) (Or.inl ⟨by rfl, ?_⟩) hHeld ?_ ?_
    rotate_left
    · rintro w' ⟨z, rfl⟩
      go_simp
      try with_reducible rfl
    rotate_left
    · simp only [Act.put, List.setIfInBounds_toArray, List.set_cons_zero, List.set_cons_succ, i64_w, i32_w]
      rfl
    refine take_ (i := 19) (N := (some 24)) (v := ?_) (a' := ?_) #[true, true, true, true, true, true, true, true, true, true, true, true, true, true, true, true, true, false, true, true, false, false, false, false] rfl rfl (by kernel_rfl) (fun _ _ _ h => h) (Or.inl ⟨by rfl, ?_⟩) hHeld ?_ ?_
    rotate_left
    · rintro w' ⟨z, rfl⟩
      go_simp
      try with_reducible rfl
    rotate_left
    · simp only [Act.put, List.setIfInBounds_toArray, List.set_cons_zero, List.set_cons_succ, i64_w, i32_w]
      rfl
    refine take_ (i := 20) (N := (some 25)) (v := ?_) (a' := ?_) #[true, true, true, true, true, true, true, true, true, true, true, true, true, true, true, true, true, false, true, true, true, false, false, false] rfl rfl (by kernel_rfl) (fun _ _ _ h => h) (Or.inl ⟨by rfl, ?_⟩) hHeld ?_ ?_
    rotate_left
    · rintro w' ⟨z, rfl⟩
      go_simp
      try with_reducible rfl
    rotate_left
    · simp only [Act.put, List.setIfInBounds_toArray, List.set_cons_zero, List.set_cons_succ, i64_w, i32_w]
      rfl
    refine one_ (i := 17) (N := (some 22)) #[true, true, true, true, true, true, true, true, true, true, true, true, true, true, true, true, true, true, true, true, true, false, false, false] rfl rfl (by kernel_rfl) (by decide) (fun K hK => ?_)
    refine goes_ Tryz.func58 (by kernel_rfl) rfl #[.slice m.c.eA m.c.eN m.c.eC, .string s.c.path] (by rfl) rfl rfl (by (try simp only [List.map_toArray, List.map_cons, List.map_nil]); first | done | rfl) ?_
    refine (ppart_calls m.c.eA m.c.eC m.c.eN m.c.ents s.c.path _ (Kd.C_below HM.out.1.ents.2.2 (below_step HB0.out HW2)) HM.out.1.ents.2.1 HLM.out.2.2.1 HLS.out.2.2.2.2).mono ?_
    rintro e3 w3 ⟨v, rfl, hR, hB⟩
    obtain ⟨Ap, cp, rfl, hcp, hCp⟩ := Kd.R_reads hR
    have HW3 : Below W0.heap.size W0 w3 := below_step HW2 hB
    clear hB hR
    refine ⟨_, rfl, ?_⟩
    refine hK.out _ _ ⟨⟨_, HW3⟩, rfl⟩ (fun hHeld => ?_)
    clear hK K
    refine norm_ (a' := ?_) ?_ ?_
    rotate_left
    · show Act.put _ (some 22) _ = _
      simp only [Act.put, List.setIfInBounds_toArray, List.set_cons_zero, List.set_cons_succ, i64_w, i32_w]
      rfl
    refine one_ (i := 21) (N := (some 26)) #[true, true, true, true, true, true, true, true, true, true, true, true, true, true, true, true, true, true, true, true, true, true, false, false] rfl rfl (by kernel_rfl) (by decide) (fun K hK => ?_)
    refine goes_ Tryz.func57 (by kernel_rfl) rfl #[.slice Ap (partP m.c.ents s.c.path).length cp, .slice s.r.fA s.r.fN s.r.fC] (by rfl) rfl rfl (by (try simp only [List.map_toArray, List.map_cons, List.map_nil]); first | done | rfl) ?_
    refine (eequal2 Ap cp (partP m.c.ents s.c.path).length (partP m.c.ents s.c.path) s.r.fA s.r.fC s.r.fN s.r.rents _ rfl HR.out.2.ents.2.1 hCp (Kd.C_below HR.out.2.ents.2.2 (below_step HB0.out HW3)) (Nat.le_trans (partP_len _ _) (by rw [HM.out.1.ents.2.1]; exact HLM.out.2.2.1.1)) HLS.out.2.2.2.1).mono ?_
    rintro e4 w4 ⟨rfl, hB⟩
    have HW4 : Below W0.heap.size W0 w4 := below_step HW3 hB
    clear hB
    obtain ⟨te, hte⟩ : ∃ te, te = eqE (partP m.c.ents s.c.path) s.r.rents := ⟨_, rfl⟩
    rw [← hte]
    have HTE := Aside0.mk hte
    clear hte
    refine ⟨_, rfl, ?_⟩
    refine hK.out _ _ ⟨⟨_, HW4⟩, rfl⟩ (fun hHeld => ?_)
    clear hK K
    refine norm_ (a' := ?_) ?_ ?_
    rotate_left
    · show Act.put _ (some 26) _ = _
      simp only [Act.put, List.setIfInBounds_toArray, List.set_cons_zero, List.set_cons_succ, i64_w, i32_w]
      rfl
    refine take_ (i := 22) (N := (some 27)) (v := ?_) (a' := ?_) #[true, true, true, true, true, true, true, true, true, true, true, true, true, true, true, true, true, true, true, true, true, true, true, false] rfl rfl (by kernel_rfl) (fun _ _ _ h => h) (Or.inl ⟨by rfl, ?_⟩) hHeld ?_ ?_
    rotate_left
    · rintro w' ⟨z, rfl⟩
      go_simp
      try with_reducible rfl
    rotate_left
    · simp only [Act.put, List.setIfInBounds_toArray, List.set_cons_zero, List.set_cons_succ, i64_w, i32_w]
      rfl
    refine take_ (i := 23) (N := (some 4)) (v := ?_) (a' := ?_) #[true, true, true, true, true, true, true, true, true, true, true, true, true, true, true, true, true, true, true, true, true, true, true, true] rfl rfl (by kernel_rfl) (fun _ _ _ h => h) (Or.inl ⟨by rfl, ?_⟩) hHeld ?_ ?_
    rotate_left
    · rintro w' ⟨z, rfl⟩
      go_simp
      try with_reducible rfl
    rotate_left
    · simp only [Act.put, List.setIfInBounds_toArray, List.set_cons_zero, List.set_cons_succ, i64_w, i32_w]
      rfl
    refine done_ (by kernel_rfl) ?_
    have HWZ := Aside0.mk (below_step HB0.out HW4)
    have HN : Aside0 (rq l s m = te) := ⟨by unfold rq; rw [h5, HTE.out]; rfl⟩
    clear hHeld HCH HCM HCC y1 x6 x15 x17 x18 hCp HW4 HW3 HW2 HW1
    cases te with
    | false =>
      go_wp2_with (fail)
      go_ret
      exact ⟨by rw [HN.out]; rfl, HWZ.out⟩
    | true =>
      go_wp2_with (fail)
      go_ret
      exact ⟨by rw [HN.out]; rfl, HWZ.out⟩
set_option maxHeartbeats 8000000 in
set_option maxRecDepth 100000 in
theorem prestored_calls (A : Option Addr) (c : Nat) (n : Int) (l : List Sp) (s : Sp) (w : World) (h : CS w A l) (hl : l.length ≤ 10000) (hs : ∀ s ∈ l, LenS s) (hr : RdS w s) (hls : LenS s) :
    Calls Tryz.prog 33 #[.agg #[.slice A l.length c, .int .i64 n], aggS s] w fun e' w' => e' = .returned (.bool (!(restoredP l s))) ∧ Below w.heap.size w w' := by
  have HC := Aside0.mk h
  have HL := Aside0.mk hs
  have HR := Aside0.mk hr
  have HLS := Aside0.mk hls
  have HB0 : Aside0 (Below w.heap.size w ((w.alloc (.cells #[.slice A l.length c, .int .i64 n] 47)).alloc (.cells #[.int .i64 s.c.kind, .slice s.c.eA s.c.eN s.c.eC, .int .i64 s.c.time, .string s.c.host, .string s.c.parent, .slice s.c.iA s.c.iN s.c.iC, .string s.c.path, .slice s.c.uA s.c.uN s.c.uC, .int .i64 s.c.percent, .bool s.c.rd, .int .i64 s.r.code, .string s.r.id, .int .i64 s.r.n, .slice s.r.jA s.r.jN s.r.jC, .slice s.r.tA s.r.tN s.r.tC, .slice s.r.fA s.r.fN s.r.fC, .slice s.r.sA s.r.sN s.r.sC, .int .i64 s.b, .int .i64 s.e, .bool s.op] 51))) := ⟨below_alloc (below_alloc (Below.refl _ _) _) _⟩
  have K0H : Aside0 (HistAt ((w.alloc (.cells #[.slice A l.length c, .int .i64 n] 47)).alloc (.cells #[.int .i64 s.c.kind, .slice s.c.eA s.c.eN s.c.eC, .int .i64 s.c.time, .string s.c.host, .string s.c.parent, .slice s.c.iA s.c.iN s.c.iC, .string s.c.path, .slice s.c.uA s.c.uN s.c.uC, .int .i64 s.c.percent, .bool s.c.rd, .int .i64 s.r.code, .string s.r.id, .int .i64 s.r.n, .slice s.r.jA s.r.jN s.r.jC, .slice s.r.tA s.r.tN s.r.tC, .slice s.r.fA s.r.fN s.r.fC, .slice s.r.sA s.r.sN s.r.sC, .int .i64 s.b, .int .i64 s.e, .bool s.op] 51)) w.heap.size A c l n) := ⟨blk_old (blk_new rfl)⟩
  have K0S : Aside0 (((w.alloc (.cells #[.slice A l.length c, .int .i64 n] 47)).alloc (.cells #[.int .i64 s.c.kind, .slice s.c.eA s.c.eN s.c.eC, .int .i64 s.c.time, .string s.c.host, .string s.c.parent, .slice s.c.iA s.c.iN s.c.iC, .string s.c.path, .slice s.c.uA s.c.uN s.c.uC, .int .i64 s.c.percent, .bool s.c.rd, .int .i64 s.r.code, .string s.r.id, .int .i64 s.r.n, .slice s.r.jA s.r.jN s.r.jC, .slice s.r.tA s.r.tN s.r.tC, .slice s.r.fA s.r.fN s.r.fC, .slice s.r.sA s.r.sN s.r.sC, .int .i64 s.b, .int .i64 s.e, .bool s.op] 51)).heap[w.heap.size + 1]? = some (.cells (encS s).toArray 51 (0, 0))) := ⟨blk_new (by simp)⟩
  clear h hs hr hls
  go_enter Tryz.func33, Tryz.ntmps33
  go_upto_region 1 with (fail)
  generalize ((w.alloc (.cells #[.slice A l.length c, .int .i64 n] 47)).alloc (.cells #[.int .i64 s.c.kind, .slice s.c.eA s.c.eN s.c.eC, .int .i64 s.c.time, .string s.c.host, .string s.c.parent, .slice s.c.iA s.c.iN s.c.iC, .string s.c.path, .slice s.c.uA s.c.uN s.c.uC, .int .i64 s.c.percent, .bool s.c.rd, .int .i64 s.r.code, .string s.r.id, .int .i64 s.r.n, .slice s.r.jA s.r.jN s.r.jC, .slice s.r.tA s.r.tN s.r.tC, .slice s.r.fA s.r.fN s.r.fC, .slice s.r.sA s.r.sN s.r.sC, .int .i64 s.b, .int .i64 s.e, .bool s.op] 51)) = W0 at HB0 K0H K0S ⊢
  generalize w.heap.size + 1 = gs at K0S ⊢
  obtain ⟨g, hg⟩ : ∃ g, g = w.heap.size := ⟨_, rfl⟩
  rw [← hg] at K0H ⊢
  clear hg
  have z0 : W0.cell? ⟨g, 0, none⟩ = some (.slice A l.length c) := (blk_cell K0H.out 0).trans rfl
  have z1 : W0.cell? ⟨g, 1, none⟩ = some (.int .i64 n) := (blk_cell K0H.out 1).trans rfl
  have m6 : W0.cell? ⟨gs, 6, none⟩ = some (.string s.c.path) := (blk_cell K0S.out 6).trans rfl
  have m15 : W0.cell? ⟨gs, 15, none⟩ = some (.slice s.r.fA s.r.fN s.r.fC) := (blk_cell K0S.out 15).trans rfl
  cases h1 : neP s.c.path with
  | false =>
    have q1 : (s.c.path.toList == ([] : List UInt8)) = true := by unfold neP at h1; simpa using h1
    have e0 : (neP s.c.path && s.r.fN == 0) = false := by rw [h1]; rfl
    have HE0 := Aside0.mk e0
    clear e0
    go_wp2_with (fail)
    refine (any_calls A c n l 54 #[.pointer (some ⟨g, 0, none⟩), .pointer (some ⟨gs, 0, none⟩)] (rq l s) _ (HC.out.below HB0.out) hl ⟨enters_of Tryz.func54 (by kernel_rfl) rfl, fun w3 hw r hr => q54_calls A c n l s r g gs w3 ((HC.out.below HB0.out).below hw) hl HL.out (((HC.out.below HB0.out).below hw).2 r hr) (HL.out r hr) (HR.out.below (below_step HB0.out hw)) HLS.out (blk_below K0H.out hw) (blk_below K0S.out hw)⟩).mono ?_
    rintro e4 w4 ⟨rfl, hB⟩
    have HB4 := Aside0.mk (below_step HB0.out hB)
    clear hB HB0 K0H K0S z0 z1 m6 m15
    go_wp2_with (fail)
    go_ret
    exact ⟨by rw [restoredP_rq, HE0.out, Bool.false_or, Bool.not_not]; rfl, HB4.out⟩
  | true =>
    have q1 : (s.c.path.toList == ([] : List UInt8)) = false := by unfold neP at h1; simpa using h1
    by_cases h2 : s.r.fN = 0
    · have e1 : ((s.r.fN : Int) == 0) = true := beq_iff_eq.2 (by omega)
      have HE0 : Aside0 ((neP s.c.path && s.r.fN == 0) = true) := ⟨by rw [h1, beq_iff_eq.2 h2]; rfl⟩
      clear h2
      go_wp2_with (fail)
      go_ret
      exact ⟨by rw [restoredP_rq, HE0.out]; rfl, HB0.out⟩
    · have e1 : ((s.r.fN : Int) == 0) = false := beq_eq_false_iff_ne.2 (by omega)
      have HE0 : Aside0 ((neP s.c.path && s.r.fN == 0) = false) := ⟨by rw [h1, beq_eq_false_iff_ne.2 h2]; rfl⟩
      clear h2
      go_wp2_with (fail)
      refine (any_calls A c n l 54 #[.pointer (some ⟨g, 0, none⟩), .pointer (some ⟨gs, 0, none⟩)] (rq l s) _ (HC.out.below HB0.out) hl ⟨enters_of Tryz.func54 (by kernel_rfl) rfl, fun w3 hw r hr => q54_calls A c n l s r g gs w3 ((HC.out.below HB0.out).below hw) hl HL.out (((HC.out.below HB0.out).below hw).2 r hr) (HL.out r hr) (HR.out.below (below_step HB0.out hw)) HLS.out (blk_below K0H.out hw) (blk_below K0S.out hw)⟩).mono ?_
      rintro e4 w4 ⟨rfl, hB⟩
      have HB4 := Aside0.mk (below_step HB0.out hB)
      clear hB HB0 K0H K0S z0 z1 m6 m15
      go_wp2_with (fail)
      go_ret
      exact ⟨by rw [restoredP_rq, HE0.out, Bool.false_or, Bool.not_not]; rfl, HB4.out⟩
end Go.Proofs.YtkicenkljjpcfaaGreatDoor.Q
/- The program's missed, and its closure. -/
set_option linter.unusedSimpArgs false
namespace Go.Proofs.YtkicenkljjpcfaaGreatDoor.Q
open Go.RowKit Go.Shelf Go.Proofs.YtkicenkljjpcfaaGreatDoorW.PrintWords Go.Proofs.YtkicenkljjpcfaaGreatDoorW.PrintLast Go.Proofs.YtkicenkljjpcfaaGreatDoorW.PrintMore
set_option maxHeartbeats 8000000 in
set_option maxRecDepth 100000 in
theorem q59_calls (s m : Sp) (gx gs : Nat) (w : World) (hm : RdS w m) (hlm : LenS m) (hls : LenS s) (hx : w.cell? ⟨gx, 0, none⟩ = some (.string (idP s.c))) (hg : w.heap[gs]? = some (.cells (encS s).toArray 51 (0, 0))) :
    Calls Tryz.prog 59 #[aggS m, .pointer (some ⟨gx, 0, none⟩), .pointer (some ⟨gs, 0, none⟩)] w fun e' w' => e' = .returned (.bool (mq s m)) ∧ Below w.heap.size w w' := by
  have HM := Aside0.mk hm
  have HLM := Aside0.mk hlm
  have HLS := Aside0.mk hls
  have HX := Aside0.mk hx
  have HG := Aside0.mk hg
  clear hm hlm hls hx hg
  have HB0 : Aside0 (Below w.heap.size w (w.alloc (.cells #[.int .i64 m.c.kind, .slice m.c.eA m.c.eN m.c.eC, .int .i64 m.c.time, .string m.c.host, .string m.c.parent, .slice m.c.iA m.c.iN m.c.iC, .string m.c.path, .slice m.c.uA m.c.uN m.c.uC, .int .i64 m.c.percent, .bool m.c.rd, .int .i64 m.r.code, .string m.r.id, .int .i64 m.r.n, .slice m.r.jA m.r.jN m.r.jC, .slice m.r.tA m.r.tN m.r.tC, .slice m.r.fA m.r.fN m.r.fC, .slice m.r.sA m.r.sN m.r.sC, .int .i64 m.b, .int .i64 m.e, .bool m.op] 51))) := ⟨below_alloc (Below.refl _ _) _⟩
  have HK0 : Aside0 ((w.alloc (.cells #[.int .i64 m.c.kind, .slice m.c.eA m.c.eN m.c.eC, .int .i64 m.c.time, .string m.c.host, .string m.c.parent, .slice m.c.iA m.c.iN m.c.iC, .string m.c.path, .slice m.c.uA m.c.uN m.c.uC, .int .i64 m.c.percent, .bool m.c.rd, .int .i64 m.r.code, .string m.r.id, .int .i64 m.r.n, .slice m.r.jA m.r.jN m.r.jC, .slice m.r.tA m.r.tN m.r.tC, .slice m.r.fA m.r.fN m.r.fC, .slice m.r.sA m.r.sN m.r.sC, .int .i64 m.b, .int .i64 m.e, .bool m.op] 51)).heap[w.heap.size]? = some (.cells (encS m).toArray 51 (0, 0))) := ⟨(MapKept.heap_alloc w _).1⟩
  go_enter Tryz.func59, Tryz.ntmps59
  go_upto_region 1 with (fail)
  generalize (w.alloc (.cells #[.int .i64 m.c.kind, .slice m.c.eA m.c.eN m.c.eC, .int .i64 m.c.time, .string m.c.host, .string m.c.parent, .slice m.c.iA m.c.iN m.c.iC, .string m.c.path, .slice m.c.uA m.c.uN m.c.uC, .int .i64 m.c.percent, .bool m.c.rd, .int .i64 m.r.code, .string m.r.id, .int .i64 m.r.n, .slice m.r.jA m.r.jN m.r.jC, .slice m.r.tA m.r.tN m.r.tC, .slice m.r.fA m.r.fN m.r.fC, .slice m.r.sA m.r.sN m.r.sC, .int .i64 m.b, .int .i64 m.e, .bool m.op] 51)) = W0 at HB0 HK0 ⊢
  obtain ⟨g, hg⟩ : ∃ g, g = w.heap.size := ⟨_, rfl⟩
  rw [← hg] at HK0 ⊢
  clear hg
  have x0 := pw_cell_below HB0.out HX.out
  go_wp2_with (((with_reducible refine gate_dst (N := 5) rfl ?_); refine wpList_load_any (by rfl) 51 (.tmp 3) rfl ⟨g, 0, none⟩ rfl (encS m) _ (cells_blk HK0.out) Tryz.underlying51 rfl s51 ?_))
  refine (pmade_calls m (idP s.c) _).mono ?_
  rintro e2 w2 ⟨rfl, hB⟩
  have HB2 := Aside0.mk (below_step HB0.out hB)
  have HK2 := Aside0.mk (blk_below HK0.out hB)
  have HG2 := Aside0.mk (blk_below HG.out HB2.out)
  clear hB HB0 HK0 x0
  have k1 : w2.cell? ⟨g, 1, none⟩ = some (.slice m.c.eA m.c.eN m.c.eC) := (blk_cell HK2.out 1).trans rfl
  have x6 : w2.cell? ⟨gs, 6, none⟩ = some (.string s.c.path) := (blk_cell HG2.out 6).trans rfl
  cases h1 : madeP m (idP s.c) with
  | false =>
    have HN := Aside0.mk (mq_no h1)
    go_wp2_with (fail)
    go_ret
    exact ⟨by rw [HN.out]; rfl, HB2.out⟩
  | true =>
    cases h2 : neP s.c.path with
    | false =>
      have q1 : (s.c.path.toList == ([] : List UInt8)) = true := by unfold neP at h2; simpa using h2
      have HN := Aside0.mk (mq_empty h1 h2)
      go_wp2_with (fail)
      go_ret
      exact ⟨by rw [HN.out]; rfl, HB2.out⟩
    | true =>
      have q1 : (s.c.path.toList == ([] : List UInt8)) = false := by unfold neP at h2; simpa using h2
      have HN := Aside0.mk (mq_part h1 h2)
      go_wp2_with (fail)
      refine (ppart_calls m.c.eA m.c.eC m.c.eN m.c.ents s.c.path _ (Kd.C_below HM.out.1.ents.2.2 HB2.out) HM.out.1.ents.2.1 HLM.out.2.2.1 HLS.out.2.2.2.2).mono ?_
      rintro e3 w3 ⟨v, rfl, hR, hB⟩
      obtain ⟨Ap, cp, rfl, hcp, hCp⟩ := Kd.R_reads hR
      have HB3 := Aside0.mk (below_step HB2.out hB)
      clear hB hR hCp HB2 HK2 HG2 k1 x6
      generalize (partP m.c.ents s.c.path).length = t at HN hcp ⊢
      by_cases h3 : 0 < t
      · have HN2 : Aside0 (mq s m = true) := ⟨by rw [HN.out, decide_eq_true h3]⟩
        have d3 : decide ((0 : Int) < (t : Int)) = true := decide_eq_true (by omega)
        go_wp2_with (fail)
        go_ret
        exact ⟨by rw [HN2.out]; rfl, HB3.out⟩
      · have HN2 : Aside0 (mq s m = false) := ⟨by rw [HN.out, decide_eq_false h3]⟩
        obtain rfl : t = 0 := by omega
        go_wp2_with (fail)
        go_ret
        exact ⟨by rw [HN2.out]; rfl, HB3.out⟩
set_option maxHeartbeats 8000000 in
set_option maxRecDepth 100000 in
theorem pmissed_calls (A : Option Addr) (c : Nat) (n : Int) (l : List Sp) (s : Sp) (w : World) (h : CS w A l) (hl : l.length ≤ 10000) (hs : ∀ s ∈ l, LenS s) (hr : RdS w s) (hls : LenS s) :
    Calls Tryz.prog 34 #[.agg #[.slice A l.length c, .int .i64 n], aggS s] w fun e' w' => e' = .returned (.bool (!(missedP l s))) ∧ Below w.heap.size w w' := by
  have HC := Aside0.mk h
  have HL := Aside0.mk hs
  have HR := Aside0.mk hr
  have HLS := Aside0.mk hls
  have HB0 : Aside0 (Below w.heap.size w ((w.alloc (.cells #[.slice A l.length c, .int .i64 n] 47)).alloc (.cells #[.int .i64 s.c.kind, .slice s.c.eA s.c.eN s.c.eC, .int .i64 s.c.time, .string s.c.host, .string s.c.parent, .slice s.c.iA s.c.iN s.c.iC, .string s.c.path, .slice s.c.uA s.c.uN s.c.uC, .int .i64 s.c.percent, .bool s.c.rd, .int .i64 s.r.code, .string s.r.id, .int .i64 s.r.n, .slice s.r.jA s.r.jN s.r.jC, .slice s.r.tA s.r.tN s.r.tC, .slice s.r.fA s.r.fN s.r.fC, .slice s.r.sA s.r.sN s.r.sC, .int .i64 s.b, .int .i64 s.e, .bool s.op] 51))) := ⟨below_alloc (below_alloc (Below.refl _ _) _) _⟩
  have K0H : Aside0 (HistAt ((w.alloc (.cells #[.slice A l.length c, .int .i64 n] 47)).alloc (.cells #[.int .i64 s.c.kind, .slice s.c.eA s.c.eN s.c.eC, .int .i64 s.c.time, .string s.c.host, .string s.c.parent, .slice s.c.iA s.c.iN s.c.iC, .string s.c.path, .slice s.c.uA s.c.uN s.c.uC, .int .i64 s.c.percent, .bool s.c.rd, .int .i64 s.r.code, .string s.r.id, .int .i64 s.r.n, .slice s.r.jA s.r.jN s.r.jC, .slice s.r.tA s.r.tN s.r.tC, .slice s.r.fA s.r.fN s.r.fC, .slice s.r.sA s.r.sN s.r.sC, .int .i64 s.b, .int .i64 s.e, .bool s.op] 51)) w.heap.size A c l n) := ⟨blk_old (blk_new rfl)⟩
  have K0S : Aside0 (((w.alloc (.cells #[.slice A l.length c, .int .i64 n] 47)).alloc (.cells #[.int .i64 s.c.kind, .slice s.c.eA s.c.eN s.c.eC, .int .i64 s.c.time, .string s.c.host, .string s.c.parent, .slice s.c.iA s.c.iN s.c.iC, .string s.c.path, .slice s.c.uA s.c.uN s.c.uC, .int .i64 s.c.percent, .bool s.c.rd, .int .i64 s.r.code, .string s.r.id, .int .i64 s.r.n, .slice s.r.jA s.r.jN s.r.jC, .slice s.r.tA s.r.tN s.r.tC, .slice s.r.fA s.r.fN s.r.fC, .slice s.r.sA s.r.sN s.r.sC, .int .i64 s.b, .int .i64 s.e, .bool s.op] 51)).heap[w.heap.size + 1]? = some (.cells (encS s).toArray 51 (0, 0))) := ⟨blk_new (by simp)⟩
  clear h hs hr hls
  go_enter Tryz.func34, Tryz.ntmps34
  go_upto_region 1 with (fail)
  generalize ((w.alloc (.cells #[.slice A l.length c, .int .i64 n] 47)).alloc (.cells #[.int .i64 s.c.kind, .slice s.c.eA s.c.eN s.c.eC, .int .i64 s.c.time, .string s.c.host, .string s.c.parent, .slice s.c.iA s.c.iN s.c.iC, .string s.c.path, .slice s.c.uA s.c.uN s.c.uC, .int .i64 s.c.percent, .bool s.c.rd, .int .i64 s.r.code, .string s.r.id, .int .i64 s.r.n, .slice s.r.jA s.r.jN s.r.jC, .slice s.r.tA s.r.tN s.r.tC, .slice s.r.fA s.r.fN s.r.fC, .slice s.r.sA s.r.sN s.r.sC, .int .i64 s.b, .int .i64 s.e, .bool s.op] 51)) = W0 at HB0 K0H K0S ⊢
  generalize w.heap.size + 1 = gs at K0S ⊢
  obtain ⟨g, hg⟩ : ∃ g, g = w.heap.size := ⟨_, rfl⟩
  rw [← hg] at K0H ⊢
  clear hg
  have z0 : W0.cell? ⟨g, 0, none⟩ = some (.slice A l.length c) := (blk_cell K0H.out 0).trans rfl
  have z1 : W0.cell? ⟨g, 1, none⟩ = some (.int .i64 n) := (blk_cell K0H.out 1).trans rfl
  go_wp2_with (((with_reducible refine gate_dst (N := 7) rfl ?_); refine wpList_load_any (by rfl) 28 (.tmp 6) rfl ⟨gs, 0, none⟩ rfl (encC s.c) _ (fun j v hv => cells_blk K0S.out j v (prefix_get hv)) Tryz.underlying28 rfl s28 ?_))
  refine (pid_calls s.c _ (HR.out.1.below HB0.out)).mono ?_
  rintro e1 w1 ⟨rfl, hB⟩
  have HB1 := Aside0.mk (below_step HB0.out hB)
  have K1H := Aside0.mk (blk_below K0H.out hB)
  have K1S := Aside0.mk (blk_below K0S.out hB)
  clear hB HB0 K0H K0S z0 z1
  have HB2 : Aside0 (Below w.heap.size w (w1.alloc (.cells #[.string (idP s.c)] 9))) := ⟨below_alloc HB1.out _⟩
  have K2H : Aside0 (HistAt (w1.alloc (.cells #[.string (idP s.c)] 9)) g A c l n) := ⟨blk_old K1H.out⟩
  have K2S : Aside0 ((w1.alloc (.cells #[.string (idP s.c)] 9)).heap[gs]? = some (.cells (encS s).toArray 51 (0, 0))) := ⟨blk_old K1S.out⟩
  have K2X : Aside0 ((w1.alloc (.cells #[.string (idP s.c)] 9)).heap[w1.heap.size]? = some (.cells #[.string (idP s.c)] 9 (0, 0))) := ⟨blk_new rfl⟩
  go_upto_region 2 with (fail)
  generalize (w1.alloc (.cells #[.string (idP s.c)] 9)) = W2 at HB2 K2H K2S K2X ⊢
  generalize w1.heap.size = gx at K2X ⊢
  clear HB1 K1H K1S
  have z0 : W2.cell? ⟨g, 0, none⟩ = some (.slice A l.length c) := (blk_cell K2H.out 0).trans rfl
  have z1 : W2.cell? ⟨g, 1, none⟩ = some (.int .i64 n) := (blk_cell K2H.out 1).trans rfl
  have x0 := cell_one K2X.out
  have x17 : W2.cell? ⟨gs, 17, none⟩ = some (.int .i64 s.b) := (blk_cell K2S.out 17).trans rfl
  have x18 : W2.cell? ⟨gs, 18, none⟩ = some (.int .i64 s.e) := (blk_cell K2S.out 18).trans rfl
  go_wp2_with (fail)
  refine (psure_calls A c n l (idP s.c) s.b s.e _ (HC.out.below HB2.out) hl HL.out).mono ?_
  rintro e3 w3 ⟨rfl, hB⟩
  have HB3 := Aside0.mk (below_step HB2.out hB)
  have K3H := Aside0.mk (blk_below K2H.out hB)
  have K3S := Aside0.mk (blk_below K2S.out hB)
  have K3X := Aside0.mk (blk_below K2X.out hB)
  clear hB HB2 K2H K2S K2X z0 z1 x0 x17 x18
  cases h1 : sureP l (idP s.c) s.b s.e with
  | false =>
    go_wp2_with (fail)
    go_ret
    exact ⟨by rw [missedP_mq, h1]; rfl, HB3.out⟩
  | true =>
    have z0 : w3.cell? ⟨g, 0, none⟩ = some (.slice A l.length c) := (blk_cell K3H.out 0).trans rfl
    have z1 : w3.cell? ⟨g, 1, none⟩ = some (.int .i64 n) := (blk_cell K3H.out 1).trans rfl
    go_wp2_with (fail)
    refine (any_calls A c n l 59 #[.pointer (some ⟨gx, 0, none⟩), .pointer (some ⟨gs, 0, none⟩)] (mq s) _ (HC.out.below HB3.out) hl ⟨enters_of Tryz.func59 (by kernel_rfl) rfl, fun w4 hw r hr => q59_calls s r gx gs w4 (((HC.out.below HB3.out).below hw).2 r hr) (HL.out r hr) HLS.out (pw_cell_below hw (cell_one K3X.out)) (blk_below K3S.out hw)⟩).mono ?_
    rintro e4 w4 ⟨rfl, hB⟩
    have HB4 := Aside0.mk (below_step HB3.out hB)
    clear hB HB3 K3H K3S K3X z0 z1
    cases h2 : l.any (mq s) with
    | false =>
      go_wp2_with (fail)
      go_ret
      exact ⟨by rw [missedP_mq, h1, h2]; rfl, HB4.out⟩
    | true =>
      go_wp2_with (fail)
      go_ret
      exact ⟨by rw [missedP_mq, h1, h2]; rfl, HB4.out⟩
end Go.Proofs.YtkicenkljjpcfaaGreatDoor.Q
/- The program's listed, and its closures. -/
set_option linter.unusedSimpArgs false
namespace Go.Proofs.YtkicenkljjpcfaaGreatDoor.Q
open Go.RowKit Go.Shelf Go.Proofs.YtkicenkljjpcfaaGreatDoorW.PrintWords Go.Proofs.YtkicenkljjpcfaaGreatDoorW.PrintLast Go.Proofs.YtkicenkljjpcfaaGreatDoorW.PrintMore
theorem lq_makes {l : List Sp} {s m : Sp} : lq l s m = (makesP m && (sureP l m.r.id s.b s.e && !memT m.r.id s.r.rids)) := by
  have : eqT m.r.id m.r.id = true := by unfold eqT; simp
  unfold lq; rw [madeP_makes, this, Bool.and_true]
set_option maxHeartbeats 8000000 in
set_option maxRecDepth 100000 in
theorem q60_calls (A : Option Addr) (c : Nat) (n : Int) (l : List Sp) (s m : Sp) (gh gs : Nat) (w : World) (hC : CS w A l) (hl : l.length ≤ 10000) (hs : ∀ s ∈ l, LenS s) (hr : RdS w s) (hls : LenS s)
    (hh : HistAt w gh A c l n) (hg : w.heap[gs]? = some (.cells (encS s).toArray 51 (0, 0))) :
    Calls Tryz.prog 60 #[aggS m, .pointer (some ⟨gh, 0, none⟩), .pointer (some ⟨gs, 0, none⟩)] w fun e' w' => e' = .returned (.bool (lq l s m)) ∧ Below w.heap.size w w' := by
  have HC := Aside0.mk hC
  have HL := Aside0.mk hs
  have HR := Aside0.mk hr
  have HLS := Aside0.mk hls
  have HH := Aside0.mk hh
  have HG := Aside0.mk hg
  clear hC hs hr hls hh hg
  have HB0 : Aside0 (Below w.heap.size w (w.alloc (.cells #[.int .i64 m.c.kind, .slice m.c.eA m.c.eN m.c.eC, .int .i64 m.c.time, .string m.c.host, .string m.c.parent, .slice m.c.iA m.c.iN m.c.iC, .string m.c.path, .slice m.c.uA m.c.uN m.c.uC, .int .i64 m.c.percent, .bool m.c.rd, .int .i64 m.r.code, .string m.r.id, .int .i64 m.r.n, .slice m.r.jA m.r.jN m.r.jC, .slice m.r.tA m.r.tN m.r.tC, .slice m.r.fA m.r.fN m.r.fC, .slice m.r.sA m.r.sN m.r.sC, .int .i64 m.b, .int .i64 m.e, .bool m.op] 51))) := ⟨below_alloc (Below.refl _ _) _⟩
  have HK0 : Aside0 ((w.alloc (.cells #[.int .i64 m.c.kind, .slice m.c.eA m.c.eN m.c.eC, .int .i64 m.c.time, .string m.c.host, .string m.c.parent, .slice m.c.iA m.c.iN m.c.iC, .string m.c.path, .slice m.c.uA m.c.uN m.c.uC, .int .i64 m.c.percent, .bool m.c.rd, .int .i64 m.r.code, .string m.r.id, .int .i64 m.r.n, .slice m.r.jA m.r.jN m.r.jC, .slice m.r.tA m.r.tN m.r.tC, .slice m.r.fA m.r.fN m.r.fC, .slice m.r.sA m.r.sN m.r.sC, .int .i64 m.b, .int .i64 m.e, .bool m.op] 51)).heap[w.heap.size]? = some (.cells (encS m).toArray 51 (0, 0))) := ⟨(MapKept.heap_alloc w _).1⟩
  go_enter Tryz.func60, Tryz.ntmps60
  go_upto_region 1 with (fail)
  generalize (w.alloc (.cells #[.int .i64 m.c.kind, .slice m.c.eA m.c.eN m.c.eC, .int .i64 m.c.time, .string m.c.host, .string m.c.parent, .slice m.c.iA m.c.iN m.c.iC, .string m.c.path, .slice m.c.uA m.c.uN m.c.uC, .int .i64 m.c.percent, .bool m.c.rd, .int .i64 m.r.code, .string m.r.id, .int .i64 m.r.n, .slice m.r.jA m.r.jN m.r.jC, .slice m.r.tA m.r.tN m.r.tC, .slice m.r.fA m.r.fN m.r.fC, .slice m.r.sA m.r.sN m.r.sC, .int .i64 m.b, .int .i64 m.e, .bool m.op] 51)) = W0 at HB0 HK0 ⊢
  obtain ⟨g, hg⟩ : ∃ g, g = w.heap.size := ⟨_, rfl⟩
  rw [← hg] at HK0 ⊢
  clear hg
  go_wp2_with (((with_reducible refine gate_dst (N := 5) rfl ?_); refine wpList_load_any (by rfl) 51 (.tmp 3) rfl ⟨g, 0, none⟩ rfl (encS m) _ (cells_blk HK0.out) Tryz.underlying51 rfl s51 ?_))
  refine (makes_calls m _).mono ?_
  rintro e2 w2 ⟨rfl, hB⟩
  have HB2 := Aside0.mk (below_step HB0.out hB)
  have HK2 := Aside0.mk (blk_below HK0.out hB)
  have HG2 := Aside0.mk (blk_below HG.out HB2.out)
  have HH2 : Aside0 (w2.heap[gh]? = some (.cells #[.slice A l.length c, .int .i64 n] 47 (0, 0))) := ⟨blk_below HH.out HB2.out⟩
  clear hB HB0 HK0
  have k11 : w2.cell? ⟨g, 11, none⟩ = some (.string m.r.id) := (blk_cell HK2.out 11).trans rfl
  have x17 : w2.cell? ⟨gs, 17, none⟩ = some (.int .i64 s.b) := (blk_cell HG2.out 17).trans rfl
  have x18 : w2.cell? ⟨gs, 18, none⟩ = some (.int .i64 s.e) := (blk_cell HG2.out 18).trans rfl
  have z0 : w2.cell? ⟨gh, 0, none⟩ = some (.slice A l.length c) := (blk_cell HH2.out 0).trans rfl
  have z1 : w2.cell? ⟨gh, 1, none⟩ = some (.int .i64 n) := (blk_cell HH2.out 1).trans rfl
  cases h1 : makesP m with
  | false =>
    have HN : Aside0 (lq l s m = false) := ⟨by rw [lq_makes, h1]; rfl⟩
    go_wp2_with (fail)
    go_ret
    exact ⟨by rw [HN.out]; rfl, HB2.out⟩
  | true =>
    go_wp2_with (fail)
    refine (psure_calls A c n l m.r.id s.b s.e _ (HC.out.below HB2.out) hl HL.out).mono ?_
    rintro e3 w3 ⟨rfl, hB⟩
    have HB3 := Aside0.mk (below_step HB2.out hB)
    have HK3 := Aside0.mk (blk_below HK2.out hB)
    have HG3 := Aside0.mk (blk_below HG2.out hB)
    clear hB HB2 HK2 HG2 HH2 k11 x17 x18 z0 z1
    cases h2 : sureP l m.r.id s.b s.e with
    | false =>
      have HN : Aside0 (lq l s m = false) := ⟨by rw [lq_makes, h1, h2]; rfl⟩
      go_wp2_with (fail)
      go_ret
      exact ⟨by rw [HN.out]; rfl, HB3.out⟩
    | true =>
      have HN : Aside0 (lq l s m = !memT m.r.id s.r.rids) := ⟨by rw [lq_makes, h1, h2]; rfl⟩
      have k11 : w3.cell? ⟨g, 11, none⟩ = some (.string m.r.id) := (blk_cell HK3.out 11).trans rfl
      have x13 : w3.cell? ⟨gs, 13, none⟩ = some (.slice s.r.jA s.r.jN s.r.jC) := (blk_cell HG3.out 13).trans rfl
      go_wp2_with (fail)
      refine (mem_calls m.r.id s.r.rids s.r.jA s.r.jN s.r.jC _ (Kd.C_below HR.out.2.ids.2.2 HB3.out) HR.out.2.ids.2.1 HLS.out.1).mono ?_
      rintro e4 w4 ⟨rfl, rfl⟩
      generalize memT m.r.id s.r.rids = t at HN ⊢
      cases t with
      | false =>
        go_wp2_with (fail)
        go_ret
        exact ⟨by rw [HN.out]; rfl, HB3.out⟩
      | true =>
        go_wp2_with (fail)
        go_ret
        exact ⟨by rw [HN.out]; rfl, HB3.out⟩
set_option maxHeartbeats 8000000 in
set_option maxRecDepth 100000 in
theorem q64_calls (A : Option Addr) (c : Nat) (n : Int) (l : List Sp) (s m : Sp) (x : ByteArray) (gh gi gs : Nat) (w : World) (hC : CS w A l) (hl : l.length ≤ 10000) (hs : ∀ s ∈ l, LenS s)
    (hh : HistAt w gh A c l n) (hi : w.cell? ⟨gi, 0, none⟩ = some (.string x)) (hg : w.heap[gs]? = some (.cells (encS s).toArray 51 (0, 0))) :
    Calls Tryz.prog 64 #[aggS m, .pointer (some ⟨gh, 0, none⟩), .pointer (some ⟨gi, 0, none⟩), .pointer (some ⟨gs, 0, none⟩)] w fun e' w' => e' = .returned (.bool (sx l s x m)) ∧ Below w.heap.size w w' := by
  have HC := Aside0.mk hC
  have HL := Aside0.mk hs
  have HH := Aside0.mk hh
  have HG := Aside0.mk hg
  have HI := Aside0.mk hi
  clear hC hs hh hg hi
  have HB0 : Aside0 (Below w.heap.size w (w.alloc (.cells #[.int .i64 m.c.kind, .slice m.c.eA m.c.eN m.c.eC, .int .i64 m.c.time, .string m.c.host, .string m.c.parent, .slice m.c.iA m.c.iN m.c.iC, .string m.c.path, .slice m.c.uA m.c.uN m.c.uC, .int .i64 m.c.percent, .bool m.c.rd, .int .i64 m.r.code, .string m.r.id, .int .i64 m.r.n, .slice m.r.jA m.r.jN m.r.jC, .slice m.r.tA m.r.tN m.r.tC, .slice m.r.fA m.r.fN m.r.fC, .slice m.r.sA m.r.sN m.r.sC, .int .i64 m.b, .int .i64 m.e, .bool m.op] 51))) := ⟨below_alloc (Below.refl _ _) _⟩
  have HK0 : Aside0 ((w.alloc (.cells #[.int .i64 m.c.kind, .slice m.c.eA m.c.eN m.c.eC, .int .i64 m.c.time, .string m.c.host, .string m.c.parent, .slice m.c.iA m.c.iN m.c.iC, .string m.c.path, .slice m.c.uA m.c.uN m.c.uC, .int .i64 m.c.percent, .bool m.c.rd, .int .i64 m.r.code, .string m.r.id, .int .i64 m.r.n, .slice m.r.jA m.r.jN m.r.jC, .slice m.r.tA m.r.tN m.r.tC, .slice m.r.fA m.r.fN m.r.fC, .slice m.r.sA m.r.sN m.r.sC, .int .i64 m.b, .int .i64 m.e, .bool m.op] 51)).heap[w.heap.size]? = some (.cells (encS m).toArray 51 (0, 0))) := ⟨(MapKept.heap_alloc w _).1⟩
  go_enter Tryz.func64, Tryz.ntmps64
  go_upto_region 1 with (fail)
  generalize (w.alloc (.cells #[.int .i64 m.c.kind, .slice m.c.eA m.c.eN m.c.eC, .int .i64 m.c.time, .string m.c.host, .string m.c.parent, .slice m.c.iA m.c.iN m.c.iC, .string m.c.path, .slice m.c.uA m.c.uN m.c.uC, .int .i64 m.c.percent, .bool m.c.rd, .int .i64 m.r.code, .string m.r.id, .int .i64 m.r.n, .slice m.r.jA m.r.jN m.r.jC, .slice m.r.tA m.r.tN m.r.tC, .slice m.r.fA m.r.fN m.r.fC, .slice m.r.sA m.r.sN m.r.sC, .int .i64 m.b, .int .i64 m.e, .bool m.op] 51)) = W0 at HB0 HK0 ⊢
  obtain ⟨g, hg⟩ : ∃ g, g = w.heap.size := ⟨_, rfl⟩
  rw [← hg] at HK0 ⊢
  clear hg
  have HG2 := Aside0.mk (blk_below HG.out HB0.out)
  have HH2 : Aside0 (W0.heap[gh]? = some (.cells #[.slice A l.length c, .int .i64 n] 47 (0, 0))) := ⟨blk_below HH.out HB0.out⟩
  have i0 := pw_cell_below HB0.out HI.out
  have x17 : W0.cell? ⟨gs, 17, none⟩ = some (.int .i64 s.b) := (blk_cell HG2.out 17).trans rfl
  have x18 : W0.cell? ⟨gs, 18, none⟩ = some (.int .i64 s.e) := (blk_cell HG2.out 18).trans rfl
  have z0 : W0.cell? ⟨gh, 0, none⟩ = some (.slice A l.length c) := (blk_cell HH2.out 0).trans rfl
  have z1 : W0.cell? ⟨gh, 1, none⟩ = some (.int .i64 n) := (blk_cell HH2.out 1).trans rfl
  go_wp2_with (((with_reducible refine gate_dst (N := 7) rfl ?_); refine wpList_load_any (by rfl) 51 (.tmp 4) rfl ⟨g, 0, none⟩ rfl (encS m) _ (cells_blk HK0.out) Tryz.underlying51 rfl s51 ?_))
  refine (pseen_calls A c n l m x s.b s.e _ (HC.out.below HB0.out) hl HL.out).mono ?_
  rintro e2 w2 ⟨rfl, hB⟩
  have HB2 := Aside0.mk (below_step HB0.out hB)
  clear hB HB0 HK0 HG2 HH2 i0 x17 x18 z0 z1
  go_wp2_with (fail)
  go_ret
  exact ⟨rfl, HB2.out⟩
set_option maxHeartbeats 8000000 in
set_option maxRecDepth 100000 in
theorem q63_calls (A : Option Addr) (c : Nat) (n : Int) (l : List Sp) (s : Sp) (x : ByteArray) (gh gs : Nat) (w : World) (hC : CS w A l) (hl : l.length ≤ 10000) (hs : ∀ s ∈ l, LenS s)
    (hh : HistAt w gh A c l n) (hg : w.heap[gs]? = some (.cells (encS s).toArray 51 (0, 0))) :
    Calls Tryz.prog 63 #[.string x, .pointer (some ⟨gh, 0, none⟩), .pointer (some ⟨gs, 0, none⟩)] w fun e' w' => e' = .returned (.bool (xq l s x)) ∧ Below w.heap.size w w' := by
  have HC := Aside0.mk hC
  have HL := Aside0.mk hs
  have HH := Aside0.mk hh
  have HG := Aside0.mk hg
  have HB0 : Aside0 (Below w.heap.size w (w.alloc (.cells #[.string x] 9))) := ⟨below_alloc (Below.refl _ _) _⟩
  have HK0 : Aside0 ((w.alloc (.cells #[.string x] 9)).heap[w.heap.size]? = some (.cells #[.string x] 9 (0, 0))) := ⟨blk_new rfl⟩
  clear hC hs hh hg
  go_enter Tryz.func63, Tryz.ntmps63
  go_upto_region 1 with (fail)
  generalize (w.alloc (.cells #[.string x] 9)) = W0 at HB0 HK0 ⊢
  obtain ⟨gi, hgi⟩ : ∃ g, g = w.heap.size := ⟨_, rfl⟩
  rw [← hgi] at HK0 ⊢
  clear hgi
  have HG2 := Aside0.mk (blk_below HG.out HB0.out)
  have HH2 : Aside0 (HistAt W0 gh A c l n) := ⟨blk_below HH.out HB0.out⟩
  have z0 : W0.cell? ⟨gh, 0, none⟩ = some (.slice A l.length c) := (blk_cell HH2.out 0).trans rfl
  have z1 : W0.cell? ⟨gh, 1, none⟩ = some (.int .i64 n) := (blk_cell HH2.out 1).trans rfl
  go_wp2_with (fail)
  refine (any_calls A c n l 64 #[.pointer (some ⟨gh, 0, none⟩), .pointer (some ⟨gi, 0, none⟩), .pointer (some ⟨gs, 0, none⟩)] (sx l s x) _ (HC.out.below HB0.out) hl ⟨enters_of Tryz.func64 (by kernel_rfl) rfl, fun w4 hw r hr => q64_calls A c n l s r x gh gi gs w4 ((HC.out.below HB0.out).below hw) hl HL.out (blk_below HH2.out hw) (pw_cell_below hw (cell_one HK0.out)) (blk_below HG2.out hw)⟩).mono ?_
  rintro e4 w4 ⟨rfl, hB⟩
  have HB4 := Aside0.mk (below_step HB0.out hB)
  clear hB HB0 HK0 HG2 HH2 z0 z1
  go_wp2_with (fail)
  go_ret
  exact ⟨rfl, HB4.out⟩
/-- A question about a text, asked of whatever stands in a world that has grown from W. -/
def AsksT (W : World) (f : FuncId) (cap : Array Value) (l : List ByteArray) (q : ByteArray → Bool) : Prop :=
  Enters Tryz.prog f ∧ ∀ w, Below W.heap.size W w → ∀ m ∈ l, Calls Tryz.prog f (#[.string m] ++ cap) w fun e w' => e = .returned (.bool (q m)) ∧ Below w.heap.size w w'
set_option maxHeartbeats 8000000 in
set_option maxRecDepth 100000 in
theorem tindex_calls (A : Option Addr) (c : Nat) (l : List ByteArray) (f : FuncId) (cap : Array Value) (q : ByteArray → Bool) (w : World) (h : Kd.C Kd.string w A l.length l) (hl : l.length ≤ 10000) (hq : AsksT w f cap l q) :
    Calls Tryz.prog 82 #[.slice A l.length c, .func (.func f) #[] cap] w fun e w' => e = .returned (.int .i64 (idxP l q)) ∧ Below w.heap.size w w' := by
  have HC := Aside0.mk h
  have HA := Aside0.mk hq
  clear h hq
  go_enter Tryz.func82, Tryz.ntmps82
  go_wp2_with (fail)
  go_loopw [8] (fun v8 wr => ∃ k : Nat, k ≤ l.length ∧ v8 = .int .i64 k ∧ Aside0 ((l.take k).any q = false) ∧ Aside0 (Below w.heap.size w wr)) (fun v8 _ => l.length - (intOf v8).toNat)
  case atStart => exact ⟨0, Nat.zero_le _, rfl, ⟨rfl⟩, ⟨Below.refl _ _⟩⟩
  case round =>
    obtain ⟨k, hk, rfl, HQ, HW⟩ := hrel
    by_cases hlt : k < l.length
    · obtain ⟨m, hm⟩ : ∃ r, l[k]? = some r := ⟨_, List.getElem?_eq_getElem hlt⟩
      have hrm : m ∈ l := List.mem_of_getElem? hm
      obtain ⟨ad, rfl, s0⟩ := Kd.at_string (Kd.C_below HC.out HW.out) (k : Int) (by omega) (by omega)
      rw [rd9_at hm, Int.toNat_natCast] at s0
      have HCA := Aside0.mk (HA.out.2 wr HW.out m hrm)
      have HM := Aside0.mk hm
      have HTK := Aside0.mk (any_take q l k m hm)
      have hml : k < maxLen := by unfold maxLen; omega
      clear hrm hm
      go_wp2_with (fail)
      rw [HA.out.1, Oper.upon_enter]
      refine HCA.out.mono ?_
      rintro e1 w1 ⟨rfl, hB⟩
      have HW1 := Aside0.mk (below_step HW.out hB)
      clear hB HCA HW s0
      cases hb : q m with
      | true =>
        have HN : Aside0 (idxP l q = k) := ⟨idxP_at HM.out hb HQ.out⟩
        go_wp2_with (fail)
        go_ret
        exact ⟨by rw [HN.out]; rfl, HW1.out⟩
      | false =>
        have HN : Aside0 ((l.take (k + 1)).any q = false) := ⟨by rw [HTK.out, HQ.out, hb]; rfl⟩
        go_wp2_with (fail)
        go_roundw
        case rel => exact ⟨k + 1, hlt, by go_simp, HN, HW1⟩
        case measure => simp [intOf]; omega
    · obtain rfl : k = l.length := by omega
      have HN : Aside0 (l.any q = false) := ⟨by have := HQ.out; rwa [List.take_length] at this⟩
      go_wp2_with (fail)
      go_ret
      exact ⟨by rw [idxP_none HN.out]; rfl, HW.out⟩
set_option maxHeartbeats 8000000 in
set_option maxRecDepth 100000 in
theorem tcontains_calls (A : Option Addr) (c n : Nat) (l : List ByteArray) (f : FuncId) (cap : Array Value) (q : ByteArray → Bool) (w : World) (h : Kd.C Kd.string w A n l) (hn : l.length = n) (hl : n ≤ 10000) (hq : AsksT w f cap l q) :
    Calls Tryz.prog 62 #[.slice A n c, .func (.func f) #[] cap] w fun e w' => e = .returned (.bool (l.any q)) ∧ Below w.heap.size w w' := by
  subst hn
  have HG := Aside0.mk (idxP_ge l q)
  have HC := Aside0.mk (tindex_calls A c l f cap q w h hl hq)
  clear h hq
  go_enter Tryz.func62, Tryz.ntmps62
  go_wp2_with (fail)
  refine HC.out.mono ?_
  rintro e1 w1 ⟨rfl, hB⟩
  have HB := Aside0.mk hB
  clear hB HC
  generalize idxP l q = r at HG ⊢
  obtain ⟨b, hb⟩ : ∃ b, b = l.any q := ⟨_, rfl⟩
  have d1 : decide (0 ≤ r) = b := by rw [hb]; exact HG.out
  have HBQ := Aside0.mk hb
  clear HG hb
  go_wp2_with (fail)
  go_ret
  exact ⟨by rw [← HBQ.out]; rfl, HB.out⟩
set_option maxHeartbeats 8000000 in
set_option maxRecDepth 100000 in
theorem plisted_calls (A : Option Addr) (c : Nat) (n : Int) (l : List Sp) (s : Sp) (w : World) (h : CS w A l) (hl : l.length ≤ 10000) (hs : ∀ s ∈ l, LenS s) (hr : RdS w s) (hls : LenS s) :
    Calls Tryz.prog 35 #[.agg #[.slice A l.length c, .int .i64 n], aggS s] w fun e' w' => e' = .returned (.bool (!(listedP l s))) ∧ Below w.heap.size w w' := by
  have HC := Aside0.mk h
  have HL := Aside0.mk hs
  have HR := Aside0.mk hr
  have HLS := Aside0.mk hls
  have HB0 : Aside0 (Below w.heap.size w ((w.alloc (.cells #[.slice A l.length c, .int .i64 n] 47)).alloc (.cells #[.int .i64 s.c.kind, .slice s.c.eA s.c.eN s.c.eC, .int .i64 s.c.time, .string s.c.host, .string s.c.parent, .slice s.c.iA s.c.iN s.c.iC, .string s.c.path, .slice s.c.uA s.c.uN s.c.uC, .int .i64 s.c.percent, .bool s.c.rd, .int .i64 s.r.code, .string s.r.id, .int .i64 s.r.n, .slice s.r.jA s.r.jN s.r.jC, .slice s.r.tA s.r.tN s.r.tC, .slice s.r.fA s.r.fN s.r.fC, .slice s.r.sA s.r.sN s.r.sC, .int .i64 s.b, .int .i64 s.e, .bool s.op] 51))) := ⟨below_alloc (below_alloc (Below.refl _ _) _) _⟩
  have K0H : Aside0 (HistAt ((w.alloc (.cells #[.slice A l.length c, .int .i64 n] 47)).alloc (.cells #[.int .i64 s.c.kind, .slice s.c.eA s.c.eN s.c.eC, .int .i64 s.c.time, .string s.c.host, .string s.c.parent, .slice s.c.iA s.c.iN s.c.iC, .string s.c.path, .slice s.c.uA s.c.uN s.c.uC, .int .i64 s.c.percent, .bool s.c.rd, .int .i64 s.r.code, .string s.r.id, .int .i64 s.r.n, .slice s.r.jA s.r.jN s.r.jC, .slice s.r.tA s.r.tN s.r.tC, .slice s.r.fA s.r.fN s.r.fC, .slice s.r.sA s.r.sN s.r.sC, .int .i64 s.b, .int .i64 s.e, .bool s.op] 51)) w.heap.size A c l n) := ⟨blk_old (blk_new rfl)⟩
  have K0S : Aside0 (((w.alloc (.cells #[.slice A l.length c, .int .i64 n] 47)).alloc (.cells #[.int .i64 s.c.kind, .slice s.c.eA s.c.eN s.c.eC, .int .i64 s.c.time, .string s.c.host, .string s.c.parent, .slice s.c.iA s.c.iN s.c.iC, .string s.c.path, .slice s.c.uA s.c.uN s.c.uC, .int .i64 s.c.percent, .bool s.c.rd, .int .i64 s.r.code, .string s.r.id, .int .i64 s.r.n, .slice s.r.jA s.r.jN s.r.jC, .slice s.r.tA s.r.tN s.r.tC, .slice s.r.fA s.r.fN s.r.fC, .slice s.r.sA s.r.sN s.r.sC, .int .i64 s.b, .int .i64 s.e, .bool s.op] 51)).heap[w.heap.size + 1]? = some (.cells (encS s).toArray 51 (0, 0))) := ⟨blk_new (by simp)⟩
  clear h hs hr hls
  go_enter Tryz.func35, Tryz.ntmps35
  go_upto_region 1 with (fail)
  generalize ((w.alloc (.cells #[.slice A l.length c, .int .i64 n] 47)).alloc (.cells #[.int .i64 s.c.kind, .slice s.c.eA s.c.eN s.c.eC, .int .i64 s.c.time, .string s.c.host, .string s.c.parent, .slice s.c.iA s.c.iN s.c.iC, .string s.c.path, .slice s.c.uA s.c.uN s.c.uC, .int .i64 s.c.percent, .bool s.c.rd, .int .i64 s.r.code, .string s.r.id, .int .i64 s.r.n, .slice s.r.jA s.r.jN s.r.jC, .slice s.r.tA s.r.tN s.r.tC, .slice s.r.fA s.r.fN s.r.fC, .slice s.r.sA s.r.sN s.r.sC, .int .i64 s.b, .int .i64 s.e, .bool s.op] 51)) = W0 at HB0 K0H K0S ⊢
  generalize w.heap.size + 1 = gs at K0S ⊢
  obtain ⟨g, hg⟩ : ∃ g, g = w.heap.size := ⟨_, rfl⟩
  rw [← hg] at K0H ⊢
  clear hg
  have z0 : W0.cell? ⟨g, 0, none⟩ = some (.slice A l.length c) := (blk_cell K0H.out 0).trans rfl
  have z1 : W0.cell? ⟨g, 1, none⟩ = some (.int .i64 n) := (blk_cell K0H.out 1).trans rfl
  go_wp2_with (fail)
  refine (any_calls A c n l 60 #[.pointer (some ⟨g, 0, none⟩), .pointer (some ⟨gs, 0, none⟩)] (lq l s) _ (HC.out.below HB0.out) hl ⟨enters_of Tryz.func60 (by kernel_rfl) rfl, fun w4 hw r hr => q60_calls A c n l s r g gs w4 ((HC.out.below HB0.out).below hw) hl HL.out (HR.out.below (below_step HB0.out hw)) HLS.out (blk_below K0H.out hw) (blk_below K0S.out hw)⟩).mono ?_
  rintro e4 w4 ⟨rfl, hB⟩
  have HB4 := Aside0.mk (below_step HB0.out hB)
  have K4H := Aside0.mk (blk_below K0H.out hB)
  have K4S := Aside0.mk (blk_below K0S.out hB)
  clear hB HB0 K0H K0S z0 z1
  have m13 : w4.cell? ⟨gs, 13, none⟩ = some (.slice s.r.jA s.r.jN s.r.jC) := (blk_cell K4S.out 13).trans rfl
  go_wp2_with (fail)
  refine (tcontains_calls s.r.jA s.r.jC s.r.jN s.r.rids 63 #[.pointer (some ⟨g, 0, none⟩), .pointer (some ⟨gs, 0, none⟩)] (xq l s) _ (Kd.C_below HR.out.2.ids.2.2 HB4.out) HR.out.2.ids.2.1 HLS.out.1 ⟨enters_of Tryz.func63 (by kernel_rfl) rfl, fun w5 hw r hr => q63_calls A c n l s r g gs w5 (HC.out.below (below_step HB4.out hw)) hl HL.out (blk_below K4H.out hw) (blk_below K4S.out hw)⟩).mono ?_
  rintro e5 w5 ⟨rfl, hB⟩
  have HB5 := Aside0.mk (below_step HB4.out hB)
  clear hB HB4 K4H K4S m13
  cases h1 : l.any (lq l s) with
  | true =>
    have HN : Aside0 (listedP l s = true) := ⟨by unfold listedP; rw [h1]; rfl⟩
    go_wp2_with (fail)
    go_ret
    exact ⟨by rw [HN.out]; rfl, HB5.out⟩
  | false =>
    have HN : Aside0 (listedP l s = s.r.rids.any (xq l s)) := ⟨by unfold listedP; rw [h1]; rfl⟩
    generalize s.r.rids.any (xq l s) = t at HN ⊢
    cases t with
    | false =>
      go_wp2_with (fail)
      go_ret
      exact ⟨by rw [HN.out]; rfl, HB5.out⟩
    | true =>
      go_wp2_with (fail)
      go_ret
      exact ⟨by rw [HN.out]; rfl, HB5.out⟩
end Go.Proofs.YtkicenkljjpcfaaGreatDoor.Q
