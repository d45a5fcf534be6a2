/- Of the proof about model: several texts, joined. -/
import Derived.Test.YtkicenkljjpcfaaGreatDoorMB
set_option linter.unusedVariables false
set_option linter.unusedSimpArgs false
namespace Go.Proofs.YtkicenkljjpcfaaGreatDoor.Q
open Go.RowKit Go.Proofs.YtkicenkljjpcfaaGreatDoorW.PrintWords Go.Proofs.YtkicenkljjpcfaaGreatDoorW.PrintLast Go.Proofs.YtkicenkljjpcfaaGreatDoorW.PrintMore
theorem any_take {α : Type} (q : α → Bool) (l : List α) (k : Nat) (x : α) (hx : l[k]? = some x) : (l.take (k + 1)).any q = ((l.take k).any q || q x) := by
  have hk := (List.getElem?_eq_some_iff.1 hx).1
  rw [List.take_succ_eq_append_getElem hk, List.any_append, (List.getElem?_eq_some_iff.1 hx).2]
  simp
set_option maxHeartbeats 8000000 in
set_option maxRecDepth 100000 in
theorem sure_calls (A : Option Addr) (c : Nat) (l : List Sp) (x : ByteArray) (b e : Int) (w : World) (h : CS w A l) (hl : l.length ≤ 10000) (hs : ∀ s ∈ l, LenS s) :
    Calls Tryz.prog 24 #[.slice A l.length c, .string x, .int .i64 b, .int .i64 e] w fun e' w' => e' = .returned (.bool (sureP l x b e)) ∧ Below w.heap.size w w' := by
  have HC := Aside0.mk h
  have HS := Aside0.mk hs
  clear h hs
  go_enter Tryz.func24, Tryz.ntmps24
  go_wp2_with (fail)
  go_loopw [9] (fun v9 wr => ∃ k : Nat, k ≤ l.length ∧ v9 = .int .i64 k ∧ Aside0 ((l.take k).any (fun m => keepsP l m x b e) = false) ∧ Aside0 (Below w.heap.size w wr)) (fun v9 _ => l.length - (intOf v9).toNat)
  case atStart => exact ⟨0, Nat.zero_le _, rfl, ⟨rfl⟩, ⟨Below.refl _ _⟩⟩
  case round =>
    obtain ⟨k, hk, rfl, HQ, HB⟩ := hrel
    by_cases hlt : k < l.length
    · obtain ⟨m, hm⟩ : ∃ r, l[k]? = some r := ⟨_, List.getElem?_eq_getElem hlt⟩
      have hrm : m ∈ l := List.mem_of_getElem? hm
      obtain ⟨ad, rfl, hcell⟩ := cellsS (HC.out.below HB.out).1 k hlt m hm
      have HCE := Aside0.mk hcell
      have HM := Aside0.mk hm
      clear hcell hrm hm
      have hml : k < maxLen := by unfold maxLen; omega
      go_wp2_with (((with_reducible refine gate_dst (N := 20) rfl ?_); refine wpList_load_any (by rfl) 57 (.tmp 19) rfl (ad.add (k * 20)) rfl (encS m) _ (HCE.out) Tryz.underlying57 rfl s57 ?_))
      refine (keeps_calls (some ad) c l m x b e _ (HC.out.below HB.out) hl HS.out).mono ?_
      rintro e1 w1 ⟨rfl, hB⟩
      have HB1 := Aside0.mk (below_step HB.out hB)
      clear hB HB HCE
      cases hk : keepsP l m x b e with
      | true =>
        have HN : Aside0 (l.any (fun m => keepsP l m x b e) = true) := ⟨List.any_eq_true.2 ⟨m, List.mem_of_getElem? HM.out, hk⟩⟩
        go_wp2_with (fail)
        go_ret
        exact ⟨by unfold sureP; rw [HN.out]; rfl, HB1.out⟩
      | false =>
        have HN : Aside0 ((l.take (k + 1)).any (fun m => keepsP l m x b e) = false) := ⟨by rw [any_take _ _ _ _ HM.out, HQ.out, hk]; rfl⟩
        go_wp2_with (fail)
        go_roundw
        case rel => exact ⟨k + 1, hlt, by go_simp, HN, HB1⟩
        case measure => simp [intOf]; omega
    · obtain rfl : k = l.length := by omega
      go_wp2_with (fail)
      go_ret
      exact ⟨by have := HQ.out; rw [List.take_length] at this; unfold sureP; rw [this]; rfl, HB.out⟩
theorem addf (ad : Addr) (m j : Nat) (hj : 0 < j) : (ad.add m).add j = ⟨(ad.add m).block, (ad.add m).off + j, none⟩ := by rw [Go.Deep.add_add, add_field ad m j hj]
def sq (m : Sp) (x : ByteArray) (b : Int) (r : Sp) : Bool := !(!m.op && (tookP r x && (decide (m.e < r.b) && decide (r.e < b))))
theorem seenP_sq (l : List Sp) (m : Sp) (x : ByteArray) (b e : Int) : seenP l m x b e = ((madeP m x || mayP m) && (decide (m.b < e) && l.all (sq m x b))) := rfl
set_option maxHeartbeats 8000000 in
set_option maxRecDepth 100000 in
theorem seen_calls (A : Option Addr) (c : Nat) (l : List Sp) (m : Sp) (x : ByteArray) (b e : Int) (w : World) (h : CS w A l) (hl : l.length ≤ 10000) (hs : ∀ s ∈ l, LenS s) :
    Calls Tryz.prog 66 #[.slice A l.length c, aggS m, .string x, .int .i64 b, .int .i64 e] w fun e' w' => e' = .returned (.bool (seenP l m x b e)) ∧ Below w.heap.size w w' := by
  have HC := Aside0.mk h
  have HS := Aside0.mk hs
  have HB0 : Aside0 (Below w.heap.size w (w.alloc (.cells #[.int .i64 m.c.kind, .slice m.c.eA m.c.eN m.c.eC, .int .i64 m.c.time, .string m.c.host, .string m.c.parent, .slice m.c.iA m.c.iN m.c.iC, .string m.c.path, .slice m.c.uA m.c.uN m.c.uC, .int .i64 m.c.percent, .bool m.c.rd, .int .i64 m.r.code, .string m.r.id, .int .i64 m.r.n, .slice m.r.jA m.r.jN m.r.jC, .slice m.r.tA m.r.tN m.r.tC, .slice m.r.fA m.r.fN m.r.fC, .slice m.r.sA m.r.sN m.r.sC, .int .i64 m.b, .int .i64 m.e, .bool m.op] 57))) := ⟨below_alloc (Below.refl _ _) _⟩
  have HK0 : Aside0 ((w.alloc (.cells #[.int .i64 m.c.kind, .slice m.c.eA m.c.eN m.c.eC, .int .i64 m.c.time, .string m.c.host, .string m.c.parent, .slice m.c.iA m.c.iN m.c.iC, .string m.c.path, .slice m.c.uA m.c.uN m.c.uC, .int .i64 m.c.percent, .bool m.c.rd, .int .i64 m.r.code, .string m.r.id, .int .i64 m.r.n, .slice m.r.jA m.r.jN m.r.jC, .slice m.r.tA m.r.tN m.r.tC, .slice m.r.fA m.r.fN m.r.fC, .slice m.r.sA m.r.sN m.r.sC, .int .i64 m.b, .int .i64 m.e, .bool m.op] 57)).heap[w.heap.size]? = some (.cells (encS m).toArray 57 (0, 0))) := ⟨(MapKept.heap_alloc w _).1⟩
  clear h hs
  go_enter Tryz.func66, Tryz.ntmps66
  go_upto_region 1 with (fail)
  generalize (w.alloc (.cells #[.int .i64 m.c.kind, .slice m.c.eA m.c.eN m.c.eC, .int .i64 m.c.time, .string m.c.host, .string m.c.parent, .slice m.c.iA m.c.iN m.c.iC, .string m.c.path, .slice m.c.uA m.c.uN m.c.uC, .int .i64 m.c.percent, .bool m.c.rd, .int .i64 m.r.code, .string m.r.id, .int .i64 m.r.n, .slice m.r.jA m.r.jN m.r.jC, .slice m.r.tA m.r.tN m.r.tC, .slice m.r.fA m.r.fN m.r.fC, .slice m.r.sA m.r.sN m.r.sC, .int .i64 m.b, .int .i64 m.e, .bool m.op] 57)) = W0 at HB0 HK0 ⊢
  obtain ⟨g, hg⟩ : ∃ g, g = w.heap.size := ⟨_, rfl⟩
  rw [← hg] at HK0 ⊢
  clear hg
  go_wp2_with (((with_reducible refine gate_dst (N := 12) rfl ?_); refine wpList_load_any (by rfl) 57 (.tmp 6) rfl ⟨g, 0, none⟩ rfl (encS m) _ (cells_blk HK0.out) Tryz.underlying57 rfl s57 ?_))
  refine (made_calls m x _).mono ?_
  rintro e1 w1 ⟨rfl, hB⟩
  have HB1 := Aside0.mk (below_step HB0.out hB)
  have HK1 := Aside0.mk (blk_below HK0.out hB)
  clear hB HB0 HK0
  cases h1 : madeP m x with
  | true =>
    have k17 : w1.cell? ⟨g, 17, none⟩ = some (.int .i64 m.b) := (blk_cell HK1.out 17).trans rfl
    have k18 : True := trivial
    by_cases h3 : m.b < e
    · have d3 : decide (m.b ≥ e) = false := decide_eq_false (by omega)
      have d3' : ¬ e ≤ m.b := by omega
      go_wp2_with (fail)
      go_loopw [11] (fun v11 wr => ∃ k : Nat, k ≤ l.length ∧ v11 = .int .i64 k ∧ Aside0 ((l.take k).all (sq m x b) = true) ∧ Aside0 (Below w1.heap.size w1 wr)) (fun v11 _ => l.length - (intOf v11).toNat)
      case atStart => exact ⟨0, Nat.zero_le _, rfl, ⟨rfl⟩, ⟨Below.refl _ _⟩⟩
      case round =>
        clear k17 k18
        obtain ⟨k, hk, rfl, HQ, HW⟩ := hrel
        have HBW := Aside0.mk (below_step HB1.out HW.out)
        have HKW := Aside0.mk (blk_below HK1.out HW.out)
        by_cases hlt : k < l.length
        · obtain ⟨r, hr⟩ : ∃ r, l[k]? = some r := ⟨_, List.getElem?_eq_getElem hlt⟩
          have hrm : r ∈ l := List.mem_of_getElem? hr
          obtain ⟨ad, rfl, hcell⟩ := cellsS (HC.out.below HBW.out).1 k hlt r hr
          have HCE : ∀ (z : Up wr) j v, (encS r)[j]? = some v → z.w.cell? ((ad.add (k * 20)).add j) = some v := fun z j v hv => pw_cell_below z.h (hcell j v hv)
          have HRD := Aside0.mk ((HC.out.below HBW.out).2 r hrm).2
          have HLN := Aside0.mk (HS.out r hrm)
          have HTK := Aside0.mk (all_take (sq m x b) l k r hr)
          have HNO : Aside0 (sq m x b r = false → l.all (sq m x b) = false) := ⟨fun hq => all_not hr hq⟩
          have y17 : ∀ z : Up wr, z.w.cell? ⟨(ad.add (k * 20)).block, (ad.add (k * 20)).off + 17, none⟩ = some (.int .i64 r.b) := fun z => (addf ad (k * 20) 17 (by omega)) ▸ HCE z 17 _ rfl
          have y18 : ∀ z : Up wr, z.w.cell? ⟨(ad.add (k * 20)).block, (ad.add (k * 20)).off + 18, none⟩ = some (.int .i64 r.e) := fun z => (addf ad (k * 20) 18 (by omega)) ▸ HCE z 18 _ rfl
          have x18 : ∀ z : Up wr, z.w.cell? ⟨g, 18, none⟩ = some (.int .i64 m.e) := fun z => (blk_cell (blk_below HKW.out z.h) 18).trans rfl
          have x19 : ∀ z : Up wr, z.w.cell? ⟨g, 19, none⟩ = some (.bool m.op) := fun z => (blk_cell (blk_below HKW.out z.h) 19).trans rfl
          have hq : sq m x b r = !(!m.op && (tookP r x && (decide (m.e < r.b) && decide (r.e < b)))) := rfl
          clear hcell hrm hr
          have hml : k < maxLen := by unfold maxLen; omega
          cases h5 : m.op with
          | true =>
            rw [h5] at x19
            go_wp2_with (fail)
            refine wp_region_up (by kernel_rfl) (by kernel_rfl) ?_
            repeat (first | go_big_quiet_skip | (go_big_quiet_want; first | (refine quiet_load_any 57 (.tmp 39) rfl (ad.add (k * 20)) rfl (encS r) _ ?_ Tryz.underlying57 rfl s57 ?_; (rintro _ ⟨z, rfl⟩; exact HCE z); simp only [Act.put, List.setIfInBounds_toArray, List.set_cons_zero, List.set_cons_succ]; go_big_quiet_on) | (go_big_quiet_op; first | go_big_quiet_on | (apply Exists.intro; refine ⟨fun z => ?_, ?_⟩; (focus (refine z.calls (took_calls r x z.w (HRD.out.below z.h) HLN.out.1); done)); go_big_quiet_on))))
            refine wpQuiet_nil ?_
            rintro _ ⟨z, rfl⟩
            have HN : Aside0 ((l.take (k + 1)).all (sq m x b) = true) := ⟨by rw [HTK.out, HQ.out, hq, h5]; rfl⟩
            have HWZ := Aside0.mk (below_step HW.out z.h)
            clear HNO HTK hq HCE y17 y18 x18 x19
            go_wp2_with (fail)
            go_roundw
            case rel => exact ⟨k + 1, hlt, by go_simp, HN, HWZ⟩
            case measure => simp [intOf]; omega
          | false =>
            rw [h5] at x19
            cases h6 : tookP r x with
            | false =>
              have HTL : ∀ z : Up wr, Calls Tryz.prog 75 #[aggS r, .string x] z.w fun e' w' => e' = .returned (.bool false) ∧ ∃ u : Up wr, w' = u.w := fun z => z.calls (h6 ▸ took_calls r x z.w (HRD.out.below z.h) HLN.out.1)
              have HTL := Aside0.mk HTL
              go_wp2_with (fail)
              refine wp_region_up (by kernel_rfl) (by kernel_rfl) ?_
              repeat (first | go_big_quiet_skip | (go_big_quiet_want; first | (refine quiet_load_any 57 (.tmp 39) rfl (ad.add (k * 20)) rfl (encS r) _ ?_ Tryz.underlying57 rfl s57 ?_; (rintro _ ⟨z, rfl⟩; exact HCE z); simp only [Act.put, List.setIfInBounds_toArray, List.set_cons_zero, List.set_cons_succ]; go_big_quiet_on) | (go_big_quiet_op; first | go_big_quiet_on | (apply Exists.intro; refine ⟨fun z => ?_, ?_⟩; (focus (exact HTL.out z; done)); go_big_quiet_on))))
              refine wpQuiet_nil ?_
              rintro _ ⟨z, rfl⟩
              have HN : Aside0 ((l.take (k + 1)).all (sq m x b) = true) := ⟨by rw [HTK.out, HQ.out, hq, h5, h6]; rfl⟩
              have HWZ := Aside0.mk (below_step HW.out z.h)
              clear HNO HTK hq HCE y17 y18 x18 x19
              go_wp2_with (fail)
              go_roundw
              case rel => exact ⟨k + 1, hlt, by go_simp, HN, HWZ⟩
              case measure => simp [intOf]; omega
            | true =>
              have HTL : ∀ z : Up wr, Calls Tryz.prog 75 #[aggS r, .string x] z.w fun e' w' => e' = .returned (.bool true) ∧ ∃ u : Up wr, w' = u.w := fun z => z.calls (h6 ▸ took_calls r x z.w (HRD.out.below z.h) HLN.out.1)
              have HTL := Aside0.mk HTL
              by_cases h7 : m.e < r.b
              · have d7 : decide (m.e < r.b) = true := decide_eq_true h7
                by_cases h8 : r.e < b
                · have d8 : decide (r.e < b) = true := decide_eq_true h8
                  go_wp2_with (fail)
                  refine wp_region_up (by kernel_rfl) (by kernel_rfl) ?_
                  repeat (first | go_big_quiet_skip | (go_big_quiet_want; first | (refine quiet_load_any 57 (.tmp 39) rfl (ad.add (k * 20)) rfl (encS r) _ ?_ Tryz.underlying57 rfl s57 ?_; (rintro _ ⟨z, rfl⟩; exact HCE z); simp only [Act.put, List.setIfInBounds_toArray, List.set_cons_zero, List.set_cons_succ]; go_big_quiet_on) | (go_big_quiet_op; first | go_big_quiet_on | (apply Exists.intro; refine ⟨fun z => ?_, ?_⟩; (focus (exact HTL.out z; done)); go_big_quiet_on))))
                  refine wpQuiet_nil ?_
                  rintro _ ⟨z, rfl⟩
                  have HBZ := Aside0.mk (below_step HBW.out z.h)
                  clear HCE y17 y18 x18 x19
                  go_wp2_with (fail)
                  go_ret
                  exact ⟨by rw [seenP_sq, HNO.out (by rw [hq, h5, h6, d7, d8]; rfl), Bool.and_false, Bool.and_false]; rfl, HBZ.out⟩
                · have d8 : decide (r.e < b) = false := decide_eq_false h8
                  go_wp2_with (fail)
                  refine wp_region_up (by kernel_rfl) (by kernel_rfl) ?_
                  repeat (first | go_big_quiet_skip | (go_big_quiet_want; first | (refine quiet_load_any 57 (.tmp 39) rfl (ad.add (k * 20)) rfl (encS r) _ ?_ Tryz.underlying57 rfl s57 ?_; (rintro _ ⟨z, rfl⟩; exact HCE z); simp only [Act.put, List.setIfInBounds_toArray, List.set_cons_zero, List.set_cons_succ]; go_big_quiet_on) | (go_big_quiet_op; first | go_big_quiet_on | (apply Exists.intro; refine ⟨fun z => ?_, ?_⟩; (focus (exact HTL.out z; done)); go_big_quiet_on))))
                  refine wpQuiet_nil ?_
                  rintro _ ⟨z, rfl⟩
                  have HN : Aside0 ((l.take (k + 1)).all (sq m x b) = true) := ⟨by rw [HTK.out, HQ.out, hq, h5, h6, d7, d8]; rfl⟩
                  have HWZ := Aside0.mk (below_step HW.out z.h)
                  clear HNO HTK hq HCE y17 y18 x18 x19
                  go_wp2_with (fail)
                  go_roundw
                  case rel => exact ⟨k + 1, hlt, by go_simp, HN, HWZ⟩
                  case measure => simp [intOf]; omega
              · have d7 : decide (m.e < r.b) = false := decide_eq_false h7
                go_wp2_with (fail)
                refine wp_region_up (by kernel_rfl) (by kernel_rfl) ?_
                repeat (first | go_big_quiet_skip | (go_big_quiet_want; first | (refine quiet_load_any 57 (.tmp 39) rfl (ad.add (k * 20)) rfl (encS r) _ ?_ Tryz.underlying57 rfl s57 ?_; (rintro _ ⟨z, rfl⟩; exact HCE z); simp only [Act.put, List.setIfInBounds_toArray, List.set_cons_zero, List.set_cons_succ]; go_big_quiet_on) | (go_big_quiet_op; first | go_big_quiet_on | (apply Exists.intro; refine ⟨fun z => ?_, ?_⟩; (focus (exact HTL.out z; done)); go_big_quiet_on))))
                refine wpQuiet_nil ?_
                rintro _ ⟨z, rfl⟩
                have HN : Aside0 ((l.take (k + 1)).all (sq m x b) = true) := ⟨by rw [HTK.out, HQ.out, hq, h5, h6, d7]; rfl⟩
                have HWZ := Aside0.mk (below_step HW.out z.h)
                clear HNO HTK hq HCE y17 y18 x18 x19
                go_wp2_with (fail)
                go_roundw
                case rel => exact ⟨k + 1, hlt, by go_simp, HN, HWZ⟩
                case measure => simp [intOf]; omega
        · obtain rfl : k = l.length := by omega
          go_wp2_with (fail)
          go_ret
          exact ⟨by rw [seenP_sq, h1, decide_eq_true h3]; have := HQ.out; rw [List.take_length] at this; rw [this]; rfl, HBW.out⟩
    · have d3 : decide (m.b ≥ e) = true := decide_eq_true (by omega)
      have d3' : e ≤ m.b := by omega
      go_wp2_with (fail)
      go_ret
      exact ⟨by rw [seenP_sq, h1, decide_eq_false (by omega : ¬ m.b < e)]; rfl, HB1.out⟩
  | false =>
    go_wp2_with (((with_reducible refine gate_dst (N := 17) rfl ?_); refine wpList_load_any (by rfl) 57 (.tmp 6) rfl ⟨g, 0, none⟩ rfl (encS m) _ (cells_blk HK1.out) Tryz.underlying57 rfl s57 ?_))
    refine (may_calls m _).mono ?_
    rintro e2 w2 ⟨rfl, hB⟩
    have HB2 := Aside0.mk (below_step HB1.out hB)
    have HK2 := Aside0.mk (blk_below HK1.out hB)
    clear hB HB1 HK1
    cases h2 : mayP m with
    | false =>
      go_wp2_with (fail)
      go_ret
      exact ⟨by rw [seenP_sq, h1, h2]; rfl, HB2.out⟩
    | true =>
      have k17 : w2.cell? ⟨g, 17, none⟩ = some (.int .i64 m.b) := (blk_cell HK2.out 17).trans rfl
      have k18 : True := trivial
      by_cases h3 : m.b < e
      · have d3 : decide (m.b ≥ e) = false := decide_eq_false (by omega)
        have d3' : ¬ e ≤ m.b := by omega
        go_wp2_with (fail)
        go_loopw [11] (fun v11 wr => ∃ k : Nat, k ≤ l.length ∧ v11 = .int .i64 k ∧ Aside0 ((l.take k).all (sq m x b) = true) ∧ Aside0 (Below w2.heap.size w2 wr)) (fun v11 _ => l.length - (intOf v11).toNat)
        case atStart => exact ⟨0, Nat.zero_le _, rfl, ⟨rfl⟩, ⟨Below.refl _ _⟩⟩
        case round =>
          clear k17 k18
          obtain ⟨k, hk, rfl, HQ, HW⟩ := hrel
          have HBW := Aside0.mk (below_step HB2.out HW.out)
          have HKW := Aside0.mk (blk_below HK2.out HW.out)
          by_cases hlt : k < l.length
          · obtain ⟨r, hr⟩ : ∃ r, l[k]? = some r := ⟨_, List.getElem?_eq_getElem hlt⟩
            have hrm : r ∈ l := List.mem_of_getElem? hr
            obtain ⟨ad, rfl, hcell⟩ := cellsS (HC.out.below HBW.out).1 k hlt r hr
            have HCE : ∀ (z : Up wr) j v, (encS r)[j]? = some v → z.w.cell? ((ad.add (k * 20)).add j) = some v := fun z j v hv => pw_cell_below z.h (hcell j v hv)
            have HRD := Aside0.mk ((HC.out.below HBW.out).2 r hrm).2
            have HLN := Aside0.mk (HS.out r hrm)
            have HTK := Aside0.mk (all_take (sq m x b) l k r hr)
            have HNO : Aside0 (sq m x b r = false → l.all (sq m x b) = false) := ⟨fun hq => all_not hr hq⟩
            have y17 : ∀ z : Up wr, z.w.cell? ⟨(ad.add (k * 20)).block, (ad.add (k * 20)).off + 17, none⟩ = some (.int .i64 r.b) := fun z => (addf ad (k * 20) 17 (by omega)) ▸ HCE z 17 _ rfl
            have y18 : ∀ z : Up wr, z.w.cell? ⟨(ad.add (k * 20)).block, (ad.add (k * 20)).off + 18, none⟩ = some (.int .i64 r.e) := fun z => (addf ad (k * 20) 18 (by omega)) ▸ HCE z 18 _ rfl
            have x18 : ∀ z : Up wr, z.w.cell? ⟨g, 18, none⟩ = some (.int .i64 m.e) := fun z => (blk_cell (blk_below HKW.out z.h) 18).trans rfl
            have x19 : ∀ z : Up wr, z.w.cell? ⟨g, 19, none⟩ = some (.bool m.op) := fun z => (blk_cell (blk_below HKW.out z.h) 19).trans rfl
            have hq : sq m x b r = !(!m.op && (tookP r x && (decide (m.e < r.b) && decide (r.e < b)))) := rfl
            clear hcell hrm hr
            have hml : k < maxLen := by unfold maxLen; omega
            cases h5 : m.op with
            | true =>
              rw [h5] at x19
              go_wp2_with (fail)
              refine wp_region_up (by kernel_rfl) (by kernel_rfl) ?_
              repeat (first | go_big_quiet_skip | (go_big_quiet_want; first | (refine quiet_load_any 57 (.tmp 39) rfl (ad.add (k * 20)) rfl (encS r) _ ?_ Tryz.underlying57 rfl s57 ?_; (rintro _ ⟨z, rfl⟩; exact HCE z); simp only [Act.put, List.setIfInBounds_toArray, List.set_cons_zero, List.set_cons_succ]; go_big_quiet_on) | (go_big_quiet_op; first | go_big_quiet_on | (apply Exists.intro; refine ⟨fun z => ?_, ?_⟩; (focus (refine z.calls (took_calls r x z.w (HRD.out.below z.h) HLN.out.1); done)); go_big_quiet_on))))
              refine wpQuiet_nil ?_
              rintro _ ⟨z, rfl⟩
              have HN : Aside0 ((l.take (k + 1)).all (sq m x b) = true) := ⟨by rw [HTK.out, HQ.out, hq, h5]; rfl⟩
              have HWZ := Aside0.mk (below_step HW.out z.h)
              clear HNO HTK hq HCE y17 y18 x18 x19
              go_wp2_with (fail)
              go_roundw
              case rel => exact ⟨k + 1, hlt, by go_simp, HN, HWZ⟩
              case measure => simp [intOf]; omega
            | false =>
              rw [h5] at x19
              cases h6 : tookP r x with
              | false =>
                have HTL : ∀ z : Up wr, Calls Tryz.prog 75 #[aggS r, .string x] z.w fun e' w' => e' = .returned (.bool false) ∧ ∃ u : Up wr, w' = u.w := fun z => z.calls (h6 ▸ took_calls r x z.w (HRD.out.below z.h) HLN.out.1)
                have HTL := Aside0.mk HTL
                go_wp2_with (fail)
                refine wp_region_up (by kernel_rfl) (by kernel_rfl) ?_
                repeat (first | go_big_quiet_skip | (go_big_quiet_want; first | (refine quiet_load_any 57 (.tmp 39) rfl (ad.add (k * 20)) rfl (encS r) _ ?_ Tryz.underlying57 rfl s57 ?_; (rintro _ ⟨z, rfl⟩; exact HCE z); simp only [Act.put, List.setIfInBounds_toArray, List.set_cons_zero, List.set_cons_succ]; go_big_quiet_on) | (go_big_quiet_op; first | go_big_quiet_on | (apply Exists.intro; refine ⟨fun z => ?_, ?_⟩; (focus (exact HTL.out z; done)); go_big_quiet_on))))
                refine wpQuiet_nil ?_
                rintro _ ⟨z, rfl⟩
                have HN : Aside0 ((l.take (k + 1)).all (sq m x b) = true) := ⟨by rw [HTK.out, HQ.out, hq, h5, h6]; rfl⟩
                have HWZ := Aside0.mk (below_step HW.out z.h)
                clear HNO HTK hq HCE y17 y18 x18 x19
                go_wp2_with (fail)
                go_roundw
                case rel => exact ⟨k + 1, hlt, by go_simp, HN, HWZ⟩
                case measure => simp [intOf]; omega
              | true =>
                have HTL : ∀ z : Up wr, Calls Tryz.prog 75 #[aggS r, .string x] z.w fun e' w' => e' = .returned (.bool true) ∧ ∃ u : Up wr, w' = u.w := fun z => z.calls (h6 ▸ took_calls r x z.w (HRD.out.below z.h) HLN.out.1)
                have HTL := Aside0.mk HTL
                by_cases h7 : m.e < r.b
                · have d7 : decide (m.e < r.b) = true := decide_eq_true h7
                  by_cases h8 : r.e < b
                  · have d8 : decide (r.e < b) = true := decide_eq_true h8
                    go_wp2_with (fail)
                    refine wp_region_up (by kernel_rfl) (by kernel_rfl) ?_
                    repeat (first | go_big_quiet_skip | (go_big_quiet_want; first | (refine quiet_load_any 57 (.tmp 39) rfl (ad.add (k * 20)) rfl (encS r) _ ?_ Tryz.underlying57 rfl s57 ?_; (rintro _ ⟨z, rfl⟩; exact HCE z); simp only [Act.put, List.setIfInBounds_toArray, List.set_cons_zero, List.set_cons_succ]; go_big_quiet_on) | (go_big_quiet_op; first | go_big_quiet_on | (apply Exists.intro; refine ⟨fun z => ?_, ?_⟩; (focus (exact HTL.out z; done)); go_big_quiet_on))))
                    refine wpQuiet_nil ?_
                    rintro _ ⟨z, rfl⟩
                    have HBZ := Aside0.mk (below_step HBW.out z.h)
                    clear HCE y17 y18 x18 x19
                    go_wp2_with (fail)
                    go_ret
                    exact ⟨by rw [seenP_sq, HNO.out (by rw [hq, h5, h6, d7, d8]; rfl), Bool.and_false, Bool.and_false]; rfl, HBZ.out⟩
                  · have d8 : decide (r.e < b) = false := decide_eq_false h8
                    go_wp2_with (fail)
                    refine wp_region_up (by kernel_rfl) (by kernel_rfl) ?_
                    repeat (first | go_big_quiet_skip | (go_big_quiet_want; first | (refine quiet_load_any 57 (.tmp 39) rfl (ad.add (k * 20)) rfl (encS r) _ ?_ Tryz.underlying57 rfl s57 ?_; (rintro _ ⟨z, rfl⟩; exact HCE z); simp only [Act.put, List.setIfInBounds_toArray, List.set_cons_zero, List.set_cons_succ]; go_big_quiet_on) | (go_big_quiet_op; first | go_big_quiet_on | (apply Exists.intro; refine ⟨fun z => ?_, ?_⟩; (focus (exact HTL.out z; done)); go_big_quiet_on))))
                    refine wpQuiet_nil ?_
                    rintro _ ⟨z, rfl⟩
                    have HN : Aside0 ((l.take (k + 1)).all (sq m x b) = true) := ⟨by rw [HTK.out, HQ.out, hq, h5, h6, d7, d8]; rfl⟩
                    have HWZ := Aside0.mk (below_step HW.out z.h)
                    clear HNO HTK hq HCE y17 y18 x18 x19
                    go_wp2_with (fail)
                    go_roundw
                    case rel => exact ⟨k + 1, hlt, by go_simp, HN, HWZ⟩
                    case measure => simp [intOf]; omega
                · have d7 : decide (m.e < r.b) = false := decide_eq_false h7
                  go_wp2_with (fail)
                  refine wp_region_up (by kernel_rfl) (by kernel_rfl) ?_
                  repeat (first | go_big_quiet_skip | (go_big_quiet_want; first | (refine quiet_load_any 57 (.tmp 39) rfl (ad.add (k * 20)) rfl (encS r) _ ?_ Tryz.underlying57 rfl s57 ?_; (rintro _ ⟨z, rfl⟩; exact HCE z); simp only [Act.put, List.setIfInBounds_toArray, List.set_cons_zero, List.set_cons_succ]; go_big_quiet_on) | (go_big_quiet_op; first | go_big_quiet_on | (apply Exists.intro; refine ⟨fun z => ?_, ?_⟩; (focus (exact HTL.out z; done)); go_big_quiet_on))))
                  refine wpQuiet_nil ?_
                  rintro _ ⟨z, rfl⟩
                  have HN : Aside0 ((l.take (k + 1)).all (sq m x b) = true) := ⟨by rw [HTK.out, HQ.out, hq, h5, h6, d7]; rfl⟩
                  have HWZ := Aside0.mk (below_step HW.out z.h)
                  clear HNO HTK hq HCE y17 y18 x18 x19
                  go_wp2_with (fail)
                  go_roundw
                  case rel => exact ⟨k + 1, hlt, by go_simp, HN, HWZ⟩
                  case measure => simp [intOf]; omega
          · obtain rfl : k = l.length := by omega
            go_wp2_with (fail)
            go_ret
            exact ⟨by rw [seenP_sq, h1, h2, decide_eq_true h3]; have := HQ.out; rw [List.take_length] at this; rw [this]; rfl, HBW.out⟩
      · have d3 : decide (m.b ≥ e) = true := decide_eq_true (by omega)
        have d3' : e ≤ m.b := by omega
        go_wp2_with (fail)
        go_ret
        exact ⟨by rw [seenP_sq, h1, h2, decide_eq_false (by omega : ¬ m.b < e)]; rfl, HB2.out⟩
end Go.Proofs.YtkicenkljjpcfaaGreatDoor.Q
/- The reference's id and restored, walked. -/
set_option linter.unusedSimpArgs false
namespace Go.Proofs.YtkicenkljjpcfaaGreatDoor.Q
open Go.RowKit Go.Proofs.YtkicenkljjpcfaaGreatDoorW.PrintWords Go.Proofs.YtkicenkljjpcfaaGreatDoorW.PrintLast Go.Proofs.YtkicenkljjpcfaaGreatDoorW.PrintMore
theorem s28 : (Tryz.prog.info? 28).map (·.size) = some 10 := by kernel_rfl
abbrev encC (c : Cm) : List Value := [.int .i64 c.kind, .slice c.eA c.eN c.eC, .int .i64 c.time, .string c.host, .string c.parent, .slice c.iA c.iN c.iC, .string c.path, .slice c.uA c.uN c.uC, .int .i64 c.percent, .bool c.rd]
abbrev aggC (c : Cm) : Value := .agg #[.int .i64 c.kind, .slice c.eA c.eN c.eC, .int .i64 c.time, .string c.host, .string c.parent, .slice c.iA c.iN c.iC, .string c.path, .slice c.uA c.uN c.uC, .int .i64 c.percent, .bool c.rd]
def idP (c : Cm) : ByteArray := c.ids.headD ⟨#[]⟩
set_option maxHeartbeats 4000000 in
set_option maxRecDepth 100000 in
theorem id_calls (c : Cm) (w : World) (h : RdC w c) : Calls Tryz.prog 65 #[aggC c] w fun e w' => e = .returned (.string (idP c)) ∧ Below w.heap.size w w' := by
  have HB : Aside0 (Below w.heap.size w (w.alloc (.cells #[.int .i64 c.kind, .slice c.eA c.eN c.eC, .int .i64 c.time, .string c.host, .string c.parent, .slice c.iA c.iN c.iC, .string c.path, .slice c.uA c.uN c.uC, .int .i64 c.percent, .bool c.rd] 28))) := ⟨below_alloc (Below.refl _ _) _⟩
  have HI := Aside0.mk h
  clear h
  have hl := HI.out.ids.2.1
  cases hq : c.ids with
  | nil =>
    have hn : c.iN = 0 := by rw [hq] at hl; exact hl.symm
    have e1 : (c.iN : Int) = 0 := by omega
    have e2 : ((c.iN : Int) == 0) = true := beq_iff_eq.2 e1
    clear hn e1 hl
    go_enter Tryz.func65, Tryz.ntmps65
    go_wp2_with (fail)
    go_ret
    exact ⟨by unfold idP; rw [hq]; rfl, HB.out⟩
  | cons x xs =>
    have hn : 0 < c.iN := by rw [hq] at hl; simp at hl; omega
    have e1 : ¬ (c.iN : Int) = 0 := by omega
    have e2 : ((c.iN : Int) == 0) = false := beq_eq_false_iff_ne.2 e1
    have e4 : (0 : Int) < (c.iN : Int) := by omega
    clear hl e1
    go_enter Tryz.func65, Tryz.ntmps65
    go_upto_region 1 with (fail)
    have HK0 : Aside0 ((w.alloc (.cells #[.int .i64 c.kind, .slice c.eA c.eN c.eC, .int .i64 c.time, .string c.host, .string c.parent, .slice c.iA c.iN c.iC, .string c.path, .slice c.uA c.uN c.uC, .int .i64 c.percent, .bool c.rd] 28)).heap[w.heap.size]? = some (.cells (encC c).toArray 28 (0, 0))) := ⟨(MapKept.heap_alloc w _).1⟩
    generalize (w.alloc (.cells #[.int .i64 c.kind, .slice c.eA c.eN c.eC, .int .i64 c.time, .string c.host, .string c.parent, .slice c.iA c.iN c.iC, .string c.path, .slice c.uA c.uN c.uC, .int .i64 c.percent, .bool c.rd] 28)) = W0 at HB HK0 ⊢
    obtain ⟨ad, hA, hx⟩ := Kd.at_string HI.out.ids.2.2 (0 : Int) (by omega) (by omega)
    have hr : rdOf ByteArray.empty c.ids 0 = x := by rw [hq]; rfl
    rw [hr] at hx
    have hz : ad.add (0 : Int).toNat = ad := by unfold Addr.add; simp
    rw [hz] at hx
    have hx2 := pw_cell_below HB.out hx
    have k5 : W0.cell? ⟨w.heap.size, 5, none⟩ = some (.slice (some ad) c.iN c.iC) := (blk_cell HK0.out 5).trans (by rw [← hA]; rfl)
    go_wp2_with (fail)
    go_ret
    exact ⟨by unfold idP; rw [hq]; rfl, HB.out⟩
def neP (s : ByteArray) : Bool := !(s.toList == ([] : List UInt8))
def rq (l : List Sp) (s m : Sp) : Bool := seenP l m (idP s.c) s.b s.e && eqE (partP m.c.ents s.c.path) s.r.rents
def restoredP (l : List Sp) (s : Sp) : Bool := (neP s.c.path && s.r.fN == 0) || !(l.any fun m => seenP l m (idP s.c) s.b s.e && eqE (partP m.c.ents s.c.path) s.r.rents)
theorem restoredP_rq (l : List Sp) (s : Sp) : restoredP l s = ((neP s.c.path && s.r.fN == 0) || !(l.any (rq l s))) := rfl
theorem prefix_get {s : Sp} {j : Nat} {v : Value} (h : (encC s.c)[j]? = some v) : (encS s)[j]? = some v := by
  have hj : j < 10 := (List.getElem?_eq_some_iff.1 h).1
  rcases j with _ | _ | _ | _ | _ | _ | _ | _ | _ | _ | j <;> first | exact h | omega
set_option maxHeartbeats 8000000 in
set_option maxRecDepth 100000 in
theorem restored_calls (A : Option Addr) (c : Nat) (l : List Sp) (s : Sp) (w : World) (h : CS w A l) (hl : l.length ≤ 10000) (hs : ∀ s ∈ l, LenS s) (hr : RdS w s) (hls : LenS s) :
    Calls Tryz.prog 37 #[.slice A l.length c, aggS s] w fun e' w' => e' = .returned (.bool (restoredP l s)) ∧ Below w.heap.size w w' := by
  have HC := Aside0.mk h
  have HS := Aside0.mk hs
  have HR := Aside0.mk hr
  have HB0 : Aside0 (Below w.heap.size w (w.alloc (.cells #[.int .i64 s.c.kind, .slice s.c.eA s.c.eN s.c.eC, .int .i64 s.c.time, .string s.c.host, .string s.c.parent, .slice s.c.iA s.c.iN s.c.iC, .string s.c.path, .slice s.c.uA s.c.uN s.c.uC, .int .i64 s.c.percent, .bool s.c.rd, .int .i64 s.r.code, .string s.r.id, .int .i64 s.r.n, .slice s.r.jA s.r.jN s.r.jC, .slice s.r.tA s.r.tN s.r.tC, .slice s.r.fA s.r.fN s.r.fC, .slice s.r.sA s.r.sN s.r.sC, .int .i64 s.b, .int .i64 s.e, .bool s.op] 57))) := ⟨below_alloc (Below.refl _ _) _⟩
  have HK0 : Aside0 ((w.alloc (.cells #[.int .i64 s.c.kind, .slice s.c.eA s.c.eN s.c.eC, .int .i64 s.c.time, .string s.c.host, .string s.c.parent, .slice s.c.iA s.c.iN s.c.iC, .string s.c.path, .slice s.c.uA s.c.uN s.c.uC, .int .i64 s.c.percent, .bool s.c.rd, .int .i64 s.r.code, .string s.r.id, .int .i64 s.r.n, .slice s.r.jA s.r.jN s.r.jC, .slice s.r.tA s.r.tN s.r.tC, .slice s.r.fA s.r.fN s.r.fC, .slice s.r.sA s.r.sN s.r.sC, .int .i64 s.b, .int .i64 s.e, .bool s.op] 57)).heap[w.heap.size]? = some (.cells (encS s).toArray 57 (0, 0))) := ⟨(MapKept.heap_alloc w _).1⟩
  clear h hs hr
  go_enter Tryz.func37, Tryz.ntmps37
  go_upto_region 1 with (fail)
  generalize (w.alloc (.cells #[.int .i64 s.c.kind, .slice s.c.eA s.c.eN s.c.eC, .int .i64 s.c.time, .string s.c.host, .string s.c.parent, .slice s.c.iA s.c.iN s.c.iC, .string s.c.path, .slice s.c.uA s.c.uN s.c.uC, .int .i64 s.c.percent, .bool s.c.rd, .int .i64 s.r.code, .string s.r.id, .int .i64 s.r.n, .slice s.r.jA s.r.jN s.r.jC, .slice s.r.tA s.r.tN s.r.tC, .slice s.r.fA s.r.fN s.r.fC, .slice s.r.sA s.r.sN s.r.sC, .int .i64 s.b, .int .i64 s.e, .bool s.op] 57)) = W0 at HB0 HK0 ⊢
  obtain ⟨g, hg⟩ : ∃ g, g = w.heap.size := ⟨_, rfl⟩
  rw [← hg] at HK0 ⊢
  clear hg
  have k6 : W0.cell? ⟨g, 6, none⟩ = some (.string s.c.path) := (blk_cell HK0.out 6).trans rfl
  have k15 : W0.cell? ⟨g, 15, none⟩ = some (.slice s.r.fA s.r.fN s.r.fC) := (blk_cell HK0.out 15).trans rfl
  cases h1 : neP s.c.path with
  | false =>
    have q1 : (s.c.path.toList == ([] : List UInt8)) = true := by unfold neP at h1; simpa using h1
    go_wp2_with (((with_reducible refine gate_dst (N := 19) rfl ?_); refine wpList_load_any (by rfl) 28 (.tmp 18) rfl ⟨g, 0, none⟩ rfl (encC s.c) _ (fun j v hv => cells_blk HK0.out j v (prefix_get hv)) Tryz.underlying28 rfl s28 ?_))
    refine (id_calls s.c _ (HR.out.1.below HB0.out)).mono ?_
    rintro e1 w1 ⟨rfl, hB⟩
    have HB1 := Aside0.mk (below_step HB0.out hB)
    have HK1 := Aside0.mk (blk_below HK0.out hB)
    clear hB HB0 HK0 k6 k15
    go_wp2_with (fail)
    go_loopw [6] (fun v6 wr => ∃ k : Nat, k ≤ l.length ∧ v6 = .int .i64 k ∧ Aside0 ((l.take k).any (rq l s) = false) ∧ Aside0 (Below w1.heap.size w1 wr)) (fun v6 _ => l.length - (intOf v6).toNat)
    case atStart => exact ⟨0, Nat.zero_le _, rfl, ⟨rfl⟩, ⟨Below.refl _ _⟩⟩
    case round =>
      obtain ⟨k, hk, rfl, HQ, HW⟩ := hrel
      have HBW := Aside0.mk (below_step HB1.out HW.out)
      have HKW := Aside0.mk (blk_below HK1.out HW.out)
      by_cases hlt : k < l.length
      · obtain ⟨m, hm⟩ : ∃ r, l[k]? = some r := ⟨_, List.getElem?_eq_getElem hlt⟩
        have hrm : m ∈ l := List.mem_of_getElem? hm
        obtain ⟨ad, rfl, hcell⟩ := cellsS (HC.out.below HBW.out).1 k hlt m hm
        have HCE : ∀ (z : Up wr) j v, (encS m)[j]? = some v → z.w.cell? ((ad.add (k * 20)).add j) = some v := fun z j v hv => pw_cell_below z.h (hcell j v hv)
        have HRD := Aside0.mk ((HC.out.below HBW.out).2 m hrm)
        have HLN := Aside0.mk (HS.out m hrm)
        have HTK := Aside0.mk (any_take (rq l s) l k m hm)
        have HYE : Aside0 (rq l s m = true → l.any (rq l s) = true) := ⟨fun hq => List.any_eq_true.2 ⟨m, hrm, hq⟩⟩
        have y1 : ∀ z : Up wr, z.w.cell? ⟨(ad.add (k * 20)).block, (ad.add (k * 20)).off + 1, none⟩ = some (.slice m.c.eA m.c.eN m.c.eC) := fun z => (addf ad (k * 20) 1 (by omega)) ▸ HCE z 1 _ rfl
        have x6 : ∀ z : Up wr, z.w.cell? ⟨g, 6, none⟩ = some (.string s.c.path) := fun z => (blk_cell (blk_below HKW.out z.h) 6).trans rfl
        have x15 : ∀ z : Up wr, z.w.cell? ⟨g, 15, none⟩ = some (.slice s.r.fA s.r.fN s.r.fC) := fun z => (blk_cell (blk_below HKW.out z.h) 15).trans rfl
        have x17 : ∀ z : Up wr, z.w.cell? ⟨g, 17, none⟩ = some (.int .i64 s.b) := fun z => (blk_cell (blk_below HKW.out z.h) 17).trans rfl
        have x18 : ∀ z : Up wr, z.w.cell? ⟨g, 18, none⟩ = some (.int .i64 s.e) := fun z => (blk_cell (blk_below HKW.out z.h) 18).trans rfl
        clear hcell hrm hm
        have hml : k < maxLen := by unfold maxLen; omega
        cases h5 : seenP l m (idP s.c) s.b s.e with
        | false =>
          have HSE : ∀ z : Up wr, Calls Tryz.prog 66 #[.slice (some ad) l.length c, aggS m, .string (idP s.c), .int .i64 s.b, .int .i64 s.e] z.w fun e' w' => e' = .returned (.bool false) ∧ ∃ u : Up wr, w' = u.w := fun z => z.calls (h5 ▸ seen_calls (some ad) c l m (idP s.c) s.b s.e z.w ((HC.out.below HBW.out).below z.h) hl HS.out)
          have HSE := Aside0.mk HSE
          go_wp2_with (fail)
          refine wp_region_up (by kernel_rfl) (by kernel_rfl) ?_
          repeat (first | go_big_quiet_skip | (go_big_quiet_want; first | (refine quiet_load_any 57 (.tmp 30) rfl (ad.add (k * 20)) rfl (encS m) _ ?_ Tryz.underlying57 rfl s57 ?_; (rintro _ ⟨z, rfl⟩; exact HCE z); simp only [Act.put, List.setIfInBounds_toArray, List.set_cons_zero, List.set_cons_succ]; go_big_quiet_on) | (go_big_quiet_op; first | go_big_quiet_on | (apply Exists.intro; refine ⟨fun z => ?_, ?_⟩; (focus (exact HSE.out z; done)); go_big_quiet_on))))
          refine wpQuiet_nil ?_
          rintro _ ⟨z, rfl⟩
          have HN : Aside0 ((l.take (k + 1)).any (rq l s) = false) := ⟨by rw [HTK.out, HQ.out]; show (false || (seenP l m (idP s.c) s.b s.e && _)) = false; rw [h5]; rfl⟩
          have HWZ := Aside0.mk (below_step HW.out z.h)
          clear HTK HCE y1 x6 x15 x17 x18 HYE
          go_wp2_with (fail)
          go_roundw
          case rel => exact ⟨k + 1, hlt, by go_simp, HN, HWZ⟩
          case measure => simp [intOf]; omega
        | true =>
          go_wp2_with (fail)
          refine start_ (n := 27) (ds := ([] : List Nat)) (S := fun w' => ∃ z : Up wr, w' = z.w) #[false, false, false, false, false, false, false, false, false, false, false, false, false, false, false, false, false, false, false, false, false, false, false, false, false, false, false] (by kernel_rfl) rfl rfl ⟨⟨_, below_drew (Below.refl _ _)⟩, rfl⟩ (fun hHeld => ?_)
          refine take_ (i := 0) (N := (some 27)) (v := ?_) (a' := ?_) #[true, false, false, false, false, false, false, false, false, false, false, false, false, false, false, false, false, false, false, false, false, false, false, false, false, false, false] rfl rfl (by kernel_rfl) (fun _ _ _ h => h) (Or.inl ⟨by rfl, ?_⟩) hHeld ?_ ?_
          rotate_left
          · rintro w' ⟨z, rfl⟩
            go_simp
            try with_reducible rfl
          rotate_left
          · simp only [Act.put, List.setIfInBounds_toArray, List.set_cons_zero, List.set_cons_succ, i64_w, i32_w]
            rfl
          refine take_ (i := 1) (N := (some 28)) (v := ?_) (a' := ?_) #[true, true, false, false, false, false, false, false, false, false, false, false, false, false, false, false, false, false, false, false, false, false, false, false, false, false, false] rfl rfl (by kernel_rfl) (fun _ _ _ h => h) (Or.inl ⟨by rfl, ?_⟩) hHeld ?_ ?_
          rotate_left
          · rintro w' ⟨z, rfl⟩
            go_simp
            try with_reducible rfl
          rotate_left
          · simp only [Act.put, List.setIfInBounds_toArray, List.set_cons_zero, List.set_cons_succ, i64_w, i32_w]
            rfl
          refine take_ (i := 2) (N := (some 29)) (v := ?_) (a' := ?_) #[true, true, true, false, false, false, false, false, false, false, false, false, false, false, false, false, false, false, false, false, false, false, false, false, false, false, false] rfl rfl (by kernel_rfl) (fun _ _ _ h => h) (Or.inl ⟨by rfl, ?_⟩) hHeld ?_ ?_
          rotate_left
          · rintro w' ⟨z, rfl⟩
            go_simp
            try with_reducible rfl
          rotate_left
          · simp only [Act.put, List.setIfInBounds_toArray, List.set_cons_zero, List.set_cons_succ, i64_w, i32_w]
            rfl
          refine take_ (i := 3) (N := (some 30)) (v := ?_) (a' := ?_) #[true, true, true, true, false, false, false, false, false, false, false, false, false, false, false, false, false, false, false, false, false, false, false, false, false, false, false] rfl rfl (by kernel_rfl) (fun _ _ _ h => h) (Or.inl ⟨by rfl, ?_⟩) hHeld ?_ ?_
          rotate_left
          · rintro w' ⟨z, rfl⟩
            go_simp
            try with_reducible rfl
          rotate_left
          · simp only [Act.put, List.setIfInBounds_toArray, List.set_cons_zero, List.set_cons_succ, i64_w, i32_w]
            rfl
          refine take_ (i := 4) (N := (some 31)) (v := .agg (encS m).toArray) (a' := ?_) #[true, true, true, true, true, false, false, false, false, false, false, false, false, false, false, false, false, false, false, false, false, false, false, false, false, false, false] rfl rfl (by kernel_rfl) (fun _ _ _ h => h) (yieldsIf_load_any (by rfl) 57 (.tmp 30) rfl (ad.add (k * 20)) rfl (encS m) _ (by rintro _ ⟨z, rfl⟩; exact HCE z) Tryz.underlying57 rfl s57) hHeld ?_ ?_
          rotate_left
          · simp only [Act.put, List.setIfInBounds_toArray, List.set_cons_zero, List.set_cons_succ, i64_w, i32_w]
            rfl
          refine take_ (i := 5) (N := (some 32)) (v := ?_) (a' := ?_) #[true, true, true, true, true, true, false, false, false, false, false, false, false, false, false, false, false, false, false, false, false, false, false, false, false, false, false] rfl rfl (by kernel_rfl) (fun _ _ _ h => h) (Or.inl ⟨by rfl, ?_⟩) hHeld ?_ ?_
          rotate_left
          · rintro w' ⟨z, rfl⟩
            go_simp
            try with_reducible rfl
          rotate_left
          · simp only [Act.put, List.setIfInBounds_toArray, List.set_cons_zero, List.set_cons_succ, i64_w, i32_w]
            rfl
          refine take_ (i := 6) (N := (some 33)) (v := ?_) (a' := ?_) #[true, true, true, true, true, true, true, false, false, false, false, false, false, false, false, false, false, false, false, false, false, false, false, false, false, false, false] rfl rfl (by kernel_rfl) (fun _ _ _ h => h) (Or.inl ⟨by rfl, ?_⟩) hHeld ?_ ?_
          rotate_left
          · rintro w' ⟨z, rfl⟩
            go_simp
            try with_reducible rfl
          rotate_left
          · simp only [Act.put, List.setIfInBounds_toArray, List.set_cons_zero, List.set_cons_succ, i64_w, i32_w]
            rfl
          refine take_ (i := 7) (N := (some 34)) (v := ?_) (a' := ?_) #[true, true, true, true, true, true, true, true, false, false, false, false, false, false, false, false, false, false, false, false, false, false, false, false, false, false, false] rfl rfl (by kernel_rfl) (fun _ _ _ h => h) (Or.inl ⟨by rfl, ?_⟩) hHeld ?_ ?_
          rotate_left
          · rintro w' ⟨z, rfl⟩
            go_simp
            try with_reducible rfl
          rotate_left
          · simp only [Act.put, List.setIfInBounds_toArray, List.set_cons_zero, List.set_cons_succ, i64_w, i32_w]
            rfl
          refine take_ (i := 8) (N := (some 35)) (v := ?_) (a' := ?_) #[true, true, true, true, true, true, true, true, true, false, false, false, false, false, false, false, false, false, false, false, false, false, false, false, false, false, false] rfl rfl (by kernel_rfl) (fun _ _ _ h => h) (Or.inl ⟨by rfl, ?_⟩) hHeld ?_ ?_
          rotate_left
          · rintro w' ⟨z, rfl⟩
            go_simp
            try with_reducible rfl
          rotate_left
          · simp only [Act.put, List.setIfInBounds_toArray, List.set_cons_zero, List.set_cons_succ, i64_w, i32_w]
            rfl
          refine take_ (i := 9) (N := (some 36)) (v := ?_) (a' := ?_) #[true, true, true, true, true, true, true, true, true, true, false, false, false, false, false, false, false, false, false, false, false, false, false, false, false, false, false] rfl rfl (by kernel_rfl) (fun _ _ _ h => h) (Or.inl ⟨by rfl, ?_⟩) hHeld ?_ ?_
          rotate_left
          · rintro w' ⟨z, rfl⟩
            go_simp
            try with_reducible rfl
          rotate_left
          · simp only [Act.put, List.setIfInBounds_toArray, List.set_cons_zero, List.set_cons_succ, i64_w, i32_w]
            rfl
          refine one_ (i := 10) (N := (some 37)) #[true, true, true, true, true, true, true, true, true, true, true, false, false, false, false, false, false, false, false, false, false, false, false, false, false, false, false] rfl rfl (by kernel_rfl) (by decide) (fun K hK => ?_)
          refine goes_ Tryz.func66 (by kernel_rfl) rfl #[.slice (some ad) l.length c, .agg (encS m).toArray, .string (idP s.c), .int .i64 s.b, .int .i64 s.e] (by rfl) rfl rfl (by (try simp only [List.map_toArray, List.map_cons, List.map_nil]); first | done | rfl) ?_
          refine (seen_calls (some ad) c l m (idP s.c) s.b s.e _ ((HC.out.below HBW.out).below (below_drew (Below.refl _ _))) hl HS.out).mono ?_
          rintro e2 w2 ⟨rfl, hB⟩
          have HW2 : Below wr.heap.size wr w2 := below_step (below_drew (Below.refl _ _)) hB
          clear hB
          rw [h5]
          refine ⟨_, rfl, ?_⟩
          refine hK.out _ _ ⟨⟨_, HW2⟩, rfl⟩ (fun hHeld => ?_)
          clear hK K
          refine norm_ (a' := ?_) ?_ ?_
          rotate_left
          · show Act.put _ (some 37) _ = _
            simp only [Act.put, List.setIfInBounds_toArray, List.set_cons_zero, List.set_cons_succ, i64_w, i32_w]
            rfl
          refine take_ (i := 11) (N := (some 38)) (v := ?_) (a' := ?_) #[true, true, true, true, true, true, true, true, true, true, true, true, false, false, false, false, false, false, false, false, false, false, false, false, false, false, false] rfl rfl (by kernel_rfl) (fun _ _ _ h => h) (Or.inl ⟨by rfl, ?_⟩) hHeld ?_ ?_
          rotate_left
          · rintro w' ⟨z, rfl⟩
            go_simp
            try with_reducible rfl
          rotate_left
          · simp only [Act.put, List.setIfInBounds_toArray, List.set_cons_zero, List.set_cons_succ, i64_w, i32_w]
            rfl
          refine take_ (i := 12) (N := (some 39)) (v := ?_) (a' := ?_) #[true, true, true, true, true, true, true, true, true, true, true, true, true, false, false, false, false, false, false, false, false, false, false, false, false, false, false] rfl rfl (by kernel_rfl) (fun _ _ _ h => h) (Or.inl ⟨by rfl, ?_⟩) hHeld ?_ ?_
          rotate_left
          · rintro w' ⟨z, rfl⟩
            go_simp
            try with_reducible rfl
          rotate_left
          · simp only [Act.put, List.setIfInBounds_toArray, List.set_cons_zero, List.set_cons_succ, i64_w, i32_w]
            rfl
          refine take_ (i := 13) (N := (some 40)) (v := ?_) (a' := ?_) #[true, true, true, true, true, true, true, true, true, true, true, true, true, true, false, false, false, false, false, false, false, false, false, false, false, false, false] rfl rfl (by kernel_rfl) (fun _ _ _ h => h) (Or.inl ⟨by rfl, ?_⟩) hHeld ?_ ?_
          rotate_left
          · rintro w' ⟨z, rfl⟩
            go_simp
            try with_reducible rfl
          rotate_left
          · simp only [Act.put, List.setIfInBounds_toArray, List.set_cons_zero, List.set_cons_succ, i64_w, i32_w]
            rfl
          refine take_ (i := 14) (N := (some 41)) (v := ?_) (a' := ?_) #[true, true, true, true, true, true, true, true, true, true, true, true, true, true, true, false, false, false, false, false, false, false, false, false, false, false, false] rfl rfl (by kernel_rfl) (fun _ _ _ h => h) (Or.inl ⟨by rfl, ?_⟩) hHeld ?_ ?_
          rotate_left
          · rintro w' ⟨z, rfl⟩
            go_simp
            try with_reducible rfl
          rotate_left
          · simp only [Act.put, List.setIfInBounds_toArray, List.set_cons_zero, List.set_cons_succ, i64_w, i32_w]
            rfl
          refine take_ (i := 15) (N := (some 42)) (v := ?_) (a' := ?_) #[true, true, true, true, true, true, true, true, true, true, true, true, true, true, true, true, false, false, false, false, false, false, false, false, false, false, false] rfl rfl (by kernel_rfl) (fun _ _ _ h => h) (Or.inl ⟨by rfl, ?_⟩) hHeld ?_ ?_
          rotate_left
          · rintro w' ⟨z, rfl⟩
            go_simp
            try with_reducible rfl
          rotate_left
          · simp only [Act.put, List.setIfInBounds_toArray, List.set_cons_zero, List.set_cons_succ, i64_w, i32_w]
            rfl
          refine take_ (i := 16) (N := (some 43)) (v := ?_) (a' := ?_) #[true, true, true, true, true, true, true, true, true, true, true, true, true, true, true, true, true, false, false, false, false, false, false, false, false, false, false] rfl rfl (by kernel_rfl) (fun _ _ _ h => h) (Or.inl ⟨by rfl, ?_⟩) hHeld ?_ ?_
          rotate_left
          · rintro w' ⟨z, rfl⟩
            go_simp
            try with_reducible rfl
          rotate_left
          · simp only [Act.put, List.setIfInBounds_toArray, List.set_cons_zero, List.set_cons_succ, i64_w, i32_w]
            rfl
          refine take_ (i := 17) (N := (some 44)) (v := ?_) (a' := ?_) #[true, true, true, true, true, true, true, true, true, true, true, true, true, true, true, true, true, true, false, false, false, false, false, false, false, false, false] rfl rfl (by kernel_rfl) (fun _ _ _ h => h) (Or.inl ⟨by rfl, ?_⟩) hHeld ?_ ?_
          rotate_left
          · rintro w' ⟨z, rfl⟩
            go_simp
            try with_reducible rfl
          rotate_left
          · simp only [Act.put, List.setIfInBounds_toArray, List.set_cons_zero, List.set_cons_succ, i64_w, i32_w]
            rfl
          refine take_ (i := 18) (N := (some 45)) (v := ?_) (a' := ?_) #[true, true, true, true, true, true, true, true, true, true, true, true, true, true, true, true, true, true, true, false, false, false, false, false, false, false, false] rfl rfl (by kernel_rfl) (fun _ _ _ h => h) (Or.inl ⟨by rfl, ?_⟩) hHeld ?_ ?_
          rotate_left
          · rintro w' ⟨z, rfl⟩
            go_simp
            try with_reducible rfl
          rotate_left
          · simp only [Act.put, List.setIfInBounds_toArray, List.set_cons_zero, List.set_cons_succ, i64_w, i32_w]
            rfl
          refine take_ (i := 19) (N := (some 46)) (v := ?_) (a' := ?_) #[true, true, true, true, true, true, true, true, true, true, true, true, true, true, true, true, true, true, true, true, false, false, false, false, false, false, false] rfl rfl (by kernel_rfl) (fun _ _ _ h => h) (Or.inl ⟨by rfl, ?_⟩) hHeld ?_ ?_
          rotate_left
          · rintro w' ⟨z, rfl⟩
            go_simp
            try with_reducible rfl
          rotate_left
          · simp only [Act.put, List.setIfInBounds_toArray, List.set_cons_zero, List.set_cons_succ, i64_w, i32_w]
            rfl
          refine take_ (i := 20) (N := (some 47)) (v := ?_) (a' := ?_) #[true, true, true, true, true, true, true, true, true, true, true, true, true, true, true, true, true, true, true, true, true, false, false, false, false, false, false] rfl rfl (by kernel_rfl) (fun _ _ _ h => h) (Or.inl ⟨by rfl, ?_⟩) hHeld ?_ ?_
          rotate_left
          · rintro w' ⟨z, rfl⟩
            go_simp
            try with_reducible rfl
          rotate_left
          · simp only [Act.put, List.setIfInBounds_toArray, List.set_cons_zero, List.set_cons_succ, i64_w, i32_w]
            rfl
          refine take_ (i := 22) (N := (some 49)) (v := ?_) (a' := ?_) #[true, true, true, true, true, true, true, true, true, true, true, true, true, true, true, true, true, true, true, true, true, false, true, false, false, false, false] rfl rfl (by kernel_rfl) (fun _ _ _ h => h) (Or.inl ⟨by rfl, ?_⟩) hHeld ?_ ?_
          rotate_left
          · rintro w' ⟨z, rfl⟩
            go_simp
            try with_reducible rfl
          rotate_left
          · simp only [Act.put, List.setIfInBounds_toArray, List.set_cons_zero, List.set_cons_succ, i64_w, i32_w]
            rfl
          refine take_ (i := 23) (N := (some 50)) (v := ?_) (a' := ?_) #[true, true, true, true, true, true, true, true, true, true, true, true, true, true, true, true, true, true, true, true, true, false, true, true, false, false, false] rfl rfl (by kernel_rfl) (fun _ _ _ h => h) (Or.inl ⟨by rfl, ?_⟩) hHeld ?_ ?_
          rotate_left
          · rintro w' ⟨z, rfl⟩
            go_simp
            try with_reducible rfl
          rotate_left
          · simp only [Act.put, List.setIfInBounds_toArray, List.set_cons_zero, List.set_cons_succ, i64_w, i32_w]
            rfl
          refine take_ (i := 24) (N := (some 51)) (v := ?_) (a' := ?_) #[true, true, true, true, true, true, true, true, true, true, true, true, true, true, true, true, true, true, true, true, true, false, true, true, true, false, false] rfl rfl (by kernel_rfl) (fun _ _ _ h => h) (Or.inl ⟨by rfl, ?_⟩) hHeld ?_ ?_
          rotate_left
          · rintro w' ⟨z, rfl⟩
            go_simp
            try with_reducible rfl
          rotate_left
          · simp only [Act.put, List.setIfInBounds_toArray, List.set_cons_zero, List.set_cons_succ, i64_w, i32_w]
            rfl
          refine one_ (i := 21) (N := (some 48)) #[true, true, true, true, true, true, true, true, true, true, true, true, true, true, true, true, true, true, true, true, true, true, true, true, true, false, false] rfl rfl (by kernel_rfl) (by decide) (fun K hK => ?_)
          refine goes_ Tryz.func68 (by kernel_rfl) rfl #[.slice m.c.eA m.c.eN m.c.eC, .string s.c.path] (by rfl) rfl rfl (by (try simp only [List.map_toArray, List.map_cons, List.map_nil]); first | done | rfl) ?_
          refine (part_calls m.c.eA m.c.eC m.c.eN m.c.ents s.c.path _ (Kd.C_below HRD.out.1.ents.2.2 HW2) HRD.out.1.ents.2.1 HRD.out.1.ents.1 HLN.out.2.2.1 hls.2.2.2.2).mono ?_
          rintro e3 w3 ⟨v, rfl, hR, hB⟩
          obtain ⟨Ap, cp, rfl, hcp, hCp⟩ := Kd.R_reads hR
          have HW3 : Below wr.heap.size wr w3 := below_step HW2 hB
          clear hB hR
          refine ⟨_, rfl, ?_⟩
          refine hK.out _ _ ⟨⟨_, HW3⟩, rfl⟩ (fun hHeld => ?_)
          clear hK K
          refine norm_ (a' := ?_) ?_ ?_
          rotate_left
          · show Act.put _ (some 48) _ = _
            simp only [Act.put, List.setIfInBounds_toArray, List.set_cons_zero, List.set_cons_succ, i64_w, i32_w]
            rfl
          refine one_ (i := 25) (N := (some 52)) #[true, true, true, true, true, true, true, true, true, true, true, true, true, true, true, true, true, true, true, true, true, true, true, true, true, true, false] rfl rfl (by kernel_rfl) (by decide) (fun K hK => ?_)
          refine goes_ Tryz.func67 (by kernel_rfl) rfl #[.slice Ap (partP m.c.ents s.c.path).length cp, .slice s.r.fA s.r.fN s.r.fC] (by rfl) rfl rfl (by (try simp only [List.map_toArray, List.map_cons, List.map_nil]); first | done | rfl) ?_
          refine (same_calls Ap cp _ (partP m.c.ents s.c.path) s.r.fA s.r.fC s.r.fN s.r.rents _ hCp rfl hcp (Kd.C_below HR.out.2.ents.2.2 (below_step HBW.out HW3)) HR.out.2.ents.2.1 HR.out.2.ents.1 (Nat.le_trans (partP_len _ _) (by rw [HRD.out.1.ents.2.1]; exact HLN.out.2.2.1.1))).mono ?_
          rintro e4 w4 ⟨rfl, hB⟩
          have HW4 : Below wr.heap.size wr w4 := below_step HW3 hB
          clear hB
          obtain ⟨te, hte⟩ : ∃ te, te = eqE (partP m.c.ents s.c.path) s.r.rents := ⟨_, rfl⟩
          rw [← hte]
          have HTE := Aside0.mk hte
          clear hte
          refine ⟨_, rfl, ?_⟩
          refine hK.out _ _ ⟨⟨_, HW4⟩, rfl⟩ (fun hHeld => ?_)
          clear hK K
          refine norm_ (a' := ?_) ?_ ?_
          rotate_left
          · show Act.put _ (some 52) _ = _
            simp only [Act.put, List.setIfInBounds_toArray, List.set_cons_zero, List.set_cons_succ, i64_w, i32_w]
            rfl
          refine take_ (i := 26) (N := (some 53)) (v := ?_) (a' := ?_) #[true, true, true, true, true, true, true, true, true, true, true, true, true, true, true, true, true, true, true, true, true, true, true, true, true, true, true] rfl rfl (by kernel_rfl) (fun _ _ _ h => h) (Or.inl ⟨by rfl, ?_⟩) hHeld ?_ ?_
          rotate_left
          · rintro w' ⟨z, rfl⟩
            go_simp
            try with_reducible rfl
          rotate_left
          · simp only [Act.put, List.setIfInBounds_toArray, List.set_cons_zero, List.set_cons_succ, i64_w, i32_w]
            rfl
          refine done_ (by kernel_rfl) ?_
          have HW4 := Aside0.mk HW4
          have HBZ := Aside0.mk (below_step HBW.out HW4.out)
          have HWZ := Aside0.mk (below_step HW.out HW4.out)
          clear hHeld HCE y1 x6 x15 x17 x18 hCp HW3 HW2
          cases te with
          | false =>
            have HN : Aside0 ((l.take (k + 1)).any (rq l s) = false) := ⟨by rw [HTK.out, HQ.out]; show (false || (seenP l m (idP s.c) s.b s.e && eqE (partP m.c.ents s.c.path) s.r.rents)) = false; rw [h5, ← HTE.out]; rfl⟩
            clear HTK HYE
            go_wp2_with (fail)
            go_roundw
            case rel => exact ⟨k + 1, hlt, by go_simp, HN, HWZ⟩
            case measure => simp [intOf]; omega
          | true =>
            have HN : Aside0 (l.any (rq l s) = true) := ⟨HYE.out (by show (seenP l m (idP s.c) s.b s.e && eqE (partP m.c.ents s.c.path) s.r.rents) = true; rw [h5, ← HTE.out]; rfl)⟩
            go_wp2_with (fail)
            go_ret
            exact ⟨by rw [restoredP_rq, h1, HN.out]; rfl, HBZ.out⟩
      · obtain rfl : k = l.length := by omega
        have HN : Aside0 (l.any (rq l s) = false) := ⟨by have := HQ.out; rwa [List.take_length] at this⟩
        go_wp2_with (fail)
        go_ret
        exact ⟨by rw [restoredP_rq, h1, HN.out]; rfl, HBW.out⟩
  | true =>
    have q1 : (s.c.path.toList == ([] : List UInt8)) = false := by unfold neP at h1; simpa using h1
    by_cases h2 : s.r.fN = 0
    · have e1 : ((s.r.fN : Int) == 0) = true := beq_iff_eq.2 (by omega)
      have e2 : (s.r.fN == 0) = true := beq_iff_eq.2 h2
      have H2 := Aside0.mk e2
      clear h2 e2
      go_wp2_with (fail)
      go_ret
      exact ⟨by rw [restoredP_rq, h1, H2.out]; rfl, HB0.out⟩
    · have e1 : ((s.r.fN : Int) == 0) = false := beq_eq_false_iff_ne.2 (by omega)
      have e2 : (s.r.fN == 0) = false := beq_eq_false_iff_ne.2 h2
      have H2 := Aside0.mk e2
      clear h2 e2
      go_wp2_with (((with_reducible refine gate_dst (N := 19) rfl ?_); refine wpList_load_any (by rfl) 28 (.tmp 18) rfl ⟨g, 0, none⟩ rfl (encC s.c) _ (fun j v hv => cells_blk HK0.out j v (prefix_get hv)) Tryz.underlying28 rfl s28 ?_))
      refine (id_calls s.c _ (HR.out.1.below HB0.out)).mono ?_
      rintro e1 w1 ⟨rfl, hB⟩
      have HB1 := Aside0.mk (below_step HB0.out hB)
      have HK1 := Aside0.mk (blk_below HK0.out hB)
      clear hB HB0 HK0 k6 k15
      go_wp2_with (fail)
      go_loopw [6] (fun v6 wr => ∃ k : Nat, k ≤ l.length ∧ v6 = .int .i64 k ∧ Aside0 ((l.take k).any (rq l s) = false) ∧ Aside0 (Below w1.heap.size w1 wr)) (fun v6 _ => l.length - (intOf v6).toNat)
      case atStart => exact ⟨0, Nat.zero_le _, rfl, ⟨rfl⟩, ⟨Below.refl _ _⟩⟩
      case round =>
        obtain ⟨k, hk, rfl, HQ, HW⟩ := hrel
        have HBW := Aside0.mk (below_step HB1.out HW.out)
        have HKW := Aside0.mk (blk_below HK1.out HW.out)
        by_cases hlt : k < l.length
        · obtain ⟨m, hm⟩ : ∃ r, l[k]? = some r := ⟨_, List.getElem?_eq_getElem hlt⟩
          have hrm : m ∈ l := List.mem_of_getElem? hm
          obtain ⟨ad, rfl, hcell⟩ := cellsS (HC.out.below HBW.out).1 k hlt m hm
          have HCE : ∀ (z : Up wr) j v, (encS m)[j]? = some v → z.w.cell? ((ad.add (k * 20)).add j) = some v := fun z j v hv => pw_cell_below z.h (hcell j v hv)
          have HRD := Aside0.mk ((HC.out.below HBW.out).2 m hrm)
          have HLN := Aside0.mk (HS.out m hrm)
          have HTK := Aside0.mk (any_take (rq l s) l k m hm)
          have HYE : Aside0 (rq l s m = true → l.any (rq l s) = true) := ⟨fun hq => List.any_eq_true.2 ⟨m, hrm, hq⟩⟩
          have y1 : ∀ z : Up wr, z.w.cell? ⟨(ad.add (k * 20)).block, (ad.add (k * 20)).off + 1, none⟩ = some (.slice m.c.eA m.c.eN m.c.eC) := fun z => (addf ad (k * 20) 1 (by omega)) ▸ HCE z 1 _ rfl
          have x6 : ∀ z : Up wr, z.w.cell? ⟨g, 6, none⟩ = some (.string s.c.path) := fun z => (blk_cell (blk_below HKW.out z.h) 6).trans rfl
          have x15 : ∀ z : Up wr, z.w.cell? ⟨g, 15, none⟩ = some (.slice s.r.fA s.r.fN s.r.fC) := fun z => (blk_cell (blk_below HKW.out z.h) 15).trans rfl
          have x17 : ∀ z : Up wr, z.w.cell? ⟨g, 17, none⟩ = some (.int .i64 s.b) := fun z => (blk_cell (blk_below HKW.out z.h) 17).trans rfl
          have x18 : ∀ z : Up wr, z.w.cell? ⟨g, 18, none⟩ = some (.int .i64 s.e) := fun z => (blk_cell (blk_below HKW.out z.h) 18).trans rfl
          clear hcell hrm hm
          have hml : k < maxLen := by unfold maxLen; omega
          cases h5 : seenP l m (idP s.c) s.b s.e with
          | false =>
            have HSE : ∀ z : Up wr, Calls Tryz.prog 66 #[.slice (some ad) l.length c, aggS m, .string (idP s.c), .int .i64 s.b, .int .i64 s.e] z.w fun e' w' => e' = .returned (.bool false) ∧ ∃ u : Up wr, w' = u.w := fun z => z.calls (h5 ▸ seen_calls (some ad) c l m (idP s.c) s.b s.e z.w ((HC.out.below HBW.out).below z.h) hl HS.out)
            have HSE := Aside0.mk HSE
            go_wp2_with (fail)
            refine wp_region_up (by kernel_rfl) (by kernel_rfl) ?_
            repeat (first | go_big_quiet_skip | (go_big_quiet_want; first | (refine quiet_load_any 57 (.tmp 30) rfl (ad.add (k * 20)) rfl (encS m) _ ?_ Tryz.underlying57 rfl s57 ?_; (rintro _ ⟨z, rfl⟩; exact HCE z); simp only [Act.put, List.setIfInBounds_toArray, List.set_cons_zero, List.set_cons_succ]; go_big_quiet_on) | (go_big_quiet_op; first | go_big_quiet_on | (apply Exists.intro; refine ⟨fun z => ?_, ?_⟩; (focus (exact HSE.out z; done)); go_big_quiet_on))))
            refine wpQuiet_nil ?_
            rintro _ ⟨z, rfl⟩
            have HN : Aside0 ((l.take (k + 1)).any (rq l s) = false) := ⟨by rw [HTK.out, HQ.out]; show (false || (seenP l m (idP s.c) s.b s.e && _)) = false; rw [h5]; rfl⟩
            have HWZ := Aside0.mk (below_step HW.out z.h)
            clear HTK HCE y1 x6 x15 x17 x18 HYE
            go_wp2_with (fail)
            go_roundw
            case rel => exact ⟨k + 1, hlt, by go_simp, HN, HWZ⟩
            case measure => simp [intOf]; omega
          | true =>
            go_wp2_with (fail)
            refine start_ (n := 27) (ds := ([] : List Nat)) (S := fun w' => ∃ z : Up wr, w' = z.w) #[false, false, false, false, false, false, false, false, false, false, false, false, false, false, false, false, false, false, false, false, false, false, false, false, false, false, false] (by kernel_rfl) rfl rfl ⟨⟨_, below_drew (Below.refl _ _)⟩, rfl⟩ (fun hHeld => ?_)
            refine take_ (i := 0) (N := (some 27)) (v := ?_) (a' := ?_) #[true, false, false, false, false, false, false, false, false, false, false, false, false, false, false, false, false, false, false, false, false, false, false, false, false, false, false] rfl rfl (by kernel_rfl) (fun _ _ _ h => h) (Or.inl ⟨by rfl, ?_⟩) hHeld ?_ ?_
            rotate_left
            · rintro w' ⟨z, rfl⟩
              go_simp
              try with_reducible rfl
            rotate_left
            · simp only [Act.put, List.setIfInBounds_toArray, List.set_cons_zero, List.set_cons_succ, i64_w, i32_w]
              rfl
            refine take_ (i := 1) (N := (some 28)) (v := ?_) (a' := ?_) #[true, true, false, false, false, false, false, false, false, false, false, false, false, false, false, false, false, false, false, false, false, false, false, false, false, false, false] rfl rfl (by kernel_rfl) (fun _ _ _ h => h) (Or.inl ⟨by rfl, ?_⟩) hHeld ?_ ?_
            rotate_left
            · rintro w' ⟨z, rfl⟩
              go_simp
              try with_reducible rfl
            rotate_left
            · simp only [Act.put, List.setIfInBounds_toArray, List.set_cons_zero, List.set_cons_succ, i64_w, i32_w]
              rfl
            refine take_ (i := 2) (N := (some 29)) (v := ?_) (a' := ?_) #[true, true, true, false, false, false, false, false, false, false, false, false, false, false, false, false, false, false, false, false, false, false, false, false, false, false, false] rfl rfl (by kernel_rfl) (fun _ _ _ h => h) (Or.inl ⟨by rfl, ?_⟩) hHeld ?_ ?_
            rotate_left
            · rintro w' ⟨z, rfl⟩
              go_simp
              try with_reducible rfl
            rotate_left
            · simp only [Act.put, List.setIfInBounds_toArray, List.set_cons_zero, List.set_cons_succ, i64_w, i32_w]
              rfl
            refine take_ (i := 3) (N := (some 30)) (v := ?_) (a' := ?_) #[true, true, true, true, false, false, false, false, false, false, false, false, false, false, false, false, false, false, false, false, false, false, false, false, false, false, false] rfl rfl (by kernel_rfl) (fun _ _ _ h => h) (Or.inl ⟨by rfl, ?_⟩) hHeld ?_ ?_
            rotate_left
            · rintro w' ⟨z, rfl⟩
              go_simp
              try with_reducible rfl
            rotate_left
            · simp only [Act.put, List.setIfInBounds_toArray, List.set_cons_zero, List.set_cons_succ, i64_w, i32_w]
              rfl
            refine take_ (i := 4) (N := (some 31)) (v := .agg (encS m).toArray) (a' := ?_) #[true, true, true, true, true, false, false, false, false, false, false, false, false, false, false, false, false, false, false, false, false, false, false, false, false, false, false] rfl rfl (by kernel_rfl) (fun _ _ _ h => h) (yieldsIf_load_any (by rfl) 57 (.tmp 30) rfl (ad.add (k * 20)) rfl (encS m) _ (by rintro _ ⟨z, rfl⟩; exact HCE z) Tryz.underlying57 rfl s57) hHeld ?_ ?_
            rotate_left
            · simp only [Act.put, List.setIfInBounds_toArray, List.set_cons_zero, List.set_cons_succ, i64_w, i32_w]
              rfl
            refine take_ (i := 5) (N := (some 32)) (v := ?_) (a' := ?_) #[true, true, true, true, true, true, false, false, false, false, false, false, false, false, false, false, false, false, false, false, false, false, false, false, false, false, false] rfl rfl (by kernel_rfl) (fun _ _ _ h => h) (Or.inl ⟨by rfl, ?_⟩) hHeld ?_ ?_
            rotate_left
            · rintro w' ⟨z, rfl⟩
              go_simp
              try with_reducible rfl
            rotate_left
            · simp only [Act.put, List.setIfInBounds_toArray, List.set_cons_zero, List.set_cons_succ, i64_w, i32_w]
              rfl
            refine take_ (i := 6) (N := (some 33)) (v := ?_) (a' := ?_) #[true, true, true, true, true, true, true, false, false, false, false, false, false, false, false, false, false, false, false, false, false, false, false, false, false, false, false] rfl rfl (by kernel_rfl) (fun _ _ _ h => h) (Or.inl ⟨by rfl, ?_⟩) hHeld ?_ ?_
            rotate_left
            · rintro w' ⟨z, rfl⟩
              go_simp
              try with_reducible rfl
            rotate_left
            · simp only [Act.put, List.setIfInBounds_toArray, List.set_cons_zero, List.set_cons_succ, i64_w, i32_w]
              rfl
            refine take_ (i := 7) (N := (some 34)) (v := ?_) (a' := ?_) #[true, true, true, true, true, true, true, true, false, false, false, false, false, false, false, false, false, false, false, false, false, false, false, false, false, false, false] rfl rfl (by kernel_rfl) (fun _ _ _ h => h) (Or.inl ⟨by rfl, ?_⟩) hHeld ?_ ?_
            rotate_left
            · rintro w' ⟨z, rfl⟩
              go_simp
              try with_reducible rfl
            rotate_left
            · simp only [Act.put, List.setIfInBounds_toArray, List.set_cons_zero, List.set_cons_succ, i64_w, i32_w]
              rfl
            refine take_ (i := 8) (N := (some 35)) (v := ?_) (a' := ?_) #[true, true, true, true, true, true, true, true, true, false, false, false, false, false, false, false, false, false, false, false, false, false, false, false, false, false, false] rfl rfl (by kernel_rfl) (fun _ _ _ h => h) (Or.inl ⟨by rfl, ?_⟩) hHeld ?_ ?_
            rotate_left
            · rintro w' ⟨z, rfl⟩
              go_simp
              try with_reducible rfl
            rotate_left
            · simp only [Act.put, List.setIfInBounds_toArray, List.set_cons_zero, List.set_cons_succ, i64_w, i32_w]
              rfl
            refine take_ (i := 9) (N := (some 36)) (v := ?_) (a' := ?_) #[true, true, true, true, true, true, true, true, true, true, false, false, false, false, false, false, false, false, false, false, false, false, false, false, false, false, false] rfl rfl (by kernel_rfl) (fun _ _ _ h => h) (Or.inl ⟨by rfl, ?_⟩) hHeld ?_ ?_
            rotate_left
            · rintro w' ⟨z, rfl⟩
              go_simp
              try with_reducible rfl
            rotate_left
            · simp only [Act.put, List.setIfInBounds_toArray, List.set_cons_zero, List.set_cons_succ, i64_w, i32_w]
              rfl
            refine one_ (i := 10) (N := (some 37)) #[true, true, true, true, true, true, true, true, true, true, true, false, false, false, false, false, false, false, false, false, false, false, false, false, false, false, false] rfl rfl (by kernel_rfl) (by decide) (fun K hK => ?_)
            refine goes_ Tryz.func66 (by kernel_rfl) rfl #[.slice (some ad) l.length c, .agg (encS m).toArray, .string (idP s.c), .int .i64 s.b, .int .i64 s.e] (by rfl) rfl rfl (by (try simp only [List.map_toArray, List.map_cons, List.map_nil]); first | done | rfl) ?_
            refine (seen_calls (some ad) c l m (idP s.c) s.b s.e _ ((HC.out.below HBW.out).below (below_drew (Below.refl _ _))) hl HS.out).mono ?_
            rintro e2 w2 ⟨rfl, hB⟩
            have HW2 : Below wr.heap.size wr w2 := below_step (below_drew (Below.refl _ _)) hB
            clear hB
            rw [h5]
            refine ⟨_, rfl, ?_⟩
            refine hK.out _ _ ⟨⟨_, HW2⟩, rfl⟩ (fun hHeld => ?_)
            clear hK K
            refine norm_ (a' := ?_) ?_ ?_
            rotate_left
            · show Act.put _ (some 37) _ = _
              simp only [Act.put, List.setIfInBounds_toArray, List.set_cons_zero, List.set_cons_succ, i64_w, i32_w]
              rfl
            refine take_ (i := 11) (N := (some 38)) (v := ?_) (a' := ?_) #[true, true, true, true, true, true, true, true, true, true, true, true, false, false, false, false, false, false, false, false, false, false, false, false, false, false, false] rfl rfl (by kernel_rfl) (fun _ _ _ h => h) (Or.inl ⟨by rfl, ?_⟩) hHeld ?_ ?_
            rotate_left
            · rintro w' ⟨z, rfl⟩
              go_simp
              try with_reducible rfl
            rotate_left
            · simp only [Act.put, List.setIfInBounds_toArray, List.set_cons_zero, List.set_cons_succ, i64_w, i32_w]
              rfl
            refine take_ (i := 12) (N := (some 39)) (v := ?_) (a' := ?_) #[true, true, true, true, true, true, true, true, true, true, true, true, true, false, false, false, false, false, false, false, false, false, false, false, false, false, false] rfl rfl (by kernel_rfl) (fun _ _ _ h => h) (Or.inl ⟨by rfl, ?_⟩) hHeld ?_ ?_
            rotate_left
            · rintro w' ⟨z, rfl⟩
              go_simp
              try with_reducible rfl
            rotate_left
            · simp only [Act.put, List.setIfInBounds_toArray, List.set_cons_zero, List.set_cons_succ, i64_w, i32_w]
              rfl
            refine take_ (i := 13) (N := (some 40)) (v := ?_) (a' := ?_) #[true, true, true, true, true, true, true, true, true, true, true, true, true, true, false, false, false, false, false, false, false, false, false, false, false, false, false] rfl rfl (by kernel_rfl) (fun _ _ _ h => h) (Or.inl ⟨by rfl, ?_⟩) hHeld ?_ ?_
            rotate_left
            · rintro w' ⟨z, rfl⟩
              go_simp
              try with_reducible rfl
            rotate_left
            · simp only [Act.put, List.setIfInBounds_toArray, List.set_cons_zero, List.set_cons_succ, i64_w, i32_w]
              rfl
            refine take_ (i := 14) (N := (some 41)) (v := ?_) (a' := ?_) #[true, true, true, true, true, true, true, true, true, true, true, true, true, true, true, false, false, false, false, false, false, false, false, false, false, false, false] rfl rfl (by kernel_rfl) (fun _ _ _ h => h) (Or.inl ⟨by rfl, ?_⟩) hHeld ?_ ?_
            rotate_left
            · rintro w' ⟨z, rfl⟩
              go_simp
              try with_reducible rfl
            rotate_left
            · simp only [Act.put, List.setIfInBounds_toArray, List.set_cons_zero, List.set_cons_succ, i64_w, i32_w]
              rfl
            refine take_ (i := 15) (N := (some 42)) (v := ?_) (a' := ?_) #[true, true, true, true, true, true, true, true, true, true, true, true, true, true, true, true, false, false, false, false, false, false, false, false, false, false, false] rfl rfl (by kernel_rfl) (fun _ _ _ h => h) (Or.inl ⟨by rfl, ?_⟩) hHeld ?_ ?_
            rotate_left
            · rintro w' ⟨z, rfl⟩
              go_simp
              try with_reducible rfl
            rotate_left
            · simp only [Act.put, List.setIfInBounds_toArray, List.set_cons_zero, List.set_cons_succ, i64_w, i32_w]
              rfl
            refine take_ (i := 16) (N := (some 43)) (v := ?_) (a' := ?_) #[true, true, true, true, true, true, true, true, true, true, true, true, true, true, true, true, true, false, false, false, false, false, false, false, false, false, false] rfl rfl (by kernel_rfl) (fun _ _ _ h => h) (Or.inl ⟨by rfl, ?_⟩) hHeld ?_ ?_
            rotate_left
            · rintro w' ⟨z, rfl⟩
              go_simp
              try with_reducible rfl
            rotate_left
            · simp only [Act.put, List.setIfInBounds_toArray, List.set_cons_zero, List.set_cons_succ, i64_w, i32_w]
              rfl
            refine take_ (i := 17) (N := (some 44)) (v := ?_) (a' := ?_) #[true, true, true, true, true, true, true, true, true, true, true, true, true, true, true, true, true, true, false, false, false, false, false, false, false, false, false] rfl rfl (by kernel_rfl) (fun _ _ _ h => h) (Or.inl ⟨by rfl, ?_⟩) hHeld ?_ ?_
            rotate_left
            · rintro w' ⟨z, rfl⟩
              go_simp
              try with_reducible rfl
            rotate_left
            · simp only [Act.put, List.setIfInBounds_toArray, List.set_cons_zero, List.set_cons_succ, i64_w, i32_w]
              rfl
            refine take_ (i := 18) (N := (some 45)) (v := ?_) (a' := ?_) #[true, true, true, true, true, true, true, true, true, true, true, true, true, true, true, true, true, true, true, false, false, false, false, false, false, false, false] rfl rfl (by kernel_rfl) (fun _ _ _ h => h) (Or.inl ⟨by rfl, ?_⟩) hHeld ?_ ?_
            rotate_left
            · rintro w' ⟨z, rfl⟩
              go_simp
              try with_reducible rfl
            rotate_left
            · simp only [Act.put, List.setIfInBounds_toArray, List.set_cons_zero, List.set_cons_succ, i64_w, i32_w]
              rfl
            refine take_ (i := 19) (N := (some 46)) (v := ?_) (a' := ?_) #[true, true, true, true, true, true, true, true, true, true, true, true, true, true, true, true, true, true, true, true, false, false, false, false, false, false, false] rfl rfl (by kernel_rfl) (fun _ _ _ h => h) (Or.inl ⟨by rfl, ?_⟩) hHeld ?_ ?_
            rotate_left
            · rintro w' ⟨z, rfl⟩
              go_simp
              try with_reducible rfl
            rotate_left
            · simp only [Act.put, List.setIfInBounds_toArray, List.set_cons_zero, List.set_cons_succ, i64_w, i32_w]
              rfl
            refine take_ (i := 20) (N := (some 47)) (v := ?_) (a' := ?_) #[true, true, true, true, true, true, true, true, true, true, true, true, true, true, true, true, true, true, true, true, true, false, false, false, false, false, false] rfl rfl (by kernel_rfl) (fun _ _ _ h => h) (Or.inl ⟨by rfl, ?_⟩) hHeld ?_ ?_
            rotate_left
            · rintro w' ⟨z, rfl⟩
              go_simp
              try with_reducible rfl
            rotate_left
            · simp only [Act.put, List.setIfInBounds_toArray, List.set_cons_zero, List.set_cons_succ, i64_w, i32_w]
              rfl
            refine take_ (i := 22) (N := (some 49)) (v := ?_) (a' := ?_) #[true, true, true, true, true, true, true, true, true, true, true, true, true, true, true, true, true, true, true, true, true, false, true, false, false, false, false] rfl rfl (by kernel_rfl) (fun _ _ _ h => h) (Or.inl ⟨by rfl, ?_⟩) hHeld ?_ ?_
            rotate_left
            · rintro w' ⟨z, rfl⟩
              go_simp
              try with_reducible rfl
            rotate_left
            · simp only [Act.put, List.setIfInBounds_toArray, List.set_cons_zero, List.set_cons_succ, i64_w, i32_w]
              rfl
            refine take_ (i := 23) (N := (some 50)) (v := ?_) (a' := ?_) #[true, true, true, true, true, true, true, true, true, true, true, true, true, true, true, true, true, true, true, true, true, false, true, true, false, false, false] rfl rfl (by kernel_rfl) (fun _ _ _ h => h) (Or.inl ⟨by rfl, ?_⟩) hHeld ?_ ?_
            rotate_left
            · rintro w' ⟨z, rfl⟩
              go_simp
              try with_reducible rfl
            rotate_left
            · simp only [Act.put, List.setIfInBounds_toArray, List.set_cons_zero, List.set_cons_succ, i64_w, i32_w]
              rfl
            refine take_ (i := 24) (N := (some 51)) (v := ?_) (a' := ?_) #[true, true, true, true, true, true, true, true, true, true, true, true, true, true, true, true, true, true, true, true, true, false, true, true, true, false, false] rfl rfl (by kernel_rfl) (fun _ _ _ h => h) (Or.inl ⟨by rfl, ?_⟩) hHeld ?_ ?_
            rotate_left
            · rintro w' ⟨z, rfl⟩
              go_simp
              try with_reducible rfl
            rotate_left
            · simp only [Act.put, List.setIfInBounds_toArray, List.set_cons_zero, List.set_cons_succ, i64_w, i32_w]
              rfl
            refine one_ (i := 21) (N := (some 48)) #[true, true, true, true, true, true, true, true, true, true, true, true, true, true, true, true, true, true, true, true, true, true, true, true, true, false, false] rfl rfl (by kernel_rfl) (by decide) (fun K hK => ?_)
            refine goes_ Tryz.func68 (by kernel_rfl) rfl #[.slice m.c.eA m.c.eN m.c.eC, .string s.c.path] (by rfl) rfl rfl (by (try simp only [List.map_toArray, List.map_cons, List.map_nil]); first | done | rfl) ?_
            refine (part_calls m.c.eA m.c.eC m.c.eN m.c.ents s.c.path _ (Kd.C_below HRD.out.1.ents.2.2 HW2) HRD.out.1.ents.2.1 HRD.out.1.ents.1 HLN.out.2.2.1 hls.2.2.2.2).mono ?_
            rintro e3 w3 ⟨v, rfl, hR, hB⟩
            obtain ⟨Ap, cp, rfl, hcp, hCp⟩ := Kd.R_reads hR
            have HW3 : Below wr.heap.size wr w3 := below_step HW2 hB
            clear hB hR
            refine ⟨_, rfl, ?_⟩
            refine hK.out _ _ ⟨⟨_, HW3⟩, rfl⟩ (fun hHeld => ?_)
            clear hK K
            refine norm_ (a' := ?_) ?_ ?_
            rotate_left
            · show Act.put _ (some 48) _ = _
              simp only [Act.put, List.setIfInBounds_toArray, List.set_cons_zero, List.set_cons_succ, i64_w, i32_w]
              rfl
            refine one_ (i := 25) (N := (some 52)) #[true, true, true, true, true, true, true, true, true, true, true, true, true, true, true, true, true, true, true, true, true, true, true, true, true, true, false] rfl rfl (by kernel_rfl) (by decide) (fun K hK => ?_)
            refine goes_ Tryz.func67 (by kernel_rfl) rfl #[.slice Ap (partP m.c.ents s.c.path).length cp, .slice s.r.fA s.r.fN s.r.fC] (by rfl) rfl rfl (by (try simp only [List.map_toArray, List.map_cons, List.map_nil]); first | done | rfl) ?_
            refine (same_calls Ap cp _ (partP m.c.ents s.c.path) s.r.fA s.r.fC s.r.fN s.r.rents _ hCp rfl hcp (Kd.C_below HR.out.2.ents.2.2 (below_step HBW.out HW3)) HR.out.2.ents.2.1 HR.out.2.ents.1 (Nat.le_trans (partP_len _ _) (by rw [HRD.out.1.ents.2.1]; exact HLN.out.2.2.1.1))).mono ?_
            rintro e4 w4 ⟨rfl, hB⟩
            have HW4 : Below wr.heap.size wr w4 := below_step HW3 hB
            clear hB
            obtain ⟨te, hte⟩ : ∃ te, te = eqE (partP m.c.ents s.c.path) s.r.rents := ⟨_, rfl⟩
            rw [← hte]
            have HTE := Aside0.mk hte
            clear hte
            refine ⟨_, rfl, ?_⟩
            refine hK.out _ _ ⟨⟨_, HW4⟩, rfl⟩ (fun hHeld => ?_)
            clear hK K
            refine norm_ (a' := ?_) ?_ ?_
            rotate_left
            · show Act.put _ (some 52) _ = _
              simp only [Act.put, List.setIfInBounds_toArray, List.set_cons_zero, List.set_cons_succ, i64_w, i32_w]
              rfl
            refine take_ (i := 26) (N := (some 53)) (v := ?_) (a' := ?_) #[true, true, true, true, true, true, true, true, true, true, true, true, true, true, true, true, true, true, true, true, true, true, true, true, true, true, true] rfl rfl (by kernel_rfl) (fun _ _ _ h => h) (Or.inl ⟨by rfl, ?_⟩) hHeld ?_ ?_
            rotate_left
            · rintro w' ⟨z, rfl⟩
              go_simp
              try with_reducible rfl
            rotate_left
            · simp only [Act.put, List.setIfInBounds_toArray, List.set_cons_zero, List.set_cons_succ, i64_w, i32_w]
              rfl
            refine done_ (by kernel_rfl) ?_
            have HW4 := Aside0.mk HW4
            have HBZ := Aside0.mk (below_step HBW.out HW4.out)
            have HWZ := Aside0.mk (below_step HW.out HW4.out)
            clear hHeld HCE y1 x6 x15 x17 x18 hCp HW3 HW2
            cases te with
            | false =>
              have HN : Aside0 ((l.take (k + 1)).any (rq l s) = false) := ⟨by rw [HTK.out, HQ.out]; show (false || (seenP l m (idP s.c) s.b s.e && eqE (partP m.c.ents s.c.path) s.r.rents)) = false; rw [h5, ← HTE.out]; rfl⟩
              clear HTK HYE
              go_wp2_with (fail)
              go_roundw
              case rel => exact ⟨k + 1, hlt, by go_simp, HN, HWZ⟩
              case measure => simp [intOf]; omega
            | true =>
              have HN : Aside0 (l.any (rq l s) = true) := ⟨HYE.out (by show (seenP l m (idP s.c) s.b s.e && eqE (partP m.c.ents s.c.path) s.r.rents) = true; rw [h5, ← HTE.out]; rfl)⟩
              go_wp2_with (fail)
              go_ret
              exact ⟨by rw [restoredP_rq, h1, H2.out, HN.out]; rfl, HBZ.out⟩
        · obtain rfl : k = l.length := by omega
          have HN : Aside0 (l.any (rq l s) = false) := ⟨by have := HQ.out; rwa [List.take_length] at this⟩
          go_wp2_with (fail)
          go_ret
          exact ⟨by rw [restoredP_rq, h1, H2.out, HN.out]; rfl, HBW.out⟩
end Go.Proofs.YtkicenkljjpcfaaGreatDoor.Q
