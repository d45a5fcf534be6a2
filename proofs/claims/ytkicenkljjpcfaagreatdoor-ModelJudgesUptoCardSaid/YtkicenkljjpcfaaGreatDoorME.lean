/- Of the proof about model: several texts, joined. -/
import Derived.Test.YtkicenkljjpcfaaGreatDoorMC
import Derived.Test.YtkicenkljjpcfaaGreatDoorMD
import Derived.Test.YtkicenkljjpcfaaGreatDoorMB
set_option linter.unusedVariables false
set_option linter.unusedSimpArgs false
set_option linter.unusedSimpArgs false
namespace Go.Proofs.YtkicenkljjpcfaaGreatDoor.Q
open Go.RowKit Go.Proofs.YtkicenkljjpcfaaGreatDoorW.PrintWords Go.Proofs.YtkicenkljjpcfaaGreatDoorW.PrintLast Go.Proofs.YtkicenkljjpcfaaGreatDoorW.PrintMore
def fq (job : Int) (beg : Bool) (x : Ev) : Bool := (x.job == job) && (x.beg == beg)
def findP (l : List Ev) (job : Int) (beg : Bool) : Int := if l.any (fq job beg) then ((l.findIdx (fq job beg) : Nat) : Int) else -1
theorem findP_none {l : List Ev} {job : Int} {beg : Bool} (h : l.any (fq job beg) = false) : findP l job beg = -1 := by unfold findP; rw [h]; rfl
theorem findP_at {l : List Ev} {job : Int} {beg : Bool} {k : Nat} {x : Ev} (hx : l[k]? = some x) (h : fq job beg x = true) (h0 : (l.take k).any (fq job beg) = false) : findP l job beg = k := by
  obtain ⟨hk, hxe⟩ := List.getElem?_eq_some_iff.1 hx
  have ha : l.any (fq job beg) = true := List.any_eq_true.2 ⟨x, List.mem_of_getElem? hx, h⟩
  have hi : l.findIdx (fq job beg) = k := by
    rw [List.findIdx_eq hk]
    refine ⟨by rw [hxe]; exact h, fun j hj => ?_⟩
    rw [List.any_eq_false] at h0
    have := h0 l[j] (List.mem_take_iff_getElem.2 ⟨j, by omega, rfl⟩)
    simpa using this
  unfold findP
  rw [ha, hi]
  rfl
set_option maxHeartbeats 8000000 in
set_option maxRecDepth 100000 in
theorem find_calls (A : Option Addr) (c : Nat) (l : List Ev) (job : Int) (beg : Bool) (w : World) (h : Kd.C kE w A l.length l) (hl : l.length ≤ 10000) :
    Calls Tryz.prog 25 #[.slice A l.length c, .int .i64 job, .bool beg] w fun e' w' => e' = .returned (.int .i64 (findP l job beg)) ∧ Below w.heap.size w w' := by
  have HC := Aside0.mk h
  clear h
  go_enter Tryz.func25, Tryz.ntmps25
  go_wp2_with (fail)
  go_loopw [7] (fun v7 wr => ∃ k : Nat, k ≤ l.length ∧ v7 = .int .i64 k ∧ Aside0 ((l.take k).any (fq job beg) = false) ∧ Aside0 (Below w.heap.size w wr)) (fun v7 _ => l.length - (intOf v7).toNat)
  case atStart => exact ⟨0, Nat.zero_le _, rfl, ⟨rfl⟩, ⟨Below.refl _ _⟩⟩
  case round =>
    obtain ⟨k, hk, rfl, HQ, HB⟩ := hrel
    by_cases hlt : k < l.length
    · obtain ⟨m, hm⟩ : ∃ r, l[k]? = some r := ⟨_, List.getElem?_eq_getElem hlt⟩
      obtain ⟨ad, rfl, y0, y1, _⟩ := at_E (Kd.C_below HC.out HB.out) k hlt m hm
      have HTK := Aside0.mk (any_take (fq job beg) l k m hm)
      have HM := Aside0.mk hm
      clear hm
      have hml : k < maxLen := by unfold maxLen; omega
      cases h1 : m.job == job with
      | false =>
        have HN : Aside0 ((l.take (k + 1)).any (fq job beg) = false) := ⟨by rw [HTK.out, HQ.out]; unfold fq; rw [h1]; rfl⟩
        clear HTK HM
        go_wp2_with (fail)
        go_roundw
        case rel => exact ⟨k + 1, hlt, by go_simp, HN, HB⟩
        case measure => simp [intOf]; omega
      | true =>
        cases h2 : m.beg == beg with
        | false =>
          have HN : Aside0 ((l.take (k + 1)).any (fq job beg) = false) := ⟨by rw [HTK.out, HQ.out]; unfold fq; rw [h1, h2]; rfl⟩
          clear HTK HM
          go_wp2_with (fail)
          go_roundw
          case rel => exact ⟨k + 1, hlt, by go_simp, HN, HB⟩
          case measure => simp [intOf]; omega
        | true =>
          have HN : Aside0 (findP l job beg = k) := ⟨findP_at HM.out (by unfold fq; rw [h1, h2]; rfl) HQ.out⟩
          clear HTK HM
          go_wp2_with (fail)
          go_ret
          exact ⟨by rw [HN.out]; rfl, HB.out⟩
    · obtain rfl : k = l.length := by omega
      have HN : Aside0 (findP l job beg = -1) := ⟨findP_none (by have := HQ.out; rwa [List.take_length] at this)⟩
      go_wp2_with (fail)
      go_ret
      exact ⟨by rw [HN.out]; rfl, HB.out⟩
end Go.Proofs.YtkicenkljjpcfaaGreatDoor.Q
/- The reference's Check, walked. -/
set_option linter.unusedSimpArgs false
namespace Go.Proofs.YtkicenkljjpcfaaGreatDoor.Q
open Go.RowKit Go.Proofs.YtkicenkljjpcfaaGreatDoorW.PrintWords Go.Proofs.YtkicenkljjpcfaaGreatDoorW.PrintLast Go.Proofs.YtkicenkljjpcfaaGreatDoorW.PrintMore
def ckC : Bool → Int
  | true => 0
  | false => 320
def kindAt (l : List Ev) (b : Int) : Int := ((l[b.toNat]?).map fun x => x.c.kind).getD 0
def evB (l : List Ev) (i : Nat) (x : Ev) : Bool := !(decide (x.job < 1) || decide (x.c.kind < 1) || decide (11 < x.c.kind) || (findP l x.job x.beg != (i : Int)))
def evE (l : List Ev) (i : Nat) (x : Ev) : Bool := x.beg || !(decide (findP l x.job true < 0) || decide ((i : Int) < findP l x.job true) || (kindAt l (findP l x.job true) != x.c.kind))
def evs (l : List Ev) (i : Nat) : Bool := ((l[i]?).map fun x => evB l i x && evE l i x).getD true
def checkP (l : List Ev) : Bool := (List.range l.length).all (evs l)
theorem evs_at {l : List Ev} {i : Nat} {x : Ev} (h : l[i]? = some x) : evs l i = (evB l i x && evE l i x) := by unfold evs; rw [h]; rfl
theorem check_no {l : List Ev} {i : Nat} (hi : i < l.length) (h : evs l i = false) : checkP l = false := by
  unfold checkP
  rw [List.all_eq_false]
  exact ⟨i, List.mem_range.2 hi, by simp [h]⟩
theorem check_yes {l : List Ev} (h : ∀ t, t < l.length → evs l t = true) : checkP l = true := by
  unfold checkP
  rw [List.all_eq_true]
  exact fun t ht => h t (List.mem_range.1 ht)
theorem upto_succ {l : List Ev} {k : Nat} (h : ∀ t, t < k → evs l t = true) (hk : evs l k = true) : ∀ t, t < k + 1 → evs l t = true := fun t ht => by
  by_cases h1 : t = k
  · rw [h1]; exact hk
  · exact h t (by omega)
theorem findP_range (l : List Ev) (job : Int) (beg : Bool) : findP l job beg = -1 ∨ ∃ j x, findP l job beg = ((j : Nat) : Int) ∧ l[j]? = some x := by
  unfold findP
  cases h : l.any (fq job beg) with
  | false => exact .inl rfl
  | true =>
    obtain ⟨x, hx, hq⟩ := List.any_eq_true.1 h
    have hlt := List.findIdx_lt_length.2 ⟨x, hx, hq⟩
    exact .inr ⟨_, _, rfl, List.getElem?_eq_getElem hlt⟩
set_option maxHeartbeats 8000000 in
set_option maxRecDepth 100000 in
theorem check_calls (A : Option Addr) (c : Nat) (l : List Ev) (w : World) (h : Kd.C kE w A l.length l) (hl : l.length ≤ 10000) :
    Calls Tryz.prog 11 #[.slice A l.length c] w fun e' w' => e' = .returned (.int .i64 (ckC (checkP l))) ∧ Below w.heap.size w w' := by
  have HC := Aside0.mk h
  clear h
  go_enter Tryz.func11, Tryz.ntmps11
  go_wp2_with (fail)
  go_loopw [3] (fun v3 wr => ∃ k : Nat, k ≤ l.length ∧ v3 = .int .i64 k ∧ Aside0 (∀ t, t < k → evs l t = true) ∧ Aside0 (Below w.heap.size w wr)) (fun v3 _ => l.length - (intOf v3).toNat)
  case atStart => exact ⟨0, Nat.zero_le _, rfl, ⟨fun t ht => absurd ht (Nat.not_lt_zero t)⟩, ⟨Below.refl _ _⟩⟩
  case round =>
    obtain ⟨k, hk, rfl, HQ, HB⟩ := hrel
    by_cases hlt : k < l.length
    · obtain ⟨m, hm⟩ : ∃ r, l[k]? = some r := ⟨_, List.getElem?_eq_getElem hlt⟩
      obtain ⟨ad, rfl, c0, c1, c2, _⟩ := at_E (Kd.C_below HC.out HB.out) k hlt m hm
      have y0 := Up.cell c0
      have y1 := Up.cell c1
      have y2 := Up.cell c2
      have HNO : Aside0 (evs l k = false → checkP l = false) := ⟨check_no hlt⟩
      have HE := Aside0.mk (evs_at hm)
      have HM := Aside0.mk hm
      clear hm c0 c1 c2
      have hml : k < maxLen := by unfold maxLen; omega
      by_cases h1 : m.job < 1
      · have d1 : decide (m.job < 1) = true := decide_eq_true h1
        go_wp2_with (fail)
        refine wp_region_up (by kernel_rfl) (by kernel_rfl) ?_
        repeat (first | go_big_quiet_skip | (go_big_quiet_want; first | (fail) | (go_big_quiet_op; first | go_big_quiet_on | (apply Exists.intro; refine ⟨fun z => ?_, ?_⟩; (focus (fail; done)); go_big_quiet_on))))
        refine wpQuiet_nil ?_
        rintro _ ⟨z, rfl⟩
        have HBZ := Aside0.mk (below_step HB.out z.h)
        go_wp2_with (fail)
        go_ret
        exact ⟨by rw [HNO.out (by rw [HE.out]; unfold evB; rw [d1]; rfl)]; rfl, HBZ.out⟩
      · have d1 : decide (m.job < 1) = false := decide_eq_false h1
        have h1' : 1 ≤ m.job := by omega
        by_cases h2 : m.c.kind < 1
        · have d2 : decide (m.c.kind < 1) = true := decide_eq_true h2
          go_wp2_with (fail)
          refine wp_region_up (by kernel_rfl) (by kernel_rfl) ?_
          repeat (first | go_big_quiet_skip | (go_big_quiet_want; first | (fail) | (go_big_quiet_op; first | go_big_quiet_on | (apply Exists.intro; refine ⟨fun z => ?_, ?_⟩; (focus (fail; done)); go_big_quiet_on))))
          refine wpQuiet_nil ?_
          rintro _ ⟨z, rfl⟩
          have HBZ := Aside0.mk (below_step HB.out z.h)
          go_wp2_with (fail)
          go_ret
          exact ⟨by rw [HNO.out (by rw [HE.out]; unfold evB; rw [d1, d2]; rfl)]; rfl, HBZ.out⟩
        · have d2 : decide (m.c.kind < 1) = false := decide_eq_false h2
          have h2' : 1 ≤ m.c.kind := by omega
          by_cases h3 : 11 < m.c.kind
          · have d3 : decide (11 < m.c.kind) = true := decide_eq_true h3
            go_wp2_with (fail)
            refine wp_region_up (by kernel_rfl) (by kernel_rfl) ?_
            repeat (first | go_big_quiet_skip | (go_big_quiet_want; first | (fail) | (go_big_quiet_op; first | go_big_quiet_on | (apply Exists.intro; refine ⟨fun z => ?_, ?_⟩; (focus (fail; done)); go_big_quiet_on))))
            refine wpQuiet_nil ?_
            rintro _ ⟨z, rfl⟩
            have HBZ := Aside0.mk (below_step HB.out z.h)
            go_wp2_with (fail)
            go_ret
            exact ⟨by rw [HNO.out (by rw [HE.out]; unfold evB; rw [d1, d2, d3]; rfl)]; rfl, HBZ.out⟩
          · have d3 : decide (11 < m.c.kind) = false := decide_eq_false h3
            have h3' : m.c.kind ≤ 11 := by omega
            obtain ⟨r, hr⟩ : ∃ r, r = findP l m.job m.beg := ⟨_, rfl⟩
            have HFC : ∀ z : Up wr, Calls Tryz.prog 25 #[.slice (some ad) l.length c, .int .i64 m.job, .bool m.beg] z.w fun e' w' => e' = .returned (.int .i64 r) ∧ ∃ u : Up wr, w' = u.w := fun z => z.calls (hr ▸ find_calls (some ad) c l m.job m.beg z.w (Kd.C_below (Kd.C_below HC.out HB.out) z.h) hl)
            have HFC := Aside0.mk HFC
            have HRE := Aside0.mk hr
            clear hr
            cases d4 : (r != (k : Int)) with
            | true =>
              go_wp2_with (fail)
              refine wp_region_up (by kernel_rfl) (by kernel_rfl) ?_
              repeat (first | go_big_quiet_skip | (go_big_quiet_want; first | (fail) | (go_big_quiet_op; first | go_big_quiet_on | (apply Exists.intro; refine ⟨fun z => ?_, ?_⟩; (focus (exact HFC.out z; done)); go_big_quiet_on))))
              refine wpQuiet_nil ?_
              rintro _ ⟨z, rfl⟩
              have HBZ := Aside0.mk (below_step HB.out z.h)
              go_wp2_with (fail)
              go_ret
              exact ⟨by rw [HNO.out (by rw [HE.out]; unfold evB; rw [d1, d2, d3, ← HRE.out, d4]; rfl)]; rfl, HBZ.out⟩
            | false =>
              go_wp2_with (fail)
              refine wp_region_up (by kernel_rfl) (by kernel_rfl) ?_
              repeat (first | go_big_quiet_skip | (go_big_quiet_want; first | (fail) | (go_big_quiet_op; first | go_big_quiet_on | (apply Exists.intro; refine ⟨fun z => ?_, ?_⟩; (focus (exact HFC.out z; done)); go_big_quiet_on))))
              refine wpQuiet_nil ?_
              rintro _ ⟨z, rfl⟩
              have HEB : Aside0 (evB l k m = true) := ⟨by unfold evB; rw [d1, d2, d3, ← HRE.out, d4]; rfl⟩
              have q0 := y0 z
              have q1 := y1 z
              have HW4 := Aside0.mk z.h
              clear y0 y1 y2 HFC d4
              generalize z.w = w4 at HW4 q0 q1 ⊢
              have HB4 := Aside0.mk (below_step HB.out HW4.out)
              cases h5 : m.beg with
              | true =>
                rw [h5] at q1
                have HN : Aside0 (evs l k = true) := ⟨by rw [HE.out, HEB.out]; unfold evE; rw [h5]; rfl⟩
                have HQ2 := Aside0.mk (upto_succ HQ.out HN.out)
                clear HNO HE HEB HM HQ HN
                go_wp2_with (fail)
                go_roundw
                case rel => exact ⟨k + 1, hlt, by go_simp, HQ2, HB4⟩
                case measure => simp [intOf]; omega
              | false =>
                rw [h5] at q1
                go_wp2_with (fail)
                refine (find_calls (some ad) c l m.job true _ (Kd.C_below HC.out HB4.out) hl).mono ?_
                rintro e5 w5 ⟨rfl, hB⟩
                have HB5 := Aside0.mk (below_step HB4.out hB)
                clear hB HB4 HW4 q0 q1
                rcases findP_range l m.job true with hr | ⟨j, x, hr, hj⟩
                · rw [hr]
                  have HR5 := Aside0.mk hr
                  clear hr
                  go_wp2_with (fail)
                  refine wp_region_up (by kernel_rfl) (by kernel_rfl) ?_
                  repeat (first | go_big_quiet_skip | (go_big_quiet_want; first | (fail) | (go_big_quiet_op; first | go_big_quiet_on | (apply Exists.intro; refine ⟨fun z => ?_, ?_⟩; (focus (fail; done)); go_big_quiet_on))))
                  refine wpQuiet_nil ?_
                  rintro _ ⟨z, rfl⟩
                  have HBZ := Aside0.mk (below_step HB5.out z.h)
                  go_wp2_with (fail)
                  go_ret
                  exact ⟨by rw [HNO.out (by rw [HE.out, HEB.out]; unfold evE; rw [h5, HR5.out, ]; rfl)]; rfl, HBZ.out⟩
                · rw [hr]
                  have HR5 := Aside0.mk hr
                  have hjl := (List.getElem?_eq_some_iff.1 hj).1
                  clear hr
                  have b0 : decide ((j : Int) < 0) = false := decide_eq_false (by omega)
                  have hjm : j < maxLen := by unfold maxLen; omega
                  have HJ := Aside0.mk hj
                  obtain ⟨ad1, he1, _, _, e2, _⟩ := at_E (Kd.C_below HC.out HB5.out) j hjl x hj
                  injection he1 with he1
                  subst he1
                  obtain ⟨ad1, he1, _, _, f2, _⟩ := at_E (Kd.C_below HC.out HB5.out) k hlt m HM.out
                  injection he1 with he1
                  subst he1
                  have u2 := Up.cell e2
                  have v2 := Up.cell f2
                  clear e2 f2 hj
                  by_cases h6 : k < j
                  · have d6 : decide ((k : Int) < (j : Int)) = true := decide_eq_true (by omega)
                    have d6' : decide (k < j) = true := decide_eq_true h6
                    go_wp2_with (fail)
                    refine wp_region_up (by kernel_rfl) (by kernel_rfl) ?_
                    repeat (first | go_big_quiet_skip | (go_big_quiet_want; first | (fail) | (go_big_quiet_op; first | go_big_quiet_on | (apply Exists.intro; refine ⟨fun z => ?_, ?_⟩; (focus (fail; done)); go_big_quiet_on))))
                    refine wpQuiet_nil ?_
                    rintro _ ⟨z, rfl⟩
                    have HBZ := Aside0.mk (below_step HB5.out z.h)
                    go_wp2_with (fail)
                    go_ret
                    exact ⟨by rw [HNO.out (by rw [HE.out, HEB.out]; unfold evE; rw [h5, HR5.out, b0, d6]; rfl)]; rfl, HBZ.out⟩
                  · have d6 : decide ((k : Int) < (j : Int)) = false := decide_eq_false (by omega)
                    have d6' : decide (k < j) = false := decide_eq_false h6
                    have HKA : Aside0 (kindAt l (j : Int) = x.c.kind) := ⟨by unfold kindAt; rw [Int.toNat_natCast, HJ.out]; rfl⟩
                    cases h7 : (x.c.kind != m.c.kind) with
                    | true =>
                      go_wp2_with (fail)
                      refine wp_region_up (by kernel_rfl) (by kernel_rfl) ?_
                      repeat (first | go_big_quiet_skip | (go_big_quiet_want; first | (fail) | (go_big_quiet_op; first | go_big_quiet_on | (apply Exists.intro; refine ⟨fun z => ?_, ?_⟩; (focus (fail; done)); go_big_quiet_on))))
                      refine wpQuiet_nil ?_
                      rintro _ ⟨z, rfl⟩
                      have HBZ := Aside0.mk (below_step HB5.out z.h)
                      go_wp2_with (fail)
                      go_ret
                      exact ⟨by rw [HNO.out (by rw [HE.out, HEB.out]; unfold evE; rw [h5, HR5.out, b0, d6, HKA.out, h7]; rfl)]; rfl, HBZ.out⟩
                    | false =>
                      have HN : Aside0 (evs l k = true) := ⟨by rw [HE.out, HEB.out]; unfold evE; rw [h5, HR5.out, b0, d6, HKA.out, h7]; rfl⟩
                      go_wp2_with (fail)
                      refine wp_region_up (by kernel_rfl) (by kernel_rfl) ?_
                      repeat (first | go_big_quiet_skip | (go_big_quiet_want; first | (fail) | (go_big_quiet_op; first | go_big_quiet_on | (apply Exists.intro; refine ⟨fun z => ?_, ?_⟩; (focus (fail; done)); go_big_quiet_on))))
                      refine wpQuiet_nil ?_
                      rintro _ ⟨z, rfl⟩
                      have HBZ := Aside0.mk (below_step HB5.out z.h)
                      have HQ2 := Aside0.mk (upto_succ HQ.out HN.out)
                      clear HNO HE HEB HM HQ HN HKA u2 v2
                      go_wp2_with (fail)
                      go_roundw
                      case rel => exact ⟨k + 1, hlt, by go_simp, HQ2, HBZ⟩
                      case measure => simp [intOf]; omega
    · obtain rfl : k = l.length := by omega
      go_wp2_with (fail)
      go_ret
      exact ⟨by rw [check_yes HQ.out]; rfl, HB.out⟩
end Go.Proofs.YtkicenkljjpcfaaGreatDoor.Q
/- The reference's Spans, walked. -/
set_option linter.unusedSimpArgs false
namespace Go.Proofs.YtkicenkljjpcfaaGreatDoor.Q
open Go.RowKit Go.Proofs.YtkicenkljjpcfaaGreatDoorW.PrintWords Go.Proofs.YtkicenkljjpcfaaGreatDoorW.PrintLast Go.Proofs.YtkicenkljjpcfaaGreatDoorW.PrintMore
abbrev encR (r : Re) : List Value := [.int .i64 r.code, .string r.id, .int .i64 r.n, .slice r.jA r.jN r.jC, .slice r.tA r.tN r.tC, .slice r.fA r.fN r.fC, .slice r.sA r.sN r.sC]
def zeroRe : Re := ⟨0, ⟨#[]⟩, 0, none, 0, 0, none, 0, 0, none, 0, 0, none, 0, 0, [], []⟩
def spanOf (l : List Ev) (i : Nat) (x : Ev) : Sp :=
  if findP l x.job false < 0 then ⟨x.c, zeroRe, i, (l.length : Int), true⟩ else ⟨x.c, ((l[(findP l x.job false).toNat]?).map (·.r)).getD zeroRe, i, findP l x.job false, false⟩
def spansK (l : List Ev) : Nat → List Sp
  | 0 => []
  | k + 1 => spansK l k ++ ((l[k]?).map fun x => if x.beg then [spanOf l k x] else []).getD []
def spansP (l : List Ev) : List Sp := spansK l l.length
theorem cellsE {w : World} {A : Option Addr} {n : Nat} {l : List Ev} (h : Kd.C kE w A n l) (i : Nat) (h1 : i < n) (x : Ev) (hx : l[i]? = some x) : ∃ ad, A = some ad ∧ ∀ j v, (encE x)[j]? = some v → w.cell? ((ad.add (i * 19)).add j) = some v := by
  obtain ⟨ad, c, e, _, hK, hc0⟩ := Kd.C_get h x (i : Int) (by omega) (by omega)
  have hg : l.getD (i : Int).toNat x = x := by rw [Int.toNat_natCast, List.getD_eq_getElem?_getD, hx]; rfl
  rw [hg] at hK
  rw [Int.toNat_natCast] at hc0
  have hK' : c = encE x := hK
  subst hK'
  exact ⟨ad, e, fun j v hv => by rw [Go.Deep.add_add]; exact hc0 j v hv⟩
theorem evC {x : Ev} {j : Nat} {v : Value} (h : (encC x.c)[j]? = some v) : (encE x)[j + 2]? = some v := by
  have hj : j < 10 := (List.getElem?_eq_some_iff.1 h).1
  rcases j with _ | _ | _ | _ | _ | _ | _ | _ | _ | _ | j <;> first | exact h | omega
theorem evR {x : Ev} {j : Nat} {v : Value} (h : (encR x.r)[j]? = some v) : (encE x)[j + 12]? = some v := by
  have hj : j < 7 := (List.getElem?_eq_some_iff.1 h).1
  rcases j with _ | _ | _ | _ | _ | _ | _ | j <;> first | exact h | omega
theorem cells_off {w : World} {ad : Addr} {i o : Nat} {cs ds : List Value} (ho : 0 < o) (h : ∀ j v, ds[j]? = some v → w.cell? ((ad.add i).add j) = some v) (hd : ∀ j v, cs[j]? = some v → ds[j + o]? = some v) : ∀ j v, cs[j]? = some v → w.cell? ((⟨(ad.add i).block, (ad.add i).off + o, none⟩ : Addr).add j) = some v := fun j v hv => by
  have := h _ _ (hd j v hv)
  rw [addf ad i (j + o) (by omega)] at this
  rw [Addr.add_mid, show (ad.add i).off + o + j = (ad.add i).off + (j + o) by omega]
  exact this
theorem s32 : (Tryz.prog.info? 32).map (·.size) = some 7 := by kernel_rfl
theorem wpList_store_off {P : Program} {ops : Array Oper} {rest : List Oper} {o : Oper} {a : Act} {w : World} {Q : Exit → Act → World → Prop} (hgd : o.guard = none) (ty : TypeId) (x y : Operand) (ho : o.op = .store ty x y) (g f : Nat) (old : Array Value) (cs : List Value) (t : TypeId) (hx : a.eval x = .pointer (some ⟨g, f, none⟩)) (hy : a.eval y = .agg cs.toArray)
    (hb : w.heap[g]? = some (.cells old t (0, 0))) (hs : f + cs.length ≤ old.size) (hi : (P.info? ty).map (·.size) = some cs.length) (h1 : ∀ v ∈ cs, v.oneCell' = true)
    (h : ∀ w1, w1.heap[g]? = some (.cells (setL old f cs) t (0, 0)) → w.grownBy w1 (some g) → wpList P ops Q rest (a.put o.dst undef) w1) : wpList P ops Q (o :: rest) a w := by
  refine wpList_store_mid hgd ty x y ho g f cs.toArray hx hy (fun j hj => ?_) (by simpa using hi) (all_oneCell_toArray h1) (h _ ?_ (setCells_grown g _ f w))
  · rw [blk_cell hb, blk_frozen hb]
    have hj' : j < cs.length := by simpa using hj
    exact ⟨by rw [Array.getElem?_eq_getElem (by omega)]; rfl, rfl⟩
  · exact setCells_blk g t _ f w old hb
theorem encR_one (x : Re) : ∀ u ∈ encR x, u.oneCell' = true := by
  intro u hu
  simp only [encR, List.mem_cons, List.not_mem_nil, or_false] at hu
  rcases hu with rfl | rfl | rfl | rfl | rfl | rfl | rfl <;> rfl
theorem spansK_succ {l : List Ev} {k : Nat} {m : Ev} (h : l[k]? = some m) (hb : m.beg = true) {s : Sp} (hs : spanOf l k m = s) : spansK l (k + 1) = spansK l k ++ [s] := by
  show spansK l k ++ ((l[k]?).map fun x => if x.beg then [spanOf l k x] else []).getD [] = _
  rw [h]; simp [hb, hs]
theorem spanOf_open {l : List Ev} {k : Nat} {m : Ev} (h : findP l m.job false < 0) : spanOf l k m = ⟨m.c, zeroRe, (k : Int), (l.length : Int), true⟩ := by unfold spanOf; rw [if_pos h]
theorem spanOf_over {l : List Ev} {k : Nat} {m x : Ev} {j : Nat} (h : findP l m.job false = ((j : Nat) : Int)) (hj : l[j]? = some x) : spanOf l k m = ⟨m.c, x.r, (k : Int), ((j : Nat) : Int), false⟩ := by
  unfold spanOf; rw [if_neg (by omega), h, Int.toNat_natCast, hj]; rfl
theorem spansK_len (l : List Ev) : ∀ k, (spansK l k).length ≤ k
  | 0 => Nat.le_refl _
  | k + 1 => by
    have := spansK_len l k
    show (spansK l k ++ _).length ≤ _
    rw [List.length_append]
    cases h : l[k]? with
    | none => simp; omega
    | some x => cases hb : x.beg <;> simp [hb] <;> omega
set_option maxHeartbeats 8000000 in
set_option maxRecDepth 100000 in
theorem spans_calls (A : Option Addr) (c : Nat) (l : List Ev) (w : World) (h : Kd.C kE w A l.length l) (hl : l.length ≤ 1000) :
    Calls Tryz.prog 17 #[.slice A l.length c] w fun e' w' => ∃ v, e' = .returned v ∧ Kd.R kS 57 w' w.heap.size (fun _ => True) v (spansP l) ∧ Below w.heap.size w w' := by
  have HC := Aside0.mk h
  clear h
  go_enter Tryz.func17, Tryz.ntmps17
  go_wp2_with (fail)
  go_loopw [3, 4] (fun v3 v4 wr => ∃ k : Nat, k ≤ l.length ∧ v4 = .int .i64 k ∧ Aside0 (Kd.R kS 57 wr w.heap.size (fun _ => True) v3 (spansK l k)) ∧ Aside0 (Below w.heap.size w wr)) (fun _ v4 _ => l.length - (intOf v4).toNat)
  case atStart => exact ⟨0, Nat.zero_le _, rfl, ⟨Kd.R_nil kS 57 w w.heap.size _⟩, ⟨Below.refl _ _⟩⟩
  case round =>
    obtain ⟨k, hk, rfl, HO, HB⟩ := hrel
    by_cases hlt : k < l.length
    · obtain ⟨m, hm⟩ : ∃ r, l[k]? = some r := ⟨_, List.getElem?_eq_getElem hlt⟩
      obtain ⟨ad, rfl, c0, c1, _⟩ := at_E (Kd.C_below HC.out HB.out) k hlt m hm
      have HM := Aside0.mk hm
      clear hm
      have hml : k < maxLen := by unfold maxLen; omega
      have HML : Aside0 (k ≤ 1000) := ⟨by omega⟩
      cases h5 : m.beg with
      | false =>
        rw [h5] at c1
        have HN : Aside0 (spansK l (k + 1) = spansK l k) := ⟨by show spansK l k ++ ((l[k]?).map fun x => if x.beg then [spanOf l k x] else []).getD [] = _; rw [HM.out]; simp [h5]⟩
        go_wp2_with (fail)
        go_roundw
        case rel => exact ⟨k + 1, hlt, by go_simp, ⟨by rw [HN.out]; exact HO.out⟩, HB⟩
        case measure => simp [intOf]; omega
      | true =>
        rw [h5] at c1
        go_wp2_with (fail)
        refine (find_calls (some ad) c l m.job false _ (Kd.C_below HC.out HB.out) (by omega)).mono ?_
        rintro e1 w1 ⟨rfl, hB⟩
        have HB1 := Aside0.mk (below_step HB.out hB)
        have HO1 := Aside0.mk (Kd.R_below HO.out hB)
        clear hB HO HB c0 c1
        obtain ⟨ad2, he2, hcell⟩ := cellsE (Kd.C_below HC.out HB1.out) k hlt m HM.out
        injection he2 with he2
        subst he2
        have HCE := Aside0.mk hcell
        clear hcell
        obtain ⟨r, hr⟩ : ∃ r, r = findP l m.job false := ⟨_, rfl⟩
        rw [← hr]
        have HRE := Aside0.mk hr
        clear hr
        obtain ⟨rn, hrn⟩ : ∃ rn, rn = decide (r < 0) := ⟨_, rfl⟩
        go_upto_region 8 with (first | ((with_reducible refine gate_dst (N := 30) rfl ?_); refine wpList_load_any (by rfl) 28 (.tmp 29) rfl ⟨(ad.add (k * 19)).block, (ad.add (k * 19)).off + 2, none⟩ rfl (encC m.c) _ (cells_off (by omega) HCE.out (fun _ _ h => evC h)) Tryz.underlying28 rfl s28 ?_) | ((with_reducible refine gate_dst (N := 6) rfl ?_); refine box_event ?hg (N := 6) ?hd (cs := #[.int .i64 0, .slice none 0 0, .int .i64 0, .string ⟨#[]⟩, .string ⟨#[]⟩, .slice none 0 0, .string ⟨#[]⟩, .slice none 0 0, .int .i64 0, .bool false, .int .i64 0, .string ⟨#[]⟩, .int .i64 0, .slice none 0 0, .slice none 0 0, .slice none 0 0, .slice none 0 0, .int .i64 0, .int .i64 0, .bool false]) (t := 57) ?hr ?_; (case hd => rfl); (case hg => rfl); (case hr => first | (go_simp; done) | (go_simp; rfl)); intro gx hg wx hbox hb; have HZ := Aside0.mk hbox; have HGX := Aside0.mk hg; have HBX := Aside0.mk hb; clear hg hbox hb) | (refine wpList_store_new rfl 57 (.tmp 6) (.tmp 35) rfl gx _ (encS ⟨m.c, zeroRe, (k : Int), r, decide (r < 0)⟩) 57 rfl rfl HZ.out rfl s57 (encS_one _) ?_; intro wy hy1 hy2; have HX := Aside0.mk hy1; have HBY : Aside0 (Below w1.heap.size w1 wy) := ⟨below_grown HBX.out hy2 HBX.out.size (fun k hk => by injection hk with hk; rw [← hk, HGX.out]; exact Nat.le_refl _)⟩; clear hy1 hy2 HZ HBX))
        have HB2 := Aside0.mk (below_step HB1.out HBY.out)
        have HGE : Aside0 (w1.heap.size ≤ gx) := ⟨by rw [HGX.out]; exact Nat.le_refl _⟩
        clear HGX
        by_cases h6 : r < 0
        · have d6 : decide (r < 0) = true := decide_eq_true h6
          rw [d6] at HX
          have f18 := blk_frozen HX.out 18
          have f18b : wy.cell? ⟨gx, 18, none⟩ = some (.int .i64 r) := (blk_cell HX.out 18).trans rfl
          go_upto_region 11 with (fail)
          have HK9 := Aside0.mk (blk_put HX.out 18 (.int .i64 (l.length : Int)) (show _ = (encS ⟨m.c, zeroRe, (k : Int), (l.length : Int), true⟩).toArray from rfl))
          have HB9 := Aside0.mk (below_set (j := 18) (v := .int .i64 (l.length : Int)) HBY.out HGE.out)
          generalize wy.setCell ⟨gx, 18, none⟩ (.int .i64 (l.length : Int)) = W9 at HK9 HB9 ⊢
          clear f18 f18b HX HBY HB2
          have HO9 := Aside0.mk (Kd.R_below HO1.out HB9.out)
          have HBA := Aside0.mk (below_step HB1.out HB9.out)
          have HNS := Aside0.mk (spansK_succ HM.out h5 (spanOf_open (HRE.out ▸ h6)))
          clear HO1 HB9 HB1
          go_wp2_with (first | ((with_reducible refine gate_dst (N := 48) rfl ?_); refine wpList_load_any (by rfl) 57 (.tmp 6) rfl ⟨gx, 0, none⟩ rfl (encS (⟨m.c, zeroRe, (k : Int), (l.length : Int), true⟩ : Sp)) _ (cells_blk HK9.out) Tryz.underlying57 rfl s57 ?_) | ((with_reducible refine gate_builtin (b := .append) (xs := #[.tmp 47, .tmp 49]) rfl ?_); at_builtin; refine Kd.R_append kS (w0 := w) w.heap.size rfl (.tmp 47) (.tmp 49) 53 57 (.agg #[(.int .i64 0), (.slice none 0 0), (.int .i64 0), (.string ⟨#[]⟩), (.string ⟨#[]⟩), (.slice none 0 0), (.string ⟨#[]⟩), (.slice none 0 0), (.int .i64 0), (.bool false), (.int .i64 0), (.string ⟨#[]⟩), (.int .i64 0), (.slice none 0 0), (.slice none 0 0), (.slice none 0 0), (.slice none 0 0), (.int .i64 0), (.int .i64 0), (.bool false)]) 304 rfl Tryz.underlying53 info57 rfl (by decide) (by omega) u3 (spansK l k) (⟨m.c, zeroRe, (k : Int), (l.length : Int), true⟩ : Sp) (encS (⟨m.c, zeroRe, (k : Int), (l.length : Int), true⟩ : Sp)) (fun _ => True) (fun _ => False) rfl rfl ?aP (fun _ hk => hk.elim) ?aF ?aO ?aB ?aS ?aL ?_; (case aP => exact rfl); (case aB => exact HBA.out); (case aF => exact fun _ _ => trivial); (case aO => exact HO9.out); (case aS => exact below_size HBA.out); (case aL => have := spansK_len l k; have := HML.out; omega); intro v182 w9 ho hb hg hat; have HOZ := Aside0.mk ho; have HBZ := Aside0.mk hb; clear ho hb hg hat HO9 HBA))
          go_roundw
          case rel => exact ⟨k + 1, hlt, by go_simp, ⟨by rw [HNS.out]; exact HOZ.out⟩, HBZ⟩
          case measure => simp [intOf]; omega
        · have d6 : decide (r < 0) = false := decide_eq_false h6
          rw [d6] at HX
          obtain ⟨j, x, hj, hx⟩ : ∃ j x, r = ((j : Nat) : Int) ∧ l[j]? = some x := by
            rcases findP_range l m.job false with h | ⟨j, x, h, h2⟩
            · exact absurd (show r < 0 by rw [HRE.out, h]; decide) h6
            · exact ⟨j, x, HRE.out.trans h, h2⟩
          have HJ := Aside0.mk hx
          have hjl : j < l.length := (List.getElem?_eq_some_iff.1 hx).1
          clear hx
          subst hj
          obtain ⟨ad3, he3, hcell3⟩ := cellsE (Kd.C_below HC.out HB2.out) j hjl x HJ.out
          injection he3 with he3
          subst he3
          have HCR := Aside0.mk hcell3
          clear hcell3
          have e7 : (0 : Int) ≤ (j : Int) := Int.natCast_nonneg j
          have e8 : (j : Int) < (l.length : Int) := by omega
          go_upto_region 11 with (first | ((with_reducible refine gate_dst (N := 45) rfl ?_); refine wpList_load_any (by rfl) 32 (.tmp 44) rfl ⟨(ad.add (j * 19)).block, (ad.add (j * 19)).off + 12, none⟩ rfl (encR x.r) _ (cells_off (by omega) HCR.out (fun _ _ h => evR h)) Tryz.underlying32 rfl s32 ?_) | (refine wpList_store_off rfl 32 (.tmp 46) (.tmp 45) rfl gx 10 _ (encR x.r) 57 rfl rfl HX.out (by show 10 + 7 ≤ 20; omega) s32 (encR_one _) ?_; intro wz hz1 hz2; have HK9 : Aside0 (wz.heap[gx]? = some (.cells (encS (⟨m.c, x.r, (k : Int), ((j : Nat) : Int), false⟩ : Sp)).toArray 57 (0, 0))) := ⟨hz1⟩; have HB9 : Aside0 (Below w1.heap.size w1 wz) := ⟨below_grown HBY.out hz2 HBY.out.size (fun k hk => by injection hk with hk; rw [← hk]; exact HGE.out)⟩; clear hz1 hz2 HX HBY HB2))
          have HO9 := Aside0.mk (Kd.R_below HO1.out HB9.out)
          have HBA := Aside0.mk (below_step HB1.out HB9.out)
          have HNS := Aside0.mk (spansK_succ HM.out h5 (spanOf_over HRE.out.symm HJ.out))
          clear HO1 HB9 HB1
          go_wp2_with (first | ((with_reducible refine gate_dst (N := 48) rfl ?_); refine wpList_load_any (by rfl) 57 (.tmp 6) rfl ⟨gx, 0, none⟩ rfl (encS (⟨m.c, x.r, (k : Int), ((j : Nat) : Int), false⟩ : Sp)) _ (cells_blk HK9.out) Tryz.underlying57 rfl s57 ?_) | ((with_reducible refine gate_builtin (b := .append) (xs := #[.tmp 47, .tmp 49]) rfl ?_); at_builtin; refine Kd.R_append kS (w0 := w) w.heap.size rfl (.tmp 47) (.tmp 49) 53 57 (.agg #[(.int .i64 0), (.slice none 0 0), (.int .i64 0), (.string ⟨#[]⟩), (.string ⟨#[]⟩), (.slice none 0 0), (.string ⟨#[]⟩), (.slice none 0 0), (.int .i64 0), (.bool false), (.int .i64 0), (.string ⟨#[]⟩), (.int .i64 0), (.slice none 0 0), (.slice none 0 0), (.slice none 0 0), (.slice none 0 0), (.int .i64 0), (.int .i64 0), (.bool false)]) 304 rfl Tryz.underlying53 info57 rfl (by decide) (by omega) u3 (spansK l k) (⟨m.c, x.r, (k : Int), ((j : Nat) : Int), false⟩ : Sp) (encS (⟨m.c, x.r, (k : Int), ((j : Nat) : Int), false⟩ : Sp)) (fun _ => True) (fun _ => False) rfl rfl ?aP (fun _ hk => hk.elim) ?aF ?aO ?aB ?aS ?aL ?_; (case aP => exact rfl); (case aB => exact HBA.out); (case aF => exact fun _ _ => trivial); (case aO => exact HO9.out); (case aS => exact below_size HBA.out); (case aL => have := spansK_len l k; have := HML.out; omega); intro v182 w9 ho hb hg hat; have HOZ := Aside0.mk ho; have HBZ := Aside0.mk hb; clear ho hb hg hat HO9 HBA))
          go_roundw
          case rel => exact ⟨k + 1, hlt, by go_simp, ⟨by rw [HNS.out]; exact HOZ.out⟩, HBZ⟩
          case measure => simp [intOf]; omega
    · obtain rfl : k = l.length := by omega
      go_wp2_with (fail)
      go_ret
      exact ⟨_, rfl, HO.out, HB.out⟩
end Go.Proofs.YtkicenkljjpcfaaGreatDoor.Q
/- The reference's Judge, walked. -/
set_option linter.unusedSimpArgs false
namespace Go.Proofs.YtkicenkljjpcfaaGreatDoor.Q
open Go.RowKit Go.Proofs.YtkicenkljjpcfaaGreatDoorW.PrintWords Go.Proofs.YtkicenkljjpcfaaGreatDoorW.PrintLast Go.Proofs.YtkicenkljjpcfaaGreatDoorW.PrintMore
def badStep (all : List Sp) (bd : Int) (s : Sp) : Int := if wrongP all s && (bd == 0 || decide (wrap64 (s.e + 1) < bd)) then wrap64 (s.e + 1) else bd
def badK (all : List Sp) (k : Nat) : Int := (all.take k).foldl (badStep all) 0
def judgeP (l : List Ev) : Int := if checkP l then badK (spansP l) (spansP l).length else 0
theorem badK_succ {all : List Sp} {k : Nat} {m : Sp} (h : all[k]? = some m) : badK all (k + 1) = badStep all (badK all k) m := by
  unfold badK; rw [List.take_add_one, h, List.foldl_append]; rfl
/-- What stands behind an event's slices is read there; how long it is. -/
def RdE (w : World) (x : Ev) : Prop := RdC w x.c ∧ RdR w x.r
def LenE (x : Ev) : Prop := x.r.jN ≤ 10000 ∧ x.c.iN ≤ 10000 ∧ (x.c.eN ≤ 10000 ∧ ∀ e ∈ x.c.ents, e.f0.size ≤ 1048576) ∧ x.r.fN ≤ 10000 ∧ x.c.path.size ≤ 1048576
theorem RdR.zero (w : World) : RdR w zeroRe := ⟨⟨Nat.le_refl _, rfl, Kd.C_nil _ _⟩, ⟨Nat.le_refl _, rfl, Kd.C_nil _ _⟩⟩
theorem span_all {P : Sp → Prop} (l : List Ev) (h1 : ∀ x ∈ l, ∀ y ∈ l, ∀ b e o, P ⟨x.c, y.r, b, e, o⟩) (h2 : ∀ x ∈ l, ∀ b e o, P ⟨x.c, zeroRe, b, e, o⟩) : ∀ s ∈ spansP l, P s := by
  have one : ∀ k x, l[k]? = some x → P (spanOf l k x) := by
    intro k x hx
    have hm := List.mem_of_getElem? hx
    unfold spanOf
    split
    · exact h2 x hm _ _ _
    · cases hy : l[(findP l x.job false).toNat]? with
      | none => exact h2 x hm _ _ _
      | some y => exact h1 x hm y (List.mem_of_getElem? hy) _ _ _
  have all : ∀ k, ∀ s ∈ spansK l k, P s := by
    intro k
    induction k with
    | zero => intro s hs; cases hs
    | succ k ih =>
      intro s hs
      rcases List.mem_append.1 (show s ∈ spansK l k ++ _ from hs) with h | h
      · exact ih s h
      · cases hx : l[k]? with
        | none => rw [hx] at h; cases h
        | some x =>
          rw [hx] at h
          cases hb : x.beg with
          | false => simp [hb] at h
          | true => simp [hb] at h; rw [h]; exact one k x hx
  exact all _
theorem spans_rd {w : World} {l : List Ev} (h : ∀ x ∈ l, RdE w x) : ∀ s ∈ spansP l, RdS w s :=
  span_all l (fun x hx y hy _ _ _ => ⟨(h x hx).1, (h y hy).2⟩) (fun x hx _ _ _ => ⟨(h x hx).1, RdR.zero w⟩)
theorem spans_len {l : List Ev} (h : ∀ x ∈ l, LenE x) : ∀ s ∈ spansP l, LenS s :=
  span_all l (fun x hx y hy _ _ _ => ⟨(h y hy).1, (h x hx).2.1, (h x hx).2.2.1, (h y hy).2.2.2.1, (h x hx).2.2.2.2⟩) (fun x hx _ _ _ => ⟨Nat.zero_le _, (h x hx).2.1, (h x hx).2.2.1, Nat.zero_le _, (h x hx).2.2.2.2⟩)
set_option maxHeartbeats 8000000 in
set_option maxRecDepth 100000 in
theorem judge_calls (A : Option Addr) (c : Nat) (l : List Ev) (w : World) (h : Kd.C kE w A l.length l) (hl : l.length ≤ 1000) (hr : ∀ x ∈ l, RdE w x) (hn : ∀ x ∈ l, LenE x) :
    Calls Tryz.prog 6 #[.slice A l.length c] w fun e' w' => e' = .returned (.tuple #[.int .i64 (judgeP l), .int .i64 (ckC (checkP l))]) ∧ Below w.heap.size w w' := by
  have HC := Aside0.mk h
  have HS := Aside0.mk (spans_rd hr)
  have HL := Aside0.mk (spans_len hn)
  clear h hr hn
  go_enter Tryz.func6, Tryz.ntmps6
  go_wp2_with (fail)
  refine (check_calls A c l w HC.out (by omega)).mono ?_
  rintro e1 w1 ⟨rfl, hB⟩
  have HB1 := Aside0.mk hB
  clear hB
  cases hck : checkP l with
  | false =>
    have HJ : Aside0 (judgeP l = 0) := ⟨by unfold judgeP; rw [hck]; rfl⟩
    have HCK := Aside0.mk hck
    clear hck
    unfold ckC
    go_wp2_with (fail)
    go_ret2
    exact ⟨by rw [HJ.out, HCK.out]; rfl, HB1.out⟩
  | true =>
    have HJ : Aside0 (judgeP l = badK (spansP l) (spansP l).length) := ⟨by unfold judgeP; rw [hck]; rfl⟩
    have HCK := Aside0.mk hck
    clear hck
    unfold ckC
    go_wp2_with (fail)
    refine (spans_calls A c l w1 (Kd.C_below HC.out HB1.out) hl).mono ?_
    rintro e2 w2 ⟨v, rfl, hR, hB⟩
    obtain ⟨Ap, cp, rfl, hcp, hCp⟩ := Kd.R_reads hR
    have HB2 := Aside0.mk (below_step HB1.out hB)
    have HCS : Aside0 (CS w2 Ap (spansP l)) := ⟨⟨hCp, fun s hs => (HS.out s hs).below HB2.out⟩⟩
    have hsl : (spansP l).length ≤ 1000 := Nat.le_trans (spansK_len l _) hl
    clear hB hR hcp hCp
    go_wp2_with (fail)
    go_loopw [6, 7] (fun v6 v7 wr => ∃ k : Nat, k ≤ (spansP l).length ∧ v6 = .int .i64 (badK (spansP l) k) ∧ v7 = .int .i64 k ∧ Aside0 (Below w2.heap.size w2 wr)) (fun _ v7 _ => (spansP l).length - (intOf v7).toNat)
    case atStart => exact ⟨0, Nat.zero_le _, rfl, rfl, ⟨Below.refl _ _⟩⟩
    case round =>
      obtain ⟨k, hk, rfl, rfl, HW⟩ := hrel
      obtain ⟨bd, hbd⟩ : ∃ bd, bd = badK (spansP l) k := ⟨_, rfl⟩
      rw [← hbd]
      have HBD := Aside0.mk hbd.symm
      clear hbd
      by_cases hlt : k < (spansP l).length
      · obtain ⟨m, hm⟩ : ∃ r, (spansP l)[k]? = some r := ⟨_, List.getElem?_eq_getElem hlt⟩
        have hrm : m ∈ (spansP l) := List.mem_of_getElem? hm
        obtain ⟨ad, rfl, hcell⟩ := cellsS (HCS.out.below HW.out).1 k hlt m hm
        have HCE := Aside0.mk hcell
        have HRD := Aside0.mk (((HCS.out.below HW.out).2 m hrm))
        have HLN := Aside0.mk (HL.out m hrm)
        have HM := Aside0.mk hm
        clear hm hrm hcell
        have hml : k < maxLen := by unfold maxLen; omega
        go_wp2_with (((with_reducible refine gate_dst (N := 25) rfl ?_); refine wpList_load_any (by rfl) 57 (.tmp 24) rfl (ad.add (k * 20)) rfl (encS m) _ (HCE.out) Tryz.underlying57 rfl s57 ?_))
        refine (wrong_calls (some ad) cp (spansP l) m _ (HCS.out.below HW.out) (by omega) HL.out HRD.out HLN.out).mono ?_
        rintro e3 w3 ⟨rfl, hB⟩
        have HWZ := Aside0.mk (below_step HW.out hB)
        have y18 : w3.cell? ⟨(ad.add (k * 20)).block, (ad.add (k * 20)).off + 18, none⟩ = some (.int .i64 m.e) := pw_cell_below hB ((addf ad (k * 20) 18 (by omega)) ▸ HCE.out 18 _ rfl)
        clear hB HW HCE HRD HLN
        cases h5 : wrongP (spansP l) m with
        | false =>
          have HN : Aside0 (badK (spansP l) (k + 1) = bd) := ⟨by rw [badK_succ HM.out, HBD.out]; unfold badStep; rw [h5]; rfl⟩
          go_wp2_with (fail)
          go_roundw
          case rel => exact ⟨k + 1, hlt, by rw [HN.out], by go_simp, HWZ⟩
          case measure => simp [intOf]; omega
        | true =>
          by_cases h6 : bd = 0
          · have e6 : (bd == 0) = true := beq_iff_eq.2 h6
            clear h6
            have HN : Aside0 (badK (spansP l) (k + 1) = wrap64 (m.e + 1)) := ⟨by rw [badK_succ HM.out, HBD.out]; unfold badStep; rw [h5, e6]; rfl⟩
            go_wp2_with (fail)
            go_roundw
            case rel => exact ⟨k + 1, hlt, by rw [HN.out]; try rfl, by go_simp, HWZ⟩
            case measure => simp [intOf]; omega
          · have e6 : (bd == 0) = false := beq_eq_false_iff_ne.2 h6
            by_cases h7 : wrap64 (m.e + 1) < bd
            · have e7 : decide (wrap64 (m.e + 1) < bd) = true := decide_eq_true h7
              have HN : Aside0 (badK (spansP l) (k + 1) = wrap64 (m.e + 1)) := ⟨by rw [badK_succ HM.out, HBD.out]; unfold badStep; rw [h5, e6, e7]; rfl⟩
              go_wp2_with (fail)
              go_roundw
              case rel => exact ⟨k + 1, hlt, by rw [HN.out]; try rfl, by go_simp, HWZ⟩
              case measure => simp [intOf]; omega
            · have e7 : decide (wrap64 (m.e + 1) < bd) = false := decide_eq_false h7
              have HN : Aside0 (badK (spansP l) (k + 1) = bd) := ⟨by rw [badK_succ HM.out, HBD.out]; unfold badStep; rw [h5, e6, e7]; rfl⟩
              go_wp2_with (fail)
              go_roundw
              case rel => exact ⟨k + 1, hlt, by rw [HN.out], by go_simp, HWZ⟩
              case measure => simp [intOf]; omega
      · obtain rfl : k = (spansP l).length := by omega
        go_wp2_with (fail)
        go_ret2
        exact ⟨by rw [HJ.out, HBD.out, HCK.out]; rfl, below_step HB2.out HW.out⟩
end Go.Proofs.YtkicenkljjpcfaaGreatDoor.Q
/- Texts in order, each once; one put among them. -/
namespace Go.Proofs.YtkicenkljjpcfaaGreatDoor.Q
open Go.RowKit Go.Proofs.YtkicenkljjpcfaaGreatDoorW.PrintWords Go.Proofs.YtkicenkljjpcfaaGreatDoorW.PrintLast Go.Proofs.YtkicenkljjpcfaaGreatDoorW.PrintMore
theorem bl_irrefl : ∀ x : List UInt8, Op.bytesLess x x = false
  | [] => rfl
  | a :: x => by
    rw [Op.bytesLess, bl_irrefl x]
    simp
theorem bl_trans : ∀ x y z : List UInt8, Op.bytesLess x y = true → Op.bytesLess y z = true → Op.bytesLess x z = true
  | _, [], _, h, _ => by simp [Op.bytesLess] at h
  | _, _ :: _, [], _, h => by simp [Op.bytesLess] at h
  | [], _ :: _, _ :: _, _, _ => rfl
  | a :: x, b :: y, c :: z, h, h' => by
    simp only [Op.bytesLess, Bool.or_eq_true, decide_eq_true_eq, Bool.and_eq_true, beq_iff_eq] at h h' ⊢
    rcases h with h | ⟨rfl, h⟩
    · rcases h' with h' | ⟨rfl, h'⟩
      · exact .inl (UInt8.lt_trans h h')
      · exact .inl h
    · rcases h' with h' | ⟨rfl, h'⟩
      · exact .inl h'
      · exact .inr ⟨rfl, bl_trans x y z h h'⟩
theorem bl_tri : ∀ x y : List UInt8, Op.bytesLess x y = false → Op.bytesLess y x = false → x = y
  | [], [], _, _ => rfl
  | [], _ :: _, h, _ => by simp [Op.bytesLess] at h
  | _ :: _, [], _, h => by simp [Op.bytesLess] at h
  | a :: x, b :: y, h, h' => by
    simp only [Op.bytesLess, Bool.or_eq_false_iff, decide_eq_false_iff_not] at h h'
    have hab : a = b := by
      apply UInt8.toNat_inj.1
      have h1 := h.1
      have h2 := h'.1
      rw [UInt8.lt_iff_toNat_lt] at h1 h2
      omega
    subst hab
    have h1 := h.2
    have h2 := h'.2
    simp only [beq_self_eq_true, Bool.true_and] at h1 h2
    rw [bl_tri x y h1 h2]
theorem bl_lt : ∀ x y : List UInt8, Op.bytesLess x y = true ↔ x < y
  | [], [] => by simp [Op.bytesLess]
  | [], _ :: _ => by simp [Op.bytesLess]
  | _ :: _, [] => by simp [Op.bytesLess]
  | a :: x, b :: y => by
    rw [Op.bytesLess, List.cons_lt_cons_iff, ← bl_lt x y]
    simp
/-- In order, each once. -/
def Rising (l : List ByteArray) : Prop := l.Pairwise fun a b => Op.bytesLess a.toList b.toList = true
theorem rising_eq : ∀ {l r : List ByteArray}, Rising l → Rising r → (∀ s, s ∈ l ↔ s ∈ r) → l = r
  | [], [], _, _, _ => rfl
  | [], b :: r, _, _, h => by have := (h b).2 (by simp); simp at this
  | a :: l, [], _, _, h => by have := (h a).1 (by simp); simp at this
  | a :: l, b :: r, hl, hr, h => by
    obtain ⟨h1, h2⟩ := List.pairwise_cons.1 hl
    obtain ⟨h3, h4⟩ := List.pairwise_cons.1 hr
    have nl : ∀ {x y : ByteArray}, Op.bytesLess x.toList y.toList = true → Op.bytesLess y.toList x.toList = true → False := fun {x y} hx hy => by
      have := bl_trans _ _ _ hx hy
      rw [bl_irrefl] at this
      cases this
    have hab : a = b := by
      rcases List.mem_cons.1 ((h a).1 (by simp)) with e | e
      · exact e
      · rcases List.mem_cons.1 ((h b).2 (by simp)) with e' | e'
        · exact e'.symm
        · exact (nl (h3 _ e) (h1 _ e')).elim
    subst hab
    congr 1
    refine rising_eq h2 h4 fun s => ?_
    have hs := h s
    simp only [List.mem_cons] at hs
    constructor
    · intro hm
      rcases hs.1 (.inr hm) with e | e
      · subst e
        exact (nl (h1 _ hm) (h1 _ hm)).elim
      · exact e
    · intro hm
      rcases hs.2 (.inr hm) with e | e
      · subst e
        exact (nl (h3 _ hm) (h3 _ hm)).elim
      · exact e
theorem bl_total {a b : ByteArray} (h : Op.bytesLess a.toList b.toList = false) (hne : a ≠ b) : Op.bytesLess b.toList a.toList = true := by
  cases h2 : Op.bytesLess b.toList a.toList with
  | true => rfl
  | false => exact absurd (eq_of_toList (bl_tri _ _ h h2)) hne
/-- A text put where it belongs. -/
theorem ins_rising {o : List ByteArray} {p : ByteArray} {j : Nat} (hr : Rising o) (hj : j ≤ o.length) (h1 : ∀ t s, t < j → o[t]? = some s → Op.bytesLess s.toList p.toList = true) (h2 : ∀ s, o[j]? = some s → Op.bytesLess s.toList p.toList = false ∧ s ≠ p) :
    Rising (o.take j ++ p :: o.drop j) ∧ ∀ s, s ∈ o.take j ++ p :: o.drop j ↔ s ∈ o ∨ s = p := by
  have hm : ∀ s, s ∈ o.take j ++ p :: o.drop j ↔ s ∈ o ∨ s = p := fun s => by
    conv => rhs; rw [← List.take_append_drop j o]
    simp only [List.mem_append, List.mem_cons]
    constructor
    · rintro (h | h | h)
      · exact .inl (.inl h)
      · exact .inr h
      · exact .inl (.inr h)
    · rintro ((h | h) | h)
      · exact .inl h
      · exact .inr (.inr h)
      · exact .inr (.inl h)
  have ht : ∀ s ∈ o.take j, Op.bytesLess s.toList p.toList = true := fun s hs => by
    obtain ⟨t, ht, rfl⟩ := List.getElem_of_mem hs
    have htj : t < j := by have := List.length_take_le j o; rw [List.length_take] at ht; omega
    rw [List.getElem_take]
    exact h1 t _ htj (List.getElem?_eq_getElem (by omega))
  have hd : ∀ s ∈ o.drop j, Op.bytesLess p.toList s.toList = true := fun s hs => by
    obtain ⟨t, ht, rfl⟩ := List.getElem_of_mem hs
    rw [List.length_drop] at ht
    rw [List.getElem_drop]
    have hjl : j < o.length := by omega
    obtain ⟨h3, h4⟩ := h2 _ (List.getElem?_eq_getElem hjl)
    have h5 := bl_total h3 h4
    rcases Nat.eq_zero_or_pos t with h6 | h6
    · subst h6; exact h5
    · exact bl_trans _ _ _ h5 (List.pairwise_iff_getElem.1 hr j (j + t) hjl (by omega) (by omega))
  refine ⟨?_, hm⟩
  have hsp : Rising (o.take j ++ o.drop j) := by rw [List.take_append_drop]; exact hr
  obtain ⟨p1, p2, p3⟩ := List.pairwise_append.1 hsp
  refine List.pairwise_append.2 ⟨p1, List.pairwise_cons.2 ⟨hd, p2⟩, fun a ha b hb => ?_⟩
  rcases List.mem_cons.1 hb with rfl | hb
  · exact ht a ha
  · exact p3 a ha b hb
theorem drop9 {w : World} {ad : Addr} {L : List ByteArray} {i : Nat} (h : Kd.C Kd.string w (some ad) L.length L) (hi : i < L.length) : Kd.C Kd.string w (some (ad.add i)) (L.length - i) (L.drop i) := by
  have := Kd.C_drop (c := i + 1 + L.length) h (Nat.le_of_lt hi) (by omega)
  rw [if_neg (by omega), List.length_drop] at this
  have h1 : Kd.string.sz = 1 := rfl
  simpa [h1] using this
theorem dropE9 {w : World} {A : Option Addr} {L : List ByteArray} {m : Nat} (h : L = []) (hm : m = 0) : Kd.C Kd.string w A m L := by
  subst h hm
  exact ⟨rfl, Nat.zero_le _, fun h => absurd h (Nat.lt_irrefl _)⟩
theorem flat_M9 {w W : World} {base : Nat} {ok : Nat → Prop} {x : ByteArray} {cs : List Value} (h : Kd.K Kd.string w x cs) : Kd.M Kd.string W base ok x cs := h
end Go.Proofs.YtkicenkljjpcfaaGreatDoor.Q
/- The reference's Sure, walked. -/
set_option linter.unusedSimpArgs false
namespace Go.Proofs.YtkicenkljjpcfaaGreatDoor.Q
open Go.RowKit Go.Proofs.YtkicenkljjpcfaaGreatDoorW.PrintWords Go.Proofs.YtkicenkljjpcfaaGreatDoorW.PrintLast Go.Proofs.YtkicenkljjpcfaaGreatDoorW.PrintMore
/-- Is what a span made sure at the end? -/
def sureQ (l : List Ev) (m : Sp) : Bool := madeP m m.r.id && sureP (spansP l) m.r.id l.length l.length
set_option maxHeartbeats 8000000 in
set_option maxRecDepth 100000 in
theorem rsure_calls (A : Option Addr) (c : Nat) (l : List Ev) (w : World) (h : Kd.C kE w A l.length l) (hl : l.length ≤ 1000) (hr : ∀ x ∈ l, RdE w x) (hn : ∀ x ∈ l, LenE x) :
    Calls Tryz.prog 8 #[.slice A l.length c] w fun e' w' => ∃ v rs, e' = .returned (.tuple #[v, .int .i64 (ckC (checkP l))]) ∧ Kd.R Kd.string 9 w' w.heap.size (fun _ => True) v rs ∧ Rising rs ∧ (∀ s, s ∈ rs ↔ checkP l = true ∧ ∃ m ∈ spansP l, sureQ l m = true ∧ m.r.id = s) ∧ rs.length ≤ 1000 ∧ Below w.heap.size w w' := by
  have HC := Aside0.mk h
  have HS := Aside0.mk (spans_rd hr)
  have HL := Aside0.mk (spans_len hn)
  clear h hr hn
  go_enter Tryz.func8, Tryz.ntmps8
  go_wp2_with (fail)
  refine (check_calls A c l w HC.out (by omega)).mono ?_
  rintro e1 w1 ⟨rfl, hB⟩
  have HB1 := Aside0.mk hB
  clear hB
  cases hck : checkP l with
  | false =>
    have HCK := Aside0.mk hck
    clear hck
    unfold ckC
    go_wp2_with (fail)
    go_ret2
    exact ⟨_, [], by rw [HCK.out]; rfl, Kd.R_nil Kd.string 9 _ _ _, List.Pairwise.nil, fun s => by rw [HCK.out]; simp, Nat.zero_le _, HB1.out⟩
  | true =>
    have HCK := Aside0.mk hck
    clear hck
    unfold ckC
    go_wp2_with (fail)
    refine (spans_calls A c l w1 (Kd.C_below HC.out HB1.out) hl).mono ?_
    rintro e2 w2 ⟨v, rfl, hR, hB⟩
    obtain ⟨Ap, cp, rfl, hcp, hCp⟩ := Kd.R_reads hR
    have HB2 := Aside0.mk (below_step HB1.out hB)
    have HCS : Aside0 (CS w2 Ap (spansP l)) := ⟨⟨hCp, fun s hs => (HS.out s hs).below HB2.out⟩⟩
    have hsl : (spansP l).length ≤ 1000 := Nat.le_trans (spansK_len l _) hl
    clear hB hR hcp hCp
    go_wp2_with (fail)
    go_loopw [6, 7] (fun v6 v7 w3 => ∃ k : Nat, k ≤ (spansP l).length ∧ v7 = .int .i64 k ∧ ∃ o, Aside0 (Kd.R Kd.string 9 w3 w2.heap.size (fun _ => True) v6 o) ∧ Aside0 (Rising o) ∧ Aside0 (∀ s, s ∈ o ↔ ∃ m ∈ (spansP l).take k, sureQ l m = true ∧ m.r.id = s) ∧ Aside0 (o.length ≤ k) ∧ Aside0 (Below w2.heap.size w2 w3)) (fun _ v7 _ => (spansP l).length - (intOf v7).toNat)
    case atStart => exact ⟨0, Nat.zero_le _, rfl, [], ⟨Kd.R_nil Kd.string 9 _ _ _⟩, ⟨List.Pairwise.nil⟩, ⟨fun s => by simp⟩, ⟨Nat.le_refl _⟩, ⟨Below.refl _ _⟩⟩
    case round =>
      obtain ⟨k, hk, rfl, o, HO, HRI, HME, HLE, HB⟩ := hrel
      by_cases hlt : k < (spansP l).length
      · obtain ⟨m, hm⟩ : ∃ r, (spansP l)[k]? = some r := ⟨_, List.getElem?_eq_getElem hlt⟩
        have hrm : m ∈ (spansP l) := List.mem_of_getElem? hm
        obtain ⟨ad, hA, hcell⟩ := cellsS (HCS.out.below HB.out).1 k hlt m hm
        have HCE := Aside0.mk hcell
        have HAP := Aside0.mk hA
        subst hA
        have HY : Aside0 (∀ z, (∃ y ∈ (spansP l).take (k + 1), sureQ l y = true ∧ y.r.id = z) ↔ (∃ y ∈ (spansP l).take k, sureQ l y = true ∧ y.r.id = z) ∨ (sureQ l m = true ∧ m.r.id = z)) := ⟨fun z => by
          rw [List.take_add_one, hm]
          constructor
          · rintro ⟨x, hx, h1⟩
            rcases List.mem_append.1 hx with h | h
            · exact .inl ⟨x, h, h1⟩
            · obtain rfl : x = m := by simpa using h
              exact .inr h1
          · rintro (⟨x, hx, h1⟩ | h1)
            · exact ⟨x, List.mem_append_left _ hx, h1⟩
            · exact ⟨m, by simp, h1⟩⟩
        have hol : o.length ≤ 1000 := by have := HLE.out; omega
        have hml : k < maxLen := by unfold maxLen; omega
        have y11 := (addf ad (k * 20) 11 (by omega)) ▸ hcell 11 _ rfl
        clear hm hrm hcell HAP
        go_wp2_with (((with_reducible refine gate_dst (N := 33) rfl ?_); refine wpList_load_any (by rfl) 57 (.tmp 32) rfl (ad.add (k * 20)) rfl (encS m) _ (HCE.out) Tryz.underlying57 rfl s57 ?_))
        refine (made_calls m m.r.id _).mono ?_
        rintro e3 w4 ⟨rfl, hB⟩
        have HB4 := Aside0.mk hB
        clear hB y11 HCE
        obtain ⟨v6, hv6⟩ : ∃ v6, v6 = u6 := ⟨_, rfl⟩
        cases h5 : madeP m m.r.id with
        | false =>
          have HM2 : Aside0 (∀ z, z ∈ o ↔ ∃ y ∈ (spansP l).take (k + 1), sureQ l y = true ∧ y.r.id = z) := ⟨fun z => by rw [HY.out z, HME.out]; constructor; exact .inl; rintro (h | ⟨hq, _⟩); exact h; rw [show sureQ l m = false from by unfold sureQ; rw [h5]; rfl] at hq; cases hq⟩
          clear HY HME
          go_wp2_with (fail)
          go_roundw
          case rel => exact ⟨k + 1, by omega, by go_num, o, ⟨Kd.R_below HO.out HB4.out⟩, HRI, HM2, ⟨by have := HLE.out; omega⟩, ⟨below_step HB.out HB4.out⟩⟩
          case measure => simp [intOf]; omega
        | true =>
          go_wp2_with (fail)
          refine (sure_calls (some ad) cp (spansP l) m.r.id l.length l.length _ (HCS.out.below (below_step HB.out HB4.out)) (by omega) HL.out).mono ?_
          rintro e5 w5 ⟨rfl, hB⟩
          have HB5 := Aside0.mk (below_step HB4.out hB)
          clear hB HB4
          cases h6 : sureP (spansP l) m.r.id l.length l.length with
          | false =>
            have HM2 : Aside0 (∀ z, z ∈ o ↔ ∃ y ∈ (spansP l).take (k + 1), sureQ l y = true ∧ y.r.id = z) := ⟨fun z => by rw [HY.out z, HME.out]; constructor; exact .inl; rintro (h | ⟨hq, _⟩); exact h; rw [show sureQ l m = false from by unfold sureQ; rw [h5, h6]; rfl] at hq; cases hq⟩
            clear HY HME
            go_wp2_with (fail)
            go_roundw
            case rel => exact ⟨k + 1, by omega, by go_num, o, ⟨Kd.R_below HO.out HB5.out⟩, HRI, HM2, ⟨by have := HLE.out; omega⟩, ⟨below_step HB.out HB5.out⟩⟩
            case measure => simp [intOf]; omega
          | true =>
            have HY2 : Aside0 (∀ z, (∃ y ∈ (spansP l).take (k + 1), sureQ l y = true ∧ y.r.id = z) ↔ z ∈ o ∨ z = m.r.id) := ⟨fun z => by
              rw [HY.out z, ← HME.out z, show sureQ l m = true from by unfold sureQ; rw [h5, h6]; rfl]
              constructor
              · rintro (h | ⟨_, h⟩)
                · exact .inl h
                · exact .inr h.symm
              · rintro (h | h)
                · exact .inl h
                · exact .inr ⟨rfl, h.symm⟩⟩
            have HO5 := Aside0.mk (Kd.R_below HO.out HB5.out)
            have HBX := Aside0.mk (below_step HB.out HB5.out)
            clear h5 h6 HY HME HB HO HB5
            generalize m.r.id = p at HY2 ⊢
            have HO := HO5
            have HB := HBX
            clear HO5 HBX
            generalize w5 = wr at HO HB ⊢
            obtain ⟨A3, c3, h3, hle3, hC3⟩ := Kd.R_reads HO.out
            subst h3
            have HC3 := Aside0.mk hC3
            clear hC3
            go_wp2_with (fail)
            go_loopw [9] (fun v9 w9 => ∃ j : Nat, j ≤ o.length ∧ v9 = .int .i64 j ∧ Aside0 (∀ t s, t < j → o[t]? = some s → Op.bytesLess s.toList p.toList = true) ∧ w9 = wr) (fun v9 _ => o.length - (intOf v9).toNat)
            case atStart => exact ⟨0, Nat.zero_le _, rfl, ⟨fun t s ht => absurd ht (Nat.not_lt_zero _)⟩, rfl⟩
            case round =>
              obtain ⟨j, hj, rfl, HJ, rfl⟩ := hrel
              have HOC : Aside0 (o.length < maxLen) := ⟨by unfold maxLen; omega⟩
              by_cases hjl : j < o.length
              · obtain ⟨ad3, e3, s0⟩ := Kd.at_string HC3.out (j : Int) (by omega) (by omega)
                subst e3
                have hd : rdOf ByteArray.empty o (j : Int) = o[j] := by unfold rdOf; simp [List.getD_eq_getElem?_getD, List.getElem?_eq_getElem hjl]
                rw [hd, Int.toNat_natCast] at s0
                have HSJ : Aside0 (o[j]? = some o[j]) := ⟨List.getElem?_eq_getElem hjl⟩
                clear hd
                generalize o[j] = s at s0 HSJ
                by_cases hb : Op.bytesLess s.toList p.toList = true
                · have HJ2 : Aside0 (∀ t z, t < j + 1 → o[t]? = some z → Op.bytesLess z.toList p.toList = true) := ⟨fun t z ht hz => by
                    by_cases hti : t = j
                    · subst hti
                      rw [HSJ.out] at hz
                      injection hz with hz
                      rw [← hz]
                      exact hb
                    · exact HJ.out t z (by omega) hz⟩
                  go_wp2_with (fail)
                  go_roundw
                  case rel => exact ⟨j + 1, by omega, by go_num, HJ2, trivial⟩
                  case measure => simp [intOf]; omega
                · have hb2 : Op.bytesLess s.toList p.toList = false := eq_false_of_ne_true hb
                  clear hb
                  by_cases he : s = p
                  · have q1 : (s.toList == p.toList) = true := by rw [he]; simp
                    have HPO : Aside0 (p ∈ o) := ⟨by rw [← he]; exact List.mem_of_getElem? HSJ.out⟩
                    clear he
                    go_wp2_with (fail)
                    go_roundw
                    case rel => exact ⟨k + 1, by omega, by go_num, o, HO, HRI, ⟨fun z => by rw [HY2.out]; exact ⟨.inl, fun h => by rcases h with h | h; exact h; rw [h]; exact HPO.out⟩⟩, ⟨by have := HLE.out; omega⟩, HB⟩
                    case measure => simp [intOf]; omega
                  · have q1 : (s.toList == p.toList) = false := beq_eq_false_iff_ne.2 fun e => he (eq_of_toList e)
                    have HINS := Aside0.mk (ins_rising HRI.out hj HJ.out (fun z hz => by rw [HSJ.out] at hz; injection hz with hz; rw [← hz]; exact ⟨hb2, he⟩))
                    clear he
                    have HC1 : Aside0 (Kd.C Kd.string wr (some ad3) j (o.take j)) := ⟨by have := Kd.C_take HC3.out (m := j) (by omega); rwa [List.length_take, Nat.min_eq_left (by omega)] at this⟩
                    have hic : j ≤ c3 := by omega
                    go_wp2_with (first | ((with_reducible refine gate_builtin (b := .append) (xs := #[.tmp 73, .tmp 76]) rfl ?_); at_builtin; refine Kd.R_append_rows Kd.string (Rr := Kd.K Kd.string wr) (w0 := wr) wr.heap.size ?hg (.tmp 73) (.tmp 76) 25 9 (.string ⟨#[]⟩) 16 ?ho Tryz.underlying25 info9 rfl (by decide) (by omega) (.slice none 0 0) [] (o.take j) (some ad3) j c3 (fun _ => True) (fun _ => False) ?hs ?hx ?aO ?aR ?aK (fun _ hk => hk.elim) (fun _ _ => trivial) ?aB ?aS ?aL ?_; (case hg => rfl); (case ho => rfl); (case hs => rfl); (case hx => rfl); (case aO => exact (Kd.R_nil Kd.string 9 _ _ _)); (case aR => exact HC1.out); (case aK => exact fun x cs h => flat_M9 h); (case aB => exact (Below.refl _ _)); (case aS => exact (Nat.le_refl _)); (case aL => simp; omega); intro v6 w6 ho hb hg hat; have HO6 := Aside0.mk ho; have HB6 := Aside0.mk hb; clear ho hb hg hat) | ((with_reducible refine gate_builtin (b := .append) (xs := #[.tmp 78, .tmp 80]) rfl ?_); at_builtin; refine Kd.R_append Kd.string (w0 := wr) wr.heap.size ?hg (.tmp 78) (.tmp 80) 25 9 (.string ⟨#[]⟩) 16 ?ho Tryz.underlying25 info9 rfl (by decide) (by omega) v6 (([] ++ o.take j)) (p) [.string p] (fun _ => True) (fun _ => False) ?hs ?hx ?aP (fun _ hk => hk.elim) (fun _ _ => trivial) ?aO ?aB ?aS ?aL ?_; (case hg => rfl); (case ho => rfl); (case hs => rfl); (case hx => rfl); (case aP => exact rfl); (case aB => exact HB6.out); (case aO => exact HO6.out); (case aS => exact HB6.out.size); (case aL => have := List.length_take_le j o; simp; omega); intro v9 w9 ho hb hg hat; have HO9 := Aside0.mk ho; have HB9 := Aside0.mk hb; clear ho hb hg hat) | ((with_reducible refine gate_builtin (b := .append) (xs := #[.tmp 82, .tmp 85]) rfl ?_); at_builtin; refine Kd.R_append_rows Kd.string (Rr := Kd.K Kd.string w9) (w0 := wr) wr.heap.size ?hg (.tmp 82) (.tmp 85) 25 9 (.string ⟨#[]⟩) 16 ?ho Tryz.underlying25 info9 rfl (by decide) (by omega) v9 ([] ++ o.take j ++ [p]) (o.drop j) ?A1 ?m1 ?c1 (fun _ => True) (fun _ => False) ?hs ?hx ?aO ?aR ?aK (fun _ hk => hk.elim) (fun _ _ => trivial) ?aB ?aS ?aL ?_; (case hg => rfl); (case ho => rfl); (case hs => rfl); (case hx => rfl); (case aO => exact HO9.out); (case aR => exact (Kd.C_below (drop9 HC3.out (by omega)) HB9.out)); (case aK => exact fun x cs h => flat_M9 h); (case aB => exact HB9.out); (case aS => exact HB9.out.size); (case aL => simp; omega); intro v8 w8 ho hb hg hat; have HO8 := Aside0.mk ho; have HB8 := Aside0.mk hb; clear ho hb hg hat))
                    all_goals go_roundw
                    all_goals first
                      | exact ⟨k + 1, by omega, by go_num, o.take j ++ p :: o.drop j, ⟨by have := Kd.R_lower HO8.out HB.out.size; simpa using this⟩, ⟨HINS.out.1⟩, ⟨fun z => by rw [HINS.out.2]; exact (HY2.out z).symm⟩, ⟨by have := HLE.out; simp; omega⟩, ⟨below_step HB.out HB8.out⟩⟩
                      | (simp [intOf]; omega)
              · obtain rfl : j = o.length := by omega
                have HINS := Aside0.mk (ins_rising HRI.out hj HJ.out (fun z hz => by have := (List.getElem?_eq_some_iff.1 hz).1; omega))
                have d1 : decide ((o.length : Int) < (o.length : Int)) = false := decide_eq_false (by omega)
                have HC1 : Aside0 (Kd.C Kd.string wr (A3) o.length (o.take o.length)) := ⟨by have := Kd.C_take HC3.out (m := o.length) (by omega); rwa [List.length_take, Nat.min_eq_left (by omega)] at this⟩
                have hic : o.length ≤ c3 := by omega
                go_wp2_with (first | ((with_reducible refine gate_builtin (b := .append) (xs := #[.tmp 73, .tmp 76]) rfl ?_); at_builtin; refine Kd.R_append_rows Kd.string (Rr := Kd.K Kd.string wr) (w0 := wr) wr.heap.size ?hg (.tmp 73) (.tmp 76) 25 9 (.string ⟨#[]⟩) 16 ?ho Tryz.underlying25 info9 rfl (by decide) (by omega) (.slice none 0 0) [] (o.take o.length) (A3) o.length c3 (fun _ => True) (fun _ => False) ?hs ?hx ?aO ?aR ?aK (fun _ hk => hk.elim) (fun _ _ => trivial) ?aB ?aS ?aL ?_; (case hg => rfl); (case ho => rfl); (case hs => rfl); (case hx => rfl); (case aO => exact (Kd.R_nil Kd.string 9 _ _ _)); (case aR => exact HC1.out); (case aK => exact fun x cs h => flat_M9 h); (case aB => exact (Below.refl _ _)); (case aS => exact (Nat.le_refl _)); (case aL => simp; omega); intro v6 w6 ho hb hg hat; have HO6 := Aside0.mk ho; have HB6 := Aside0.mk hb; clear ho hb hg hat) | ((with_reducible refine gate_builtin (b := .append) (xs := #[.tmp 78, .tmp 80]) rfl ?_); at_builtin; refine Kd.R_append Kd.string (w0 := wr) wr.heap.size ?hg (.tmp 78) (.tmp 80) 25 9 (.string ⟨#[]⟩) 16 ?ho Tryz.underlying25 info9 rfl (by decide) (by omega) v6 (([] ++ o.take o.length)) (p) [.string p] (fun _ => True) (fun _ => False) ?hs ?hx ?aP (fun _ hk => hk.elim) (fun _ _ => trivial) ?aO ?aB ?aS ?aL ?_; (case hg => rfl); (case ho => rfl); (case hs => rfl); (case hx => rfl); (case aP => exact rfl); (case aB => exact HB6.out); (case aO => exact HO6.out); (case aS => exact HB6.out.size); (case aL => have := List.length_take_le o.length o; simp; omega); intro v9 w9 ho hb hg hat; have HO9 := Aside0.mk ho; have HB9 := Aside0.mk hb; clear ho hb hg hat) | ((with_reducible refine gate_builtin (b := .append) (xs := #[.tmp 82, .tmp 85]) rfl ?_); at_builtin; refine Kd.R_append_rows Kd.string (Rr := Kd.K Kd.string w9) (w0 := wr) wr.heap.size ?hg (.tmp 82) (.tmp 85) 25 9 (.string ⟨#[]⟩) 16 ?ho Tryz.underlying25 info9 rfl (by decide) (by omega) v9 ([] ++ o.take o.length ++ [p]) (o.drop o.length) ?A1b ?m1b ?c1b (fun _ => True) (fun _ => False) ?hs ?hx ?aO ?aR ?aK (fun _ hk => hk.elim) (fun _ _ => trivial) ?aB ?aS ?aL ?_; (case hg => rfl); (case ho => rfl); (case hs => rfl); (case hx => rfl); (case aO => exact HO9.out); (case aR => exact (dropE9 (by simp) (by simp))); (case aK => exact fun x cs h => flat_M9 h); (case aB => exact HB9.out); (case aS => exact HB9.out.size); (case aL => simp; omega); intro v8 w8 ho hb hg hat; have HO8 := Aside0.mk ho; have HB8 := Aside0.mk hb; clear ho hb hg hat))
                all_goals go_roundw
                all_goals first
                  | exact ⟨k + 1, by omega, by go_num, o.take o.length ++ p :: o.drop o.length, ⟨by have := Kd.R_lower HO8.out HB.out.size; simpa using this⟩, ⟨HINS.out.1⟩, ⟨fun z => by rw [HINS.out.2]; exact (HY2.out z).symm⟩, ⟨by have := HLE.out; simp; omega⟩, ⟨below_step HB.out HB8.out⟩⟩
                  | (simp [intOf]; omega)
      · obtain rfl : k = (spansP l).length := by omega
        go_wp2_with (fail)
        go_ret2
        exact ⟨_, o, by rw [HCK.out]; rfl, Kd.R_lower HO.out HB2.out.size, HRI.out, fun s => by rw [HCK.out, HME.out, List.take_length]; simp, by have := HLE.out; omega, below_step HB2.out HB.out⟩
end Go.Proofs.YtkicenkljjpcfaaGreatDoor.Q
