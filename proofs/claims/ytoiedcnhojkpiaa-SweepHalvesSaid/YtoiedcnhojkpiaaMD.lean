/- Of the proofs about sweep: several texts, joined. -/
import Derived.Test.YtoiedcnhojkpiaaMC
import Derived.Lib.AppendZerosOnto
import Derived.Sort.OwnSorted
namespace Go.Proofs.Ytoiedcnhojkpiaa.Q
open Go.RowKit Go.Proofs.YtoiedcnhojkpiaaW.PrintWords Go.Proofs.YtoiedcnhojkpiaaW.PrintLast Go.Proofs.YtoiedcnhojkpiaaW.PrintMore
/-- Where what is less ends: at i. -/
def Cut (l : List S52) (c : S52 → Int) (i : Nat) : Prop := i ≤ l.length ∧ (∀ t x, t < i → l[t]? = some x → c x < 0) ∧ ∀ t x, i ≤ t → l[t]? = some x → 0 ≤ c x
/-- What is less stands ahead of what is not. -/
def Split (l : List S52) (c : S52 → Int) : Prop := ∀ (a b : Nat) (x y : S52), a ≤ b → l[a]? = some x → l[b]? = some y → c y < 0 → c x < 0
theorem at52 {w : World} {A : Option Addr} {l : List S52} (h : Kd.C k52 w A l.length l) (k : Nat) (hk : k < l.length) : ∃ ad x, A = some ad ∧ l[k]? = some x ∧ w.cell? (ad.add (k * 6)) = some (.string x.f0) ∧ w.cell? ⟨(ad.add (k * 6)).block, (ad.add (k * 6)).off + 1, none⟩ = some (.string x.f1.f0) ∧ w.cell? ⟨(ad.add (k * 6)).block, (ad.add (k * 6)).off + 2, none⟩ = some (.int .i64 x.f1.f1) ∧ w.cell? ⟨(ad.add (k * 6)).block, (ad.add (k * 6)).off + 3, none⟩ = some (.int .i64 x.f1.f2) ∧ w.cell? ⟨(ad.add (k * 6)).block, (ad.add (k * 6)).off + 4, none⟩ = some (.int .i64 x.f1.f3) ∧ w.cell? ⟨(ad.add (k * 6)).block, (ad.add (k * 6)).off + 5, none⟩ = some (.int .i64 x.f1.f4) := by
  obtain ⟨ad, e, h0, h1, h2, h3, h4, h5⟩ := at_T52 h (k : Int) (by omega) (by omega)
  have hd : rd_T52 l (k : Int) = l[k] := by unfold rd_T52; simp [List.getD_eq_getElem?_getD, List.getElem?_eq_getElem hk]
  rw [hd, Int.toNat_natCast] at h0 h1 h2 h3 h4 h5
  exact ⟨ad, l[k], e, List.getElem?_eq_getElem hk, h0, h1, h2, h3, h4, h5⟩
set_option maxHeartbeats 4000000 in
set_option maxRecDepth 100000 in
theorem bsf_calls (A : Option Addr) (c : Nat) (l : List S52) (x : S52) (w : World) (hr : Kd.C k52 w A l.length l) (hl : l.length ≤ 100000) (hs : Split l (fun y => ordS y x)) :
    Calls Try.prog 25 #[.slice A l.length c, .agg #[.string x.f0, .string x.f1.f0, .int .i64 x.f1.f1, .int .i64 x.f1.f2, .int .i64 x.f1.f3, .int .i64 x.f1.f4], .func (.func 26) #[] #[]] w fun e w' => ∃ (i : Nat) (f : Bool), e = .returned (.tuple #[.int .i64 i, .bool f]) ∧ Cut l (fun y => ordS y x) i ∧ (f = true ↔ l[i]? = some x) ∧ Below w.heap.size w w' := by
  have HR := Aside0.mk hr
  have HS := Aside0.mk hs
  clear hr hs
  go_enter Try.func25, Try.ntmps25
  go_wp2
  have HB0 : Aside0 (Below w.heap.size w (w.alloc (.cells #[.string x.f0, .string x.f1.f0, .int .i64 x.f1.f1, .int .i64 x.f1.f2, .int .i64 x.f1.f3, .int .i64 x.f1.f4] 52))) := ⟨(Below.refl _ _).alloc (Nat.le_refl _) _⟩
  have HK0 : Aside0 ((w.alloc (.cells #[.string x.f0, .string x.f1.f0, .int .i64 x.f1.f1, .int .i64 x.f1.f2, .int .i64 x.f1.f3, .int .i64 x.f1.f4] 52)).heap[w.heap.size]? = some (.cells #[.string x.f0, .string x.f1.f0, .int .i64 x.f1.f1, .int .i64 x.f1.f2, .int .i64 x.f1.f3, .int .i64 x.f1.f4] 52 (0, 0))) := ⟨(MapKept.heap_alloc w _).1⟩
  go_loopw [9, 10] (fun s9 s10 wr => ∃ lo hi : Nat, s9 = .int .i64 lo ∧ s10 = .int .i64 hi ∧ lo ≤ hi ∧ hi ≤ l.length ∧ Aside0 ((∀ t y, t < lo → l[t]? = some y → ordS y x < 0) ∧ ∀ t y, hi ≤ t → l[t]? = some y → 0 ≤ ordS y x) ∧ Aside0 (Below w.heap.size w wr) ∧ Aside0 (wr.heap[w.heap.size]? = some (.cells #[.string x.f0, .string x.f1.f0, .int .i64 x.f1.f1, .int .i64 x.f1.f2, .int .i64 x.f1.f3, .int .i64 x.f1.f4] 52 (0, 0)))) (fun s9 s10 _ => (intOf s10 - intOf s9).toNat)
  case atStart => exact ⟨0, l.length, rfl, rfl, Nat.zero_le _, Nat.le_refl _, ⟨fun t y ht => absurd ht (Nat.not_lt_zero _), fun t y ht hy => by have := (List.getElem?_eq_some_iff.1 hy).1; omega⟩, HB0, HK0⟩
  case round =>
    clear HB0 HK0
    obtain ⟨lo, hi, rfl, rfl, hlh, hin, HI, HB, HK⟩ := hrel
    have b0 : wr.cell? ⟨w.heap.size, 0, none⟩ = some (.string x.f0) := (blk_cell HK.out 0).trans rfl
    have b1 : wr.cell? ⟨w.heap.size, 1, none⟩ = some (.string x.f1.f0) := (blk_cell HK.out 1).trans rfl
    have b2 : wr.cell? ⟨w.heap.size, 2, none⟩ = some (.int .i64 x.f1.f1) := (blk_cell HK.out 2).trans rfl
    have b3 : wr.cell? ⟨w.heap.size, 3, none⟩ = some (.int .i64 x.f1.f2) := (blk_cell HK.out 3).trans rfl
    have b4 : wr.cell? ⟨w.heap.size, 4, none⟩ = some (.int .i64 x.f1.f3) := (blk_cell HK.out 4).trans rfl
    have b5 : wr.cell? ⟨w.heap.size, 5, none⟩ = some (.int .i64 x.f1.f4) := (blk_cell HK.out 5).trans rfl
    by_cases hlt : lo < hi
    · obtain ⟨m, hm⟩ : ∃ m, m = (lo + hi) / 2 := ⟨_, rfl⟩
      obtain ⟨ad, y, rfl, hy, h0, h1, h2, h3, h4, h5⟩ := at52 (Kd.C_below HR.out HB.out) m (by omega)
      have HY := Aside0.mk hy
      clear hy
      have hm1 : lo ≤ m := by omega
      have hm2 : m < hi := by omega
      have hm3 : m < l.length := by omega
      have hmi : ((lo : Int) + (hi : Int)) / 2 = (m : Int) := by omega
      have HMI := Aside0.mk hmi
      clear hmi hm
      go_upto_region 5 with (fail)
      rw [HMI.out]
      go_region_held3 (fun wq => wq.cell? (ad.add (m * 6)) = some (.string y.f0) ∧ wq.cell? ⟨(ad.add (m * 6)).block, (ad.add (m * 6)).off + 1, none⟩ = some (.string y.f1.f0) ∧ wq.cell? ⟨(ad.add (m * 6)).block, (ad.add (m * 6)).off + 2, none⟩ = some (.int .i64 y.f1.f1) ∧ wq.cell? ⟨(ad.add (m * 6)).block, (ad.add (m * 6)).off + 3, none⟩ = some (.int .i64 y.f1.f2) ∧ wq.cell? ⟨(ad.add (m * 6)).block, (ad.add (m * 6)).off + 4, none⟩ = some (.int .i64 y.f1.f3) ∧ wq.cell? ⟨(ad.add (m * 6)).block, (ad.add (m * 6)).off + 5, none⟩ = some (.int .i64 y.f1.f4) ∧ wq.cell? (⟨w.heap.size, 0, none⟩) = some (.string x.f0) ∧ wq.cell? ⟨w.heap.size, 1, none⟩ = some (.string x.f1.f0) ∧ wq.cell? ⟨w.heap.size, 2, none⟩ = some (.int .i64 x.f1.f1) ∧ wq.cell? ⟨w.heap.size, 3, none⟩ = some (.int .i64 x.f1.f2) ∧ wq.cell? ⟨w.heap.size, 4, none⟩ = some (.int .i64 x.f1.f3) ∧ wq.cell? ⟨w.heap.size, 5, none⟩ = some (.int .i64 x.f1.f4)) (first | assumption | exact ⟨h0, h1, h2, h3, h4, h5, b0, b1, b2, b3, b4, b5⟩ | exact ⟨pw_cell_below hB h0, pw_cell_below hB h1, pw_cell_below hB h2, pw_cell_below hB h3, pw_cell_below hB h4, pw_cell_below hB h5, pw_cell_below hB b0, pw_cell_below hB b1, pw_cell_below hB b2, pw_cell_below hB b3, pw_cell_below hB b4, pw_cell_below hB b5⟩) (first | (go_at_call 26; (with_reducible refine (order_calls y x _).mono ?_); rintro e w1 ⟨rfl, hB⟩; have HB1 := Aside0.mk (below_step (below_drew HB.out) hB); have HK1 := Aside0.mk (blk_below HK.out (below_drew1 (Below.refl _ _))); have HK2 := Aside0.mk (blk_below HK1.out hB)))
      go_wp2
      · have hc : ordS y x < 0 := by assumption
        go_roundw
        case rel => exact ⟨m + 1, hi, by go_num, rfl, by omega, hin, ⟨fun t z ht hz => HS.out t m z y (by omega) hz HY.out hc, HI.out.2⟩, HB1, HK2⟩
        case measure => simp [intOf]; omega
      · have hc : 0 ≤ ordS y x := by assumption
        go_roundw
        case rel => exact ⟨lo, m, rfl, rfl, hm1, by omega, ⟨HI.out.1, fun t z ht hz => Int.not_lt.1 fun hn => absurd (HS.out m t y z ht HY.out hz hn) (Int.not_lt.2 hc)⟩, HB1, HK2⟩
        case measure => simp [intOf]; omega
    · obtain rfl : hi = lo := by omega
      have HC : Aside0 (Cut l (fun y => ordS y x) hi) := ⟨hin, HI.out⟩
      clear HI
      by_cases hn : hi < l.length
      · obtain ⟨ad, y, rfl, hy, h0, h1, h2, h3, h4, h5⟩ := at52 (Kd.C_below HR.out HB.out) hi hn
        have HY := Aside0.mk hy
        clear hy
        go_wp2
        go_region_held3 (fun wq => wq.cell? (ad.add (hi * 6)) = some (.string y.f0) ∧ wq.cell? ⟨(ad.add (hi * 6)).block, (ad.add (hi * 6)).off + 1, none⟩ = some (.string y.f1.f0) ∧ wq.cell? ⟨(ad.add (hi * 6)).block, (ad.add (hi * 6)).off + 2, none⟩ = some (.int .i64 y.f1.f1) ∧ wq.cell? ⟨(ad.add (hi * 6)).block, (ad.add (hi * 6)).off + 3, none⟩ = some (.int .i64 y.f1.f2) ∧ wq.cell? ⟨(ad.add (hi * 6)).block, (ad.add (hi * 6)).off + 4, none⟩ = some (.int .i64 y.f1.f3) ∧ wq.cell? ⟨(ad.add (hi * 6)).block, (ad.add (hi * 6)).off + 5, none⟩ = some (.int .i64 y.f1.f4) ∧ wq.cell? (⟨w.heap.size, 0, none⟩) = some (.string x.f0) ∧ wq.cell? ⟨w.heap.size, 1, none⟩ = some (.string x.f1.f0) ∧ wq.cell? ⟨w.heap.size, 2, none⟩ = some (.int .i64 x.f1.f1) ∧ wq.cell? ⟨w.heap.size, 3, none⟩ = some (.int .i64 x.f1.f2) ∧ wq.cell? ⟨w.heap.size, 4, none⟩ = some (.int .i64 x.f1.f3) ∧ wq.cell? ⟨w.heap.size, 5, none⟩ = some (.int .i64 x.f1.f4)) (first | assumption | exact ⟨h0, h1, h2, h3, h4, h5, b0, b1, b2, b3, b4, b5⟩ | exact ⟨pw_cell_below hB h0, pw_cell_below hB h1, pw_cell_below hB h2, pw_cell_below hB h3, pw_cell_below hB h4, pw_cell_below hB h5, pw_cell_below hB b0, pw_cell_below hB b1, pw_cell_below hB b2, pw_cell_below hB b3, pw_cell_below hB b4, pw_cell_below hB b5⟩) (first | (go_at_call 26; (with_reducible refine (order_calls y x _).mono ?_); rintro e w1 ⟨rfl, hB⟩; have HB1 := Aside0.mk (below_step (below_drew HB.out) hB)))
        go_wp2
        go_ret2
        refine ⟨hi, ordS y x == 0, rfl, HC.out, ?_, HB1.out⟩
        rw [HY.out, beq_iff_eq, ordS_zero]
        simp
      · have hd : decide ((hi : Int) < (l.length : Int)) = false := decide_eq_false (by omega)
        have hd2 : decide (hi < l.length) = false := decide_eq_false (by omega)
        have hno : l[hi]? = none := List.getElem?_eq_none (by omega)
        have HNO := Aside0.mk hno
        clear hno hn
        go_wp2
        go_quiet (fail)
        go_wp2
        go_ret2
        exact ⟨hi, false, rfl, HC.out, by rw [HNO.out]; simp, pw_below_drewN HB.out _⟩
end Go.Proofs.Ytoiedcnhojkpiaa.Q
/- lookup's Places and Get, walked. -/
namespace Go.Proofs.Ytoiedcnhojkpiaa.Q
open Go.RowKit Go.Proofs.YtoiedcnhojkpiaaW.PrintWords Go.Proofs.YtoiedcnhojkpiaaW.PrintLast Go.Proofs.YtoiedcnhojkpiaaW.PrintMore
set_option maxHeartbeats 4000000 in
set_option maxRecDepth 100000 in
theorem byId_calls (y : S52) (id : ByteArray) (w : World) : Calls Try.prog 67 #[.agg #[.string y.f0, .string y.f1.f0, .int .i64 y.f1.f1, .int .i64 y.f1.f2, .int .i64 y.f1.f3, .int .i64 y.f1.f4], .string id] w fun e w' => e = .returned (.int .i64 (cmpS y.f0 id)) ∧ Below w.heap.size w w' := by
  go_enter Try.func67, Try.ntmps67
  go_wp2_with (first | (go_at_call 56; (with_reducible refine (cmp_any y.f0 id _).mono ?_); rintro e w1 ⟨rfl, ⟨n, rfl⟩⟩))
  go_ret
  exact ⟨rfl, pw_below_drewN ((Below.refl _ _).alloc (Nat.le_refl _) _) _⟩
set_option maxHeartbeats 4000000 in
set_option maxRecDepth 100000 in
theorem bsfId_calls (A : Option Addr) (c : Nat) (l : List S52) (x : ByteArray) (w : World) (hr : Kd.C k52 w A l.length l) (hl : l.length ≤ 100000) (hs : Split l (fun y => cmpS y.f0 x)) :
    Calls Try.prog 66 #[.slice A l.length c, .string x, .func (.func 67) #[] #[]] w fun e w' => ∃ (i : Nat) (f : Bool), e = .returned (.tuple #[.int .i64 i, .bool f]) ∧ Cut l (fun y => cmpS y.f0 x) i ∧ Below w.heap.size w w' := by
  have HR := Aside0.mk hr
  have HS := Aside0.mk hs
  clear hr hs
  have HB0 := Aside0.mk (Below.refl w.heap.size w)
  go_enter Try.func66, Try.ntmps66
  go_wp2
  go_loopw [9, 10] (fun s9 s10 wr => ∃ lo hi : Nat, s9 = .int .i64 lo ∧ s10 = .int .i64 hi ∧ lo ≤ hi ∧ hi ≤ l.length ∧ Aside0 ((∀ t y, t < lo → l[t]? = some y → cmpS y.f0 x < 0) ∧ ∀ t y, hi ≤ t → l[t]? = some y → 0 ≤ cmpS y.f0 x) ∧ Aside0 (Below w.heap.size w wr)) (fun s9 s10 _ => (intOf s10 - intOf s9).toNat)
  case atStart => exact ⟨0, l.length, rfl, rfl, Nat.zero_le _, Nat.le_refl _, ⟨fun t y ht => absurd ht (Nat.not_lt_zero _), fun t y ht hy => by have := (List.getElem?_eq_some_iff.1 hy).1; omega⟩, HB0⟩
  case round =>
    clear HB0
    obtain ⟨lo, hi, rfl, rfl, hlh, hin, HI, HB⟩ := hrel
    by_cases hlt : lo < hi
    · obtain ⟨m, hm⟩ : ∃ m, m = (lo + hi) / 2 := ⟨_, rfl⟩
      obtain ⟨ad, y, rfl, hy, h0, h1, h2, h3, h4, h5⟩ := at52 (Kd.C_below HR.out HB.out) m (by omega)
      have HY := Aside0.mk hy
      clear hy
      have hm1 : lo ≤ m := by omega
      have hm2 : m < hi := by omega
      have hm3 : m < l.length := by omega
      have hmi : ((lo : Int) + (hi : Int)) / 2 = (m : Int) := by omega
      have HMI := Aside0.mk hmi
      clear hmi hm
      go_upto_region 5 with (fail)
      rw [HMI.out]
      go_wp2_with (first | (go_at_call 67; (with_reducible refine (byId_calls y x _).mono ?_); rintro e w1 ⟨rfl, hB⟩; have HB1 := Aside0.mk (below_step HB.out hB); clear hB))
      · have hc : cmpS y.f0 x < 0 := by assumption
        go_roundw
        case rel => exact ⟨m + 1, hi, by go_num, rfl, by omega, hin, ⟨fun t z ht hz => HS.out t m z y (by omega) hz HY.out hc, HI.out.2⟩, HB1⟩
        case measure => simp [intOf]; omega
      · have hc : 0 ≤ cmpS y.f0 x := by assumption
        go_roundw
        case rel => exact ⟨lo, m, rfl, rfl, hm1, by omega, ⟨HI.out.1, fun t z ht hz => Int.not_lt.1 fun hn => absurd (HS.out m t y z ht HY.out hz hn) (Int.not_lt.2 hc)⟩, HB1⟩
        case measure => simp [intOf]; omega
    · obtain rfl : hi = lo := by omega
      have HC : Aside0 (Cut l (fun y => cmpS y.f0 x) hi) := ⟨hin, HI.out⟩
      clear HI
      by_cases hn : hi < l.length
      · obtain ⟨ad, y, rfl, _, h0, h1, h2, h3, h4, h5⟩ := at52 (Kd.C_below HR.out HB.out) hi hn
        go_wp2_with (first | (go_at_call 67; (with_reducible refine (byId_calls y x _).mono ?_); rintro e w1 ⟨rfl, hB⟩; have HB1 := Aside0.mk (below_step HB.out hB); clear hB))
        go_ret2
        exact ⟨hi, _, rfl, HC.out, HB1.out⟩
      · have hd : decide ((hi : Int) < (l.length : Int)) = false := decide_eq_false (by omega)
        have hd2 : decide (hi < l.length) = false := decide_eq_false (by omega)
        go_wp2
        go_ret2
        exact ⟨hi, false, rfl, HC.out, HB.out⟩
theorem info50 : (Try.prog.info? 50).map (fun i => (i.zero, i.size, i.bytes)) = some (some (.agg #[.string ⟨#[]⟩, .int .i64 0, .int .i64 0, .int .i64 0, .int .i64 0]), 5, 48) := by kernel_rfl
theorem info52 : (Try.prog.info? 52).map (fun i => (i.zero, i.size, i.bytes)) = some (some (.agg #[.string ⟨#[]⟩, .string ⟨#[]⟩, .int .i64 0, .int .i64 0, .int .i64 0, .int .i64 0]), 6, 64) := by kernel_rfl
/-! ### The plain law -/
def Sorted (l : List S52) : Prop := l.Pairwise fun a b => ordS a b < 0
def places (l : List S52) (id : ByteArray) : List S50 := (l.filter fun y => decide (y.f0 = id)).map (·.f1)
theorem Sorted.lt {l : List S52} (h : Sorted l) {a b : Nat} {x y : S52} (hab : a < b) (hx : l[a]? = some x) (hy : l[b]? = some y) : ordS x y < 0 := by
  obtain ⟨ha, rfl⟩ := List.getElem?_eq_some_iff.1 hx
  obtain ⟨hb, rfl⟩ := List.getElem?_eq_some_iff.1 hy
  exact List.pairwise_iff_getElem.1 h a b ha hb hab
theorem Sorted.split {l : List S52} (h : Sorted l) (x : S52) : Split l (fun y => ordS y x) := by
  intro a b u v hab hu hv hc
  rcases Nat.lt_or_ge a b with h1 | h1
  · exact ordS_trans (h.lt h1 hu hv) hc
  · obtain rfl : a = b := by omega
    rw [hu] at hv
    injection hv with hv
    rw [hv]
    exact hc
theorem Sorted.splitId {l : List S52} (h : Sorted l) (id : ByteArray) : Split l (fun y => cmpS y.f0 id) := by
  intro a b u v hab hu hv hc
  rcases Nat.lt_or_ge a b with h1 | h1
  · rcases ordS_id (h.lt h1 hu hv) with e | e
    · show cmpS u.f0 id < 0
      rw [e]
      exact hc
    · exact cmpS_trans e hc
  · obtain rfl : a = b := by omega
    rw [hu] at hv
    injection hv with hv
    rw [hv]
    exact hc
theorem places_run {l : List S52} {id : ByteArray} {i t : Nat} (hs : Sorted l) (hc : Cut l (fun y => cmpS y.f0 id) i) (hit : i ≤ t) (htl : t ≤ l.length) (heq : ∀ s x, i ≤ s → s < t → l[s]? = some x → x.f0 = id) (hend : ∀ x, l[t]? = some x → x.f0 ≠ id) :
    ((l.drop i).take (t - i)).map (·.f1) = places l id := by
  have e : l = l.take i ++ ((l.drop i).take (t - i) ++ l.drop t) := by
    conv => lhs; rw [← List.take_append_drop i l, ← List.take_append_drop (t - i) (l.drop i)]
    rw [List.drop_drop, show i + (t - i) = t by omega]
  have f1 : (l.take i).filter (fun y => decide (y.f0 = id)) = [] := by
    refine List.filter_eq_nil_iff.2 fun x hx => ?_
    obtain ⟨k, hk, rfl⟩ := List.getElem_of_mem hx
    have hk2 : k < i := by have := List.length_take_le i l; simp at hk; omega
    have hkl : k < l.length := by simp at hk; omega
    have h1 : cmpS l[k].f0 id < 0 := hc.2.1 k l[k] hk2 (List.getElem?_eq_getElem hkl)
    rw [List.getElem_take]
    intro h2
    rw [(cmpS_zero _ _).2 (of_decide_eq_true h2)] at h1
    exact absurd h1 (by decide)
  have f2 : ((l.drop i).take (t - i)).filter (fun y => decide (y.f0 = id)) = (l.drop i).take (t - i) := by
    refine List.filter_eq_self.2 fun x hx => ?_
    obtain ⟨k, hk, rfl⟩ := List.getElem_of_mem hx
    have hk2 : k < t - i := by simp at hk; omega
    have hkl : i + k < l.length := by omega
    rw [List.getElem_take, List.getElem_drop]
    exact decide_eq_true (heq (i + k) _ (by omega) (by omega) (List.getElem?_eq_getElem hkl))
  have f3 : (l.drop t).filter (fun y => decide (y.f0 = id)) = [] := by
    refine List.filter_eq_nil_iff.2 fun x hx => ?_
    obtain ⟨k, hk, rfl⟩ := List.getElem_of_mem hx
    have hkl : t + k < l.length := by simp at hk; omega
    rw [List.getElem_drop]
    have htt : t < l.length := by omega
    have h1 := hend _ (List.getElem?_eq_getElem htt)
    have h2 : 0 ≤ cmpS l[t].f0 id := hc.2.2 t _ hit (List.getElem?_eq_getElem htt)
    have h3 : 0 < cmpS l[t].f0 id := by
      have : cmpS l[t].f0 id ≠ 0 := fun h => h1 ((cmpS_zero _ _).1 h)
      omega
    intro h4
    have h5 : l[t + k].f0 = id := of_decide_eq_true h4
    rcases Nat.eq_zero_or_pos k with h6 | h6
    · subst h6; exact h1 h5
    · rcases ordS_id (hs.lt (show t < t + k by omega) (List.getElem?_eq_getElem htt) (List.getElem?_eq_getElem hkl)) with e1 | e1
      · exact h1 (e1.trans h5)
      · rw [h5] at e1
        omega
  unfold places
  conv => rhs; rw [e]
  rw [List.filter_append, List.filter_append, f1, f2, f3, List.nil_append, List.append_nil]
set_option maxHeartbeats 4000000 in
set_option maxRecDepth 100000 in
theorem places_calls (base g : Nat) (F : Nat → List S52) (id : ByteArray) (w : World) (h : Tab w base g F) (hl : (F (bk id)).length ≤ 100000) (hs : Sorted (F (bk id))) :
    Calls Try.prog 37 #[.pointer (some ⟨g, 0, none⟩), .string id] w fun e w' => ∃ v, e = .returned v ∧ Kd.R k50 50 w' w.heap.size (fun _ => True) v (places (F (bk id)) id) ∧ Below w.heap.size w w' := by
  obtain ⟨v, hc0, _, hR⟩ := h.cell (bk id) (bk_lt id)
  obtain ⟨A, c, rfl, hle, hC⟩ := Kd.R_reads hR
  obtain ⟨vs, _, hblk, _, _⟩ := h
  have HBK := Aside0.mk hblk
  have HC := Aside0.mk hC
  have HS := Aside0.mk hs
  have HLL := Aside0.mk hl
  clear hR hC hs hblk
  go_enter Try.func37, Try.ntmps37
  go_wp2_with (first | (go_at_call 24; (with_reducible refine (list_calls g id w vs HBK.out).mono ?_); rintro e w1 ⟨rfl, ⟨n, rfl⟩⟩) | (go_at_call 66; (with_reducible refine (bsfId_calls A c (F (bk id)) id _ (Kd.C_drewN HC.out _) HLL.out (HS.out.splitId id)).mono ?_); rintro e w1 ⟨i, f, rfl, hcut, hB⟩; have HCUT := Aside0.mk hcut; have HB0 := Aside0.mk (below_step (pw_below_drewN (Below.refl _ _) n) hB); clear hcut hB))
  have hin : i ≤ (F (bk id)).length := HCUT.out.1
  go_loopw [5, 7] (fun v5 v7 wr => ∃ t : Nat, i ≤ t ∧ t ≤ (F (bk id)).length ∧ v7 = .int .i64 t ∧ Aside0 (Kd.R k50 50 wr w.heap.size (fun _ => True) v5 (((F (bk id)).drop i).take (t - i) |>.map (·.f1))) ∧ Aside0 (∀ s x, i ≤ s → s < t → (F (bk id))[s]? = some x → x.f0 = id) ∧ Aside0 (Below w.heap.size w wr)) (fun _ v7 _ => (F (bk id)).length - (intOf v7).toNat)
  case atStart => exact ⟨i, Nat.le_refl _, hin, rfl, ⟨by rw [Nat.sub_self]; exact Kd.R_nil k50 50 _ _ _⟩, ⟨fun s x h1 h2 => by omega⟩, HB0⟩
  case round =>
    clear HB0
    obtain ⟨t, hit, htl, rfl, HO, HE, HB⟩ := hrel
    by_cases hlt : t < (F (bk id)).length
    · obtain ⟨ad, y, rfl, hy, h0, h1, h2, h3, h4, h5⟩ := at52 (Kd.C_below HC.out HB.out) t hlt
      have HY := Aside0.mk hy
      have d1 : decide ((t : Int) < ((F (bk id)).length : Int)) = true := decide_eq_true (by omega)
      have d2 : decide (t < (F (bk id)).length) = true := decide_eq_true hlt
      clear hy
      by_cases he : y.f0 = id
      · have q1 : (y.f0.toList == id.toList) = true := by rw [he]; simp
        have HT : Aside0 ((((F (bk id)).drop i).take (t - i) |>.map (·.f1)) ++ [y.f1] = (((F (bk id)).drop i).take (t + 1 - i) |>.map (·.f1))) := ⟨by
          have hy1 : ((F (bk id)).drop i)[t - i]? = some y := by rw [List.getElem?_drop, show i + (t - i) = t by omega]; exact HY.out
          obtain ⟨hq1, hq2⟩ := List.getElem?_eq_some_iff.1 hy1
          rw [show t + 1 - i = (t - i) + 1 by omega, List.take_succ_eq_append_getElem hq1, hq2, List.map_append]
          rfl⟩
        have HE1 : Aside0 (∀ s x, i ≤ s → s < t + 1 → (F (bk id))[s]? = some x → x.f0 = id) := ⟨fun s x hs1 hs2 hx => by
          by_cases hst : s = t
          · subst hst
            rw [HY.out] at hx
            injection hx with hx
            rw [← hx]
            exact he
          · exact HE.out s x hs1 (by omega) hx⟩
        clear he
        go_wp2_with (first | ((with_reducible refine gate_builtin (b := .append) (xs := #[.tmp 35, .tmp 41]) rfl ?_); at_builtin; refine Kd.R_append k50 (w0 := w) w.heap.size ?hg (.tmp 35) (.tmp 41) 88 50 (.agg #[.string ⟨#[]⟩, .int .i64 0, .int .i64 0, .int .i64 0, .int .i64 0]) 48 ?ho Try.underlying88 info50 rfl (by decide) (by omega) u5 (((F (bk id)).drop i).take (t - i) |>.map (·.f1)) (y.f1) [.string y.f1.f0, .int .i64 y.f1.f1, .int .i64 y.f1.f2, .int .i64 y.f1.f3, .int .i64 y.f1.f4] (fun _ => True) (fun _ => False) ?hs ?hx ?aP (fun _ hk => hk.elim) (fun _ _ => trivial) ?aO ?aB ?aS ?aL ?_; (case hg => rfl); (case ho => rfl); (case hs => rfl); (case hx => rfl); (case aP => exact k50_mkM _ _ _ (y.f1)); (case aB => exact HB.out); (case aO => exact HO.out); (case aS => exact HB.out.size); (case aL => have := HLL.out; simp only [List.length_map, List.length_take, List.length_drop]; omega); intro v9 w9 ho hb hg hat; have HO9 := Aside0.mk ho; have HB9 := Aside0.mk hb; clear ho hb hg hat))
        go_roundw
        case rel => exact ⟨t + 1, by omega, by omega, by go_num, ⟨by rw [← HT.out]; exact HO9.out⟩, HE1, HB9⟩
        case measure => simp [intOf]; omega
      · have q1 : (y.f0.toList == id.toList) = false := beq_eq_false_iff_ne.2 fun e => he (eq_of_toList e)
        have HP := Aside0.mk (places_run HS.out HCUT.out hit htl HE.out (fun x hx => by rw [HY.out] at hx; injection hx with hx; rw [← hx]; exact he))
        clear he
        go_wp2_with (fail)
        go_ret
        exact ⟨_, rfl, by rw [← HP.out]; exact HO.out, HB.out⟩
    · have d1 : decide ((t : Int) < ((F (bk id)).length : Int)) = false := decide_eq_false (by omega)
      have d2 : decide (t < (F (bk id)).length) = false := decide_eq_false hlt
      have HP := Aside0.mk (places_run HS.out HCUT.out hit htl HE.out (fun x hx => by have := (List.getElem?_eq_some_iff.1 hx).1; omega))
      clear hlt
      go_wp2_with (fail)
      go_ret
      exact ⟨_, rfl, by rw [← HP.out]; exact HO.out, HB.out⟩
/-- Five cells of a block written. -/
def set5 (w : World) (g : Nat) (v0 v1 v2 v3 v4 : Value) : World := ((((w.setCell ⟨g, 0, none⟩ v0).setCell ⟨g, 1, none⟩ v1).setCell ⟨g, 2, none⟩ v2).setCell ⟨g, 3, none⟩ v3).setCell ⟨g, 4, none⟩ v4
theorem set5_blk {w : World} {g t : Nat} {a0 a1 a2 a3 a4 : Value} (h : w.heap[g]? = some (.cells #[a0, a1, a2, a3, a4] t (0, 0))) (v0 v1 v2 v3 v4 : Value) : (set5 w g v0 v1 v2 v3 v4).heap[g]? = some (.cells #[v0, v1, v2, v3, v4] t (0, 0)) := blk_set (blk_set (blk_set (blk_set (blk_set h 0 v0) 1 v1) 2 v2) 3 v3) 4 v4
theorem set5_below {w W : World} {g : Nat} (h : Below w.heap.size w W) (hg : w.heap.size ≤ g) (v0 v1 v2 v3 v4 : Value) : Below w.heap.size w (set5 W g v0 v1 v2 v3 v4) := below_set (below_set (below_set (below_set (below_set h hg) hg) hg) hg) hg
theorem first50 {w : World} {A : Option Addr} {p : S50} {ps : List S50} (h : Kd.C k50 w A (p :: ps).length (p :: ps)) : ∃ ad, A = some ad ∧ w.cell? ad = some (.string p.f0) ∧ w.cell? ⟨ad.block, ad.off + 1, none⟩ = some (.int .i64 p.f1) ∧ w.cell? ⟨ad.block, ad.off + 2, none⟩ = some (.int .i64 p.f2) ∧ w.cell? ⟨ad.block, ad.off + 3, none⟩ = some (.int .i64 p.f3) ∧ w.cell? ⟨ad.block, ad.off + 4, none⟩ = some (.int .i64 p.f4) := by
  obtain ⟨ad, q0, q1, q2, q3, q4, q5⟩ := at_T50 h 0 (by decide) (by simp only [List.length_cons]; omega)
  have hp : rd_T50 (p :: ps) 0 = p := rfl
  have ha : ad.add ((0 : Int).toNat * 5) = ad := by simp [Addr.add]
  rw [hp, ha] at q1 q2 q3 q4 q5
  exact ⟨ad, q0, q1, q2, q3, q4, q5⟩
def getP (l : List S52) (id : ByteArray) : S50 × Bool := match places l id with | [] => (z50, false) | p :: _ => (p, true)
set_option maxHeartbeats 4000000 in
set_option maxRecDepth 100000 in
theorem get_calls (base g : Nat) (F : Nat → List S52) (id : ByteArray) (w : World) (h : Tab w base g F) (hl : (F (bk id)).length ≤ 100000) (hs : Sorted (F (bk id))) :
    Calls Try.prog 18 #[.pointer (some ⟨g, 0, none⟩), .string id] w fun e w' => e = .returned (.tuple #[.agg #[.string (getP (F (bk id)) id).1.f0, .int .i64 (getP (F (bk id)) id).1.f1, .int .i64 (getP (F (bk id)) id).1.f2, .int .i64 (getP (F (bk id)) id).1.f3, .int .i64 (getP (F (bk id)) id).1.f4], .bool (getP (F (bk id)) id).2]) ∧ Below w.heap.size w w' := by
  have HT := Aside0.mk h
  have HS := Aside0.mk hs
  have HLL := Aside0.mk hl
  clear h hs hl
  unfold getP
  have hpl := fun W hW => places_calls base g F id W hW HLL.out HS.out
  generalize places (F (bk id)) id = ps at hpl ⊢
  cases ps with
  | nil =>
    go_enter Try.func18, Try.ntmps18
    go_wp2_with (first | (go_at_call 37; refine (hpl _ (HT.out.below (below_alloc (Below.refl _ _) _))).mono ?_; rintro e w1 ⟨v, rfl, hR, hB⟩; obtain ⟨A, c, rfl, hle, hC⟩ := Kd.R_reads hR; have HB1 := Aside0.mk (below_step ((Below.refl _ _).alloc (Nat.le_refl _) _) hB); have HBK : Aside0 (w1.heap[w.heap.size]? = some (.cells #[.string ⟨#[]⟩, .int .i64 0, .int .i64 0, .int .i64 0, .int .i64 0] 50 (0, 0))) := ⟨blk_below (MapKept.heap_alloc w _).1 hB⟩; have hz0 : w1.cell? ⟨w.heap.size, 0, none⟩ = some (.string ⟨#[]⟩) := (blk_cell HBK.out 0).trans rfl; have hf0 := blk_frozen HBK.out 0; have hz1 : w1.cell? ⟨w.heap.size, 1, none⟩ = some (.int .i64 0) := (blk_cell HBK.out 1).trans rfl; have hf1 := blk_frozen HBK.out 1; have hz2 : w1.cell? ⟨w.heap.size, 2, none⟩ = some (.int .i64 0) := (blk_cell HBK.out 2).trans rfl; have hf2 := blk_frozen HBK.out 2; have hz3 : w1.cell? ⟨w.heap.size, 3, none⟩ = some (.int .i64 0) := (blk_cell HBK.out 3).trans rfl; have hf3 := blk_frozen HBK.out 3; have hz4 : w1.cell? ⟨w.heap.size, 4, none⟩ = some (.int .i64 0) := (blk_cell HBK.out 4).trans rfl; have hf4 := blk_frozen HBK.out 4; have HC := Aside0.mk hC; clear hR hB hC hle))
    have hK := set5_blk HBK.out (.string ⟨#[]⟩) (.int .i64 0) (.int .i64 0) (.int .i64 0) (.int .i64 0)
    have hB := set5_below HB1.out (Nat.le_refl _) (.string ⟨#[]⟩) (.int .i64 0) (.int .i64 0) (.int .i64 0) (.int .i64 0)
    change bodyPost Try.prog Try.f18 _ _ _ (set5 w1 w.heap.size (.string ⟨#[]⟩) (.int .i64 0) (.int .i64 0) (.int .i64 0) (.int .i64 0))
    generalize set5 w1 w.heap.size (.string ⟨#[]⟩) (.int .i64 0) (.int .i64 0) (.int .i64 0) (.int .i64 0) = W9 at hK hB ⊢
    have c0 : W9.cell? ⟨w.heap.size, 0, none⟩ = some (.string ⟨#[]⟩) := (blk_cell hK 0).trans rfl
    have c1 : W9.cell? ⟨w.heap.size, 1, none⟩ = some (.int .i64 0) := (blk_cell hK 1).trans rfl
    have c2 : W9.cell? ⟨w.heap.size, 2, none⟩ = some (.int .i64 0) := (blk_cell hK 2).trans rfl
    have c3 : W9.cell? ⟨w.heap.size, 3, none⟩ = some (.int .i64 0) := (blk_cell hK 3).trans rfl
    have c4 : W9.cell? ⟨w.heap.size, 4, none⟩ = some (.int .i64 0) := (blk_cell hK 4).trans rfl
    exact bodyPost_ret (v := .tuple #[.agg #[.string ⟨#[]⟩, .int .i64 0, .int .i64 0, .int .i64 0, .int .i64 0], .bool false]) (by simp [results, Try.results18, go_sem, c0, c1, c2, c3, c4]) rfl ⟨rfl, hB⟩
  | cons p ps =>
    go_enter Try.func18, Try.ntmps18
    go_wp2_with (fail)
    refine (hpl _ (HT.out.below (below_alloc (Below.refl _ _) _))).mono ?_
    rintro e w1 ⟨v, rfl, hR, hB⟩
    obtain ⟨A, c, rfl, hle, hC⟩ := Kd.R_reads hR
    have HB1 := Aside0.mk (below_step ((Below.refl _ _).alloc (Nat.le_refl _) _) hB)
    have HBK : Aside0 (w1.heap[w.heap.size]? = some (.cells #[.string ⟨#[]⟩, .int .i64 0, .int .i64 0, .int .i64 0, .int .i64 0] 50 (0, 0))) := ⟨blk_below (MapKept.heap_alloc w _).1 hB⟩
    have hz0 : w1.cell? ⟨w.heap.size, 0, none⟩ = some (.string ⟨#[]⟩) := (blk_cell HBK.out 0).trans rfl
    have hf0 := blk_frozen HBK.out 0
    have hz1 : w1.cell? ⟨w.heap.size, 1, none⟩ = some (.int .i64 0) := (blk_cell HBK.out 1).trans rfl
    have hf1 := blk_frozen HBK.out 1
    have hz2 : w1.cell? ⟨w.heap.size, 2, none⟩ = some (.int .i64 0) := (blk_cell HBK.out 2).trans rfl
    have hf2 := blk_frozen HBK.out 2
    have hz3 : w1.cell? ⟨w.heap.size, 3, none⟩ = some (.int .i64 0) := (blk_cell HBK.out 3).trans rfl
    have hf3 := blk_frozen HBK.out 3
    have hz4 : w1.cell? ⟨w.heap.size, 4, none⟩ = some (.int .i64 0) := (blk_cell HBK.out 4).trans rfl
    have hf4 := blk_frozen HBK.out 4
    obtain ⟨ad, q0, q1, q2, q3, q4, q5⟩ := first50 hC
    subst q0
    have hn0 : 0 < (p :: ps).length := by simp
    generalize (p :: ps).length = n at hn0 hle ⊢
    have e0 : ((n : Int) == 0) = false := beq_eq_false_iff_ne.2 (by omega)
    clear hR hB hC hle
    go_wp2
    have hK := set5_blk HBK.out (.string p.f0) (.int .i64 p.f1) (.int .i64 p.f2) (.int .i64 p.f3) (.int .i64 p.f4)
    have hB := set5_below HB1.out (Nat.le_refl _) (.string p.f0) (.int .i64 p.f1) (.int .i64 p.f2) (.int .i64 p.f3) (.int .i64 p.f4)
    change bodyPost Try.prog Try.f18 _ _ _ (set5 w1 w.heap.size (.string p.f0) (.int .i64 p.f1) (.int .i64 p.f2) (.int .i64 p.f3) (.int .i64 p.f4))
    generalize set5 w1 w.heap.size (.string p.f0) (.int .i64 p.f1) (.int .i64 p.f2) (.int .i64 p.f3) (.int .i64 p.f4) = W9 at hK hB ⊢
    have c0 : W9.cell? ⟨w.heap.size, 0, none⟩ = some (.string p.f0) := (blk_cell hK 0).trans rfl
    have c1 : W9.cell? ⟨w.heap.size, 1, none⟩ = some (.int .i64 p.f1) := (blk_cell hK 1).trans rfl
    have c2 : W9.cell? ⟨w.heap.size, 2, none⟩ = some (.int .i64 p.f2) := (blk_cell hK 2).trans rfl
    have c3 : W9.cell? ⟨w.heap.size, 3, none⟩ = some (.int .i64 p.f3) := (blk_cell hK 3).trans rfl
    have c4 : W9.cell? ⟨w.heap.size, 4, none⟩ = some (.int .i64 p.f4) := (blk_cell hK 4).trans rfl
    exact bodyPost_ret (v := .tuple #[.agg #[.string p.f0, .int .i64 p.f1, .int .i64 p.f2, .int .i64 p.f3, .int .i64 p.f4], .bool true]) (by simp [results, Try.results18, go_sem, c0, c1, c2, c3, c4]) rfl ⟨rfl, hB⟩
end Go.Proofs.Ytoiedcnhojkpiaa.Q
/- slices.Grow, slices.Concat, lookup's All: walked. -/
namespace Go.Proofs.Ytoiedcnhojkpiaa.Q
open Go.RowKit Go.Proofs.YtoiedcnhojkpiaaW.PrintWords Go.Proofs.YtoiedcnhojkpiaaW.PrintLast Go.Proofs.YtoiedcnhojkpiaaW.PrintMore
theorem flat_M52 {w W : World} {base : Nat} {ok : Nat → Prop} {x : S52} {cs : List Value} (h : Kd.K k52 w x cs) : Kd.M k52 W base ok x cs := by
  rw [k52_open h]
  exact k52_mkM _ _ _ x
theorem flat_M9 {w W : World} {base : Nat} {ok : Nat → Prop} {x : ByteArray} {cs : List Value} (h : Kd.K Kd.string w x cs) : Kd.M Kd.string W base ok x cs := h
theorem zeroCells_size (z : Array Value) (n : Nat) : (Builtin.zeroCells z n).size = n * z.size := by simp [Builtin.zeroCells]
set_option maxHeartbeats 4000000 in
set_option maxRecDepth 100000 in
theorem grow_calls (n : Nat) (w : World) (hn : n ≤ 100000) :
    Calls Try.prog 69 #[.slice none 0 0, .int .i64 n] w fun e w' => ∃ v, e = .returned v ∧ Kd.R k52 52 w' w.heap.size (fun _ => True) v [] ∧ Below w.heap.size w w' := by
  rcases Nat.eq_zero_or_pos n with h0 | h0
  · subst h0
    go_enter Try.func69, Try.ntmps69
    go_wp2
    go_ret
    exact ⟨_, rfl, Kd.R_nil k52 52 _ _ _, Below.refl _ _⟩
  · obtain ⟨i0, hi, hz0, hz1, hz2⟩ := info_parts info52
    have hrz : ∀ ty, (Builtin.append_ #[22, 3] ty #[.slice none 0 0, .int .i64 n]).run Try.prog w = _ := fun ty => Lib.run_append_nil_zeros w 22 3 ty 52 i0 _ .i64 .i64 Try.underlying22 Try.underlying3 hi hz0 n h0 (by omega) (by omega) (by rw [hz2]; omega)
    have hR : Kd.R k52 52 (w.drew.alloc (.cells (Builtin.zeroCells (Value.agg #[.string ⟨#[]⟩, .string ⟨#[]⟩, .int .i64 0, .int .i64 0, .int .i64 0, .int .i64 0]).cells n ++ Builtin.zeroCells (Value.agg #[.string ⟨#[]⟩, .string ⟨#[]⟩, .int .i64 0, .int .i64 0, .int .i64 0, .int .i64 0]).cells (grownCap w n 0 52 - n)) 52)) w.heap.size (fun _ => True) (.slice (some ⟨w.heap.size, 0, none⟩) 0 (grownCap w n 0 52)) [] := by
      refine ⟨fun _ _ => trivial, [], ⟨rfl, .inr ⟨w.heap.size, grownCap w n 0 52, _, rfl, Nat.le_refl _, (MapKept.heap_alloc w.drew _).1, Nat.zero_le _, grownCap_le_maxLen w n 0 52 (by unfold maxLen; omega), ?_, by simp⟩⟩, Reps.none _ _⟩
      have h1 := grownCap_ge w n 0 52
      have h2 : ∀ m, (Builtin.zeroCells (Value.agg #[.string ⟨#[]⟩, .string ⟨#[]⟩, .int .i64 0, .int .i64 0, .int .i64 0, .int .i64 0]).cells m).size = m * 6 := fun m => zeroCells_size _ m
      show (_ ++ _ : Array Value).size = _ * 6
      rw [Array.size_append, h2, h2]
      omega
    generalize grownCap w n 0 52 = G at hrz hR
    have HR := Aside0.mk hR
    clear hR hi hz0 hz1 hz2
    go_enter Try.func69, Try.ntmps69
    go_wp2_with (at_builtin; refine Lib.wpList_append_run _ rfl _ _ _ _ rfl _ _ rfl rfl _ _ (hrz _) ?_)
    go_ret
    exact ⟨_, rfl, HR.out, (below_drew (Below.refl _ _)).alloc (Nat.le_refl _) _⟩
/-- How many there are in all. -/
def lens : List (List S52) → Nat
  | [] => 0
  | l :: ls => l.length + lens ls
theorem lens_append : ∀ a b : List (List S52), lens (a ++ b) = lens a + lens b
  | [], b => by simp [lens]
  | l :: a, b => by simp [lens, lens_append a b]; omega
theorem lens_take (ls : List (List S52)) (k : Nat) (h : k < ls.length) : lens (ls.take (k + 1)) = lens (ls.take k) + ls[k].length := by
  rw [List.take_succ_eq_append_getElem h, lens_append]
  simp [lens]
theorem lens_le (ls : List (List S52)) (k : Nat) : lens (ls.take k) ≤ lens ls := by
  conv => rhs; rw [← List.take_append_drop k ls, lens_append]
  omega
theorem flat_take (ls : List (List S52)) (k : Nat) (h : k < ls.length) : (ls.take (k + 1)).flatten = (ls.take k).flatten ++ ls[k] := by
  rw [List.take_succ_eq_append_getElem h, List.flatten_append, List.flatten_cons, List.flatten_nil, List.append_nil]
theorem lens_flatten : ∀ ls : List (List S52), ls.flatten.length = lens ls
  | [] => rfl
  | l :: ls => by rw [List.flatten_cons, List.length_append, lens_flatten ls]; rfl
set_option maxHeartbeats 4000000 in
set_option maxRecDepth 100000 in
theorem concat_calls (A : Option Addr) (c : Nat) (ls : List (List S52)) (w : World) (hr : Kd.C (Kd.slice 52 k52) w A ls.length ls) (hl : ls.length ≤ 1000) (hs : lens ls ≤ 100000) :
    Calls Try.prog 46 #[.slice A ls.length c] w fun e w' => ∃ v, e = .returned v ∧ Kd.R k52 52 w' w.heap.size (fun _ => True) v ls.flatten ∧ Below w.heap.size w w' := by
  have HR := Aside0.mk hr
  have HS := Aside0.mk hs
  have HB0 := Aside0.mk (Below.refl w.heap.size w)
  clear hr hs
  go_enter Try.func46, Try.ntmps46
  go_wp2
  go_loopw [3, 11] (fun v3 v11 wr => ∃ k : Nat, k ≤ ls.length ∧ v11 = .int .i64 k ∧ v3 = .int .i64 (lens (ls.take k) : Nat) ∧ Aside0 (Below w.heap.size w wr)) (fun _ v11 _ => ls.length - (intOf v11).toNat)
  case atStart => exact ⟨0, Nat.zero_le _, rfl, rfl, HB0⟩
  case round =>
    clear HB0
    obtain ⟨k, hk, rfl, rfl, HB⟩ := hrel
    by_cases hlt : k < ls.length
    · obtain ⟨ad, A0, c0, rfl, hx, hle, hC⟩ := at_L4 (Kd.C_below HR.out HB.out) (k : Int) (by omega) (by omega)
      have hd : rd_L4 ls (k : Int) = ls[k] := by unfold rd_L4; simp [List.getD_eq_getElem?_getD, List.getElem?_eq_getElem hlt]
      rw [hd, Int.toNat_natCast] at hx
      have hb1 : lens (ls.take (k + 1)) ≤ 100000 := Nat.le_trans (lens_le ls _) HS.out
      have hT := lens_take ls k hlt
      have HT := Aside0.mk hT
      have hb2 : lens (ls.take k) + ls[k].length ≤ 100000 := by omega
      clear hd hT hC hle hb1
      generalize ls[k].length = m at hx HT hb2
      generalize lens (ls.take k) = S at HT hb2 ⊢
      have q1 : ¬ ((S : Int) + (m : Int) < 0) := by omega
      have q2 : (0 : Int) ≤ (S : Int) + (m : Int) := by omega
      go_wp2
      go_roundw
      case rel => exact ⟨k + 1, by omega, by go_num, by rw [HT.out]; go_num, HB⟩
      case measure => simp [intOf]; omega
    · obtain rfl : k = ls.length := by omega
      have hS := HS.out
      have hT : lens (ls.take ls.length) = lens ls := by rw [List.take_length]
      rw [hT]
      clear hT
      go_wp2_with (fail)
      refine (grow_calls (lens ls) _ (by omega)).mono ?_
      rintro e w1 ⟨v, rfl, hR, hB⟩
      have HO := Aside0.mk (Kd.R_lower hR HB.out.size)
      have HB1 := Aside0.mk (below_step HB.out hB)
      clear hR hB HB
      go_wp2_with (fail)
      go_loopw [6, 27] (fun v6 v27 w2 => ∃ k : Nat, k ≤ ls.length ∧ v27 = .int .i64 k ∧ Aside0 (Kd.R k52 52 w2 w.heap.size (fun _ => True) v6 (ls.take k).flatten) ∧ Aside0 (Below w.heap.size w w2)) (fun _ v27 _ => ls.length - (intOf v27).toNat)
      case atStart => exact ⟨0, Nat.zero_le _, rfl, HO, HB1⟩
      case round =>
        clear HO HB1
        obtain ⟨k, hk, rfl, HO, HB⟩ := hrel
        by_cases hlt : k < ls.length
        · obtain ⟨ad, A0, c0, rfl, hx, hle, hC⟩ := at_L4 (Kd.C_below HR.out HB.out) (k : Int) (by omega) (by omega)
          have hd : rd_L4 ls (k : Int) = ls[k] := by unfold rd_L4; simp [List.getD_eq_getElem?_getD, List.getElem?_eq_getElem hlt]
          rw [hd, Int.toNat_natCast] at hx
          rw [hd] at hC
          have hT := flat_take ls k hlt
          have hb2 : (ls.take k).flatten.length + ls[k].length ≤ 100000 := by
            rw [lens_flatten, ← lens_take ls k hlt]
            exact Nat.le_trans (lens_le ls _) hS
          have HT := Aside0.mk hT
          have HC := Aside0.mk hC
          have HB2 := Aside0.mk hb2
          clear hd hle hT hC hb2
          generalize ls[k] = y at hx HT HC HB2
          go_wp2_with (first | ((with_reducible refine gate_builtin (b := .append) (xs := #[.tmp 31, .tmp 32]) rfl ?_); at_builtin; refine Kd.R_append_rows k52 (Rr := Kd.K k52 wr) (w0 := w) w.heap.size ?hg (.tmp 31) (.tmp 32) 22 52 (.agg #[.string ⟨#[]⟩, .string ⟨#[]⟩, .int .i64 0, .int .i64 0, .int .i64 0, .int .i64 0]) 64 ?ho Try.underlying22 info52 rfl (by decide) (by omega) u6 ((ls.take k).flatten) (y) A0 y.length c0 (fun _ => True) (fun _ => False) ?hs ?hx ?aO ?aR ?aK (fun _ hk => hk.elim) (fun _ _ => trivial) ?aB ?aS ?aL ?_; (case hg => rfl); (case ho => rfl); (case hs => rfl); (case hx => rfl); (case aO => exact HO.out); (case aR => exact HC.out); (case aK => exact fun x cs h => flat_M52 h); (case aB => exact HB.out); (case aS => exact HB.out.size); (case aL => have := HB2.out; omega); intro v9 w9 ho hb hg hat; have HO9 := Aside0.mk ho; have HB9 := Aside0.mk hb; clear ho hb hg hat))
          go_roundw
          case rel => exact ⟨k + 1, by omega, by go_num, ⟨by rw [HT.out]; exact HO9.out⟩, HB9⟩
          case measure => simp [intOf]; omega
        · obtain rfl : k = ls.length := by omega
          go_wp2_with (fail)
          go_ret
          exact ⟨_, rfl, by have := HO.out; rwa [List.take_length] at this, HB.out⟩
/-- All items of a table. -/
def allF (F : Nat → List S52) : List S52 := ((List.range 256).map F).flatten
theorem Tab.reads {w : World} {base g : Nat} {F : Nat → List S52} (h : Tab w base g F) : Kd.C (Kd.slice 52 k52) w (some ⟨g, 0, none⟩) 256 ((List.range 256).map F) := by
  obtain ⟨vs, h1, h2, h3, _⟩ := h
  refine ⟨by simp, by omega, fun _ => ⟨_, rfl, fun j p hj => ?_⟩⟩
  have hj1 : j < 256 := by simpa using (List.getElem?_eq_some_iff.1 hj).1
  have hp : p = F j := by
    rw [List.getElem?_map, List.getElem?_range hj1] at hj
    simpa using hj.symm
  subst hp
  have hl : vs[j]? = some vs[j] := Array.getElem?_eq_getElem (by omega)
  obtain ⟨A, c, e, hle, hC⟩ := Kd.R_reads (h3 j _ hl)
  refine ⟨[vs[j]], rfl, ⟨A, c, by rw [e], hle, hC⟩, fun i u hu => ?_⟩
  have hi : i = 0 := by
    have := (List.getElem?_eq_some_iff.1 hu).1
    simpa using this
  subst hi
  have hv : u = vs[j] := by simpa using hu.symm
  rw [hv, Nat.add_zero, show j * (Kd.slice 52 k52).sz = j from Nat.mul_one j, add_plain, blk_cell h2 j, hl]
set_option maxHeartbeats 4000000 in
set_option maxRecDepth 100000 in
theorem all_calls (base g : Nat) (F : Nat → List S52) (w : World) (h : Tab w base g F) (hs : (allF F).length ≤ 100000) :
    Calls Try.prog 16 #[.pointer (some ⟨g, 0, none⟩)] w fun e w' => ∃ v, e = .returned v ∧ Kd.R k52 52 w' w.heap.size (fun _ => True) v (allF F) ∧ Below w.heap.size w w' := by
  have hC := concat_calls (some ⟨g, 0, none⟩) 256 ((List.range 256).map F) w (by have := h.reads; simpa using this) (by simp) (by rw [← lens_flatten]; exact hs)
  have hl : ((List.range 256).map F).length = 256 := by simp
  rw [hl] at hC
  obtain ⟨vs, _, hblk, _, _⟩ := h
  have hc := blk_cell hblk 0
  go_enter Try.func16, Try.ntmps16
  go_wp2_with (fail)
  refine hC.mono ?_
  rintro e w1 ⟨v, rfl, hR, hB⟩
  go_wp2_with (fail)
  go_ret
  exact ⟨_, rfl, hR, hB⟩
end Go.Proofs.Ytoiedcnhojkpiaa.Q
/- lookup's Ids and Packs: walked. -/
namespace Go.Proofs.Ytoiedcnhojkpiaa.Q
open Go.RowKit Go.Proofs.YtoiedcnhojkpiaaW.PrintWords Go.Proofs.YtoiedcnhojkpiaaW.PrintLast Go.Proofs.YtoiedcnhojkpiaaW.PrintMore
/-- A row stays while a row of another type grows. -/
theorem R_other {α β : Type} {d1 : Kd α} {d2 : Kd β} {e1 e2 b1 b2 : Nat} {w w1 : World} {ok1 ok2 : Nat → Prop} {v1 v2 : Value} {xs : List α} {ys : List β} (h1 : Kd.R d1 e1 w b1 ok1 v1 xs) (h2 : Kd.R d2 e2 w b2 ok2 v2 ys) (hne : ∀ q, q ∈ e1 :: d1.E → q ≠ e2) (hg : w.grownBy w1 v2.ownBlock) : Kd.R d1 e1 w1 b1 ok1 v1 xs := by
  refine Kd.R_mono (Kd.R_grown (Kd.R_bound h1) hg (fun k hk he => ?_)) (fun k hk => hk.1)
  obtain ⟨_, _, _, q, hq, cells, hc⟩ := hk
  obtain ⟨inner, ho⟩ := Kd.R_own h2
  obtain ⟨cells2, hc2⟩ := own_typed ho k he.symm
  rw [hc] at hc2
  injection hc2 with hc2
  injection hc2 with _ hc2
  exact hne q hq hc2
theorem C_of_R {α : Type} {d : Kd α} {e base c : Nat} {w : World} {ok : Nat → Prop} {A : Option Addr} {l : List α} (h : Kd.R d e w base ok (.slice A l.length c) l) : Kd.C d w A l.length l ∧ l.length ≤ c := by
  obtain ⟨A', c', e1, hle, hC⟩ := Kd.R_reads h
  injection e1 with e1 e2 e3
  subst e1 e3
  exact ⟨hC, hle⟩
def idStep (o : List ByteArray) (x : S52) : List ByteArray := if o.getLast? = some x.f0 then o else o ++ [x.f0]
/-- The ids of a list of items. -/
def idsOf (l : List S52) : List ByteArray := l.foldl idStep []
theorem idsOf_take (l : List S52) (k : Nat) (h : k < l.length) : idsOf (l.take (k + 1)) = idStep (idsOf (l.take k)) l[k] := by
  unfold idsOf
  rw [List.take_succ_eq_append_getElem h, List.foldl_append]
  rfl
theorem idsOf_len (l : List S52) : (idsOf l).length ≤ l.length := by
  unfold idsOf
  suffices h : ∀ (l : List S52) (o : List ByteArray), (l.foldl idStep o).length ≤ o.length + l.length by simpa using h l []
  intro l
  induction l with
  | nil => intro o; simp
  | cons a l ih =>
    intro o
    have := ih (idStep o a)
    have h2 : (idStep o a).length ≤ o.length + 1 := by unfold idStep; split <;> simp
    simp only [List.foldl_cons, List.length_cons]
    omega
set_option maxHeartbeats 4000000 in
set_option maxRecDepth 100000 in
theorem ids_calls (base g : Nat) (F : Nat → List S52) (w : World) (h : Tab w base g F) (hs : (allF F).length ≤ 100000) :
    Calls Try.prog 36 #[.pointer (some ⟨g, 0, none⟩)] w fun e w' => ∃ v, e = .returned v ∧ Kd.R Kd.string 9 w' w.heap.size (fun _ => True) v (idsOf (allF F)) ∧ Below w.heap.size w w' := by
  have hA := all_calls base g F w h hs
  have HS := Aside0.mk hs
  clear hs
  generalize allF F = l at hA HS ⊢
  go_enter Try.func36, Try.ntmps36
  go_wp2_with (fail)
  refine hA.mono ?_
  rintro e w1 ⟨v, rfl, hR, hB⟩
  obtain ⟨A, c, rfl, hle, hC⟩ := Kd.R_reads hR
  have HC := Aside0.mk hR
  have HB0 := Aside0.mk hB
  clear hR hB hC hle hA
  go_wp2_with (fail)
  go_loopw [3, 9] (fun v3 v9 wr => ∃ k : Nat, k ≤ l.length ∧ v9 = .int .i64 k ∧ Aside0 (Kd.R Kd.string 9 wr w.heap.size (fun _ => True) v3 (idsOf (l.take k))) ∧ Aside0 (Below w.heap.size w wr) ∧ Aside0 (Kd.R k52 52 wr w.heap.size (fun _ => True) (.slice A l.length c) l)) (fun _ v9 _ => l.length - (intOf v9).toNat)
  case atStart => exact ⟨0, Nat.zero_le _, rfl, ⟨Kd.R_nil Kd.string 9 _ _ _⟩, HB0, HC⟩
  case round =>
    clear HB0 HC
    obtain ⟨k, hk, rfl, HO, HB, HC⟩ := hrel
    have hlen : (idsOf (l.take k)).length ≤ 100000 := by have h1 := idsOf_len (l.take k); have h2 := List.length_take_le k l; have := HS.out; omega
    have HLN := Aside0.mk hlen
    clear hlen
    have hkb : k ≤ 100000 := by have := HS.out; omega
    by_cases hlt : k < l.length
    · obtain ⟨ad, x, rfl, hx, h0, h1, h2, h3, h4, h5⟩ := at52 (C_of_R HC.out).1 k hlt
      have HT := Aside0.mk (idsOf_take l k hlt)
      have hx2 : l[k] = x := (List.getElem?_eq_some_iff.1 hx).2
      rw [hx2] at HT
      clear hx hx2
      obtain ⟨A3, c3, rfl, hle3, hC3⟩ := Kd.R_reads HO.out
      have HC3 := Aside0.mk hC3
      clear hC3
      generalize idsOf (l.take k) = o at HO HT HC3 HLN hle3 ⊢
      go_upto_region 5 with (fail)
      have HBX : Aside0 (Below wr.heap.size wr (wr.alloc (.cells #[.string x.f0, .string x.f1.f0, .int .i64 x.f1.f1, .int .i64 x.f1.f2, .int .i64 x.f1.f3, .int .i64 x.f1.f4] 52))) := ⟨below_alloc (Below.refl _ _) _⟩
      have hg : (wr.alloc (.cells #[.string x.f0, .string x.f1.f0, .int .i64 x.f1.f1, .int .i64 x.f1.f2, .int .i64 x.f1.f3, .int .i64 x.f1.f4] 52)).heap[wr.heap.size]? = some (.cells #[.string x.f0, .string x.f1.f0, .int .i64 x.f1.f1, .int .i64 x.f1.f2, .int .i64 x.f1.f3, .int .i64 x.f1.f4] 52 (0, 0)) := (MapKept.heap_alloc wr _).1
      have c0 : (wr.alloc (.cells #[.string x.f0, .string x.f1.f0, .int .i64 x.f1.f1, .int .i64 x.f1.f2, .int .i64 x.f1.f3, .int .i64 x.f1.f4] 52)).cell? ⟨wr.heap.size, 0, none⟩ = some (.string x.f0) := (blk_cell hg 0).trans rfl
      generalize (wr.alloc (.cells #[.string x.f0, .string x.f1.f0, .int .i64 x.f1.f1, .int .i64 x.f1.f2, .int .i64 x.f1.f3, .int .i64 x.f1.f4] 52)) = W at HBX c0 ⊢
      have HO1 := Aside0.mk (Kd.R_below HO.out HBX.out)
      have HC1 := Aside0.mk (Kd.R_below HC.out HBX.out)
      have HB1 := Aside0.mk (below_step HB.out HBX.out)
      have HC31 := Aside0.mk (Kd.C_below HC3.out HBX.out)
      clear HO HC HB HC3 h0 h1 h2 h3 h4 h5 hg
      rcases List.eq_nil_or_concat o with ho | ⟨o', s, ho⟩
      · have HS2 : Aside0 (idStep o x = o ++ [x.f0]) := ⟨by rw [ho]; rfl⟩
        have HO2 : Aside0 (Kd.R Kd.string 9 W w.heap.size (fun _ => True) (.slice A3 0 c3) o) := ⟨by have := HO1.out; rw [ho] at this ⊢; exact this⟩
        have hz : o.length = 0 := by rw [ho]; rfl
        rw [hz]
        clear HC31 HO1 hz
        have HON := Aside0.mk ho
        clear ho
        go_quiet (fail)
        have hbW : Below W.heap.size W (W.drewN nq) := pw_below_drewN (Below.refl _ _) nq
        have c1 : (W.drewN nq).cell? ⟨wr.heap.size, 0, none⟩ = some (.string x.f0) := c0
        generalize W.drewN nq = W2 at hbW c1 ⊢
        have HO3 := Aside0.mk (Kd.R_below HO2.out hbW)
        have HC2 := Aside0.mk (Kd.R_below HC1.out hbW)
        have HB2 := Aside0.mk (below_step HB1.out hbW)
        clear HO2 HC1 HB1 hbW c0
        go_wp2_with (first | ((with_reducible refine gate_builtin (b := .append) (xs := #[.tmp 27, .tmp 30]) rfl ?_); at_builtin; refine Kd.R_append Kd.string (w0 := w) w.heap.size ?hg (.tmp 27) (.tmp 30) 23 9 (.string ⟨#[]⟩) 16 ?ho Try.underlying23 info9 rfl (by decide) (by omega) (.slice A3 0 c3) (o) (x.f0) [.string x.f0] (fun _ => True) (fun _ => False) ?hs ?hx ?aP (fun _ hk => hk.elim) (fun _ _ => trivial) ?aO ?aB ?aS ?aL ?_; (case hg => rfl); (case ho => rfl); (case hs => rfl); (case hx => rfl); (case aP => exact rfl); (case aB => exact HB2.out); (case aO => exact HO3.out); (case aS => exact HB2.out.size); (case aL => have := HLN.out; omega); intro v9 w9 ho hb hg hat; have HO9 := Aside0.mk ho; have HB9 := Aside0.mk hb; have HC9 := Aside0.mk (R_other HC2.out HO3.out (by decide) hg); clear ho hb hg hat))
        go_roundw
        case rel => exact ⟨k + 1, by omega, by go_num, ⟨by rw [HT.out, HS2.out]; exact HO9.out⟩, HB9, HC9⟩
        case measure => simp [intOf]; omega
      · obtain ⟨m, hm⟩ : ∃ m, m = o'.length := ⟨_, rfl⟩
        have hz : o.length = m + 1 := by rw [ho, hm]; simp
        obtain ⟨ad3, e3, hx3⟩ := Kd.at_string HC31.out (m : Int) (by omega) (by omega)
        have hs : rdOf ByteArray.empty o (m : Int) = s := by unfold rdOf; rw [ho, hm]; simp [List.getD_eq_getElem?_getD]
        rw [hs, Int.toNat_natCast] at hx3
        subst e3
        have HO2 : Aside0 (Kd.R Kd.string 9 W w.heap.size (fun _ => True) (.slice (some ad3) (m + 1) c3) o) := ⟨by have := HO1.out; rwa [hz] at this⟩
        have hlast : o.getLast? = some s := by rw [ho]; simp
        have HLA := Aside0.mk hlast
        have HMZ := Aside0.mk hz
        rw [hz]
        have hm5 : m ≤ 100000 := by have := HLN.out; omega
        have e1 : ((m : Int) + 1 == 0) = false := beq_eq_false_iff_ne.2 (by omega)
        have wm : IntKind.i64.wrap (m : Int) = (m : Int) := by rw [IntKind.wrap_i64]; omega
        clear HC31 HO1 hz hs ho hm hlast
        by_cases he : s = x.f0
        · have q1 : (s.toList != x.f0.toList) = false := by rw [he]; simp
          have q2 : (s.toList == x.f0.toList) = true := by rw [he]; simp
          have HS2 : Aside0 (idStep o x = o) := ⟨by unfold idStep; rw [if_pos (by rw [HLA.out, he])]⟩
          clear he
          go_quiet (fail)
          clear wm
          have hbW : Below W.heap.size W (W.drewN nq) := pw_below_drewN (Below.refl _ _) nq
          generalize W.drewN nq = W2 at hbW ⊢
          have HO3 := Aside0.mk (Kd.R_below HO2.out hbW)
          have HC2 := Aside0.mk (Kd.R_below HC1.out hbW)
          have HB2 := Aside0.mk (below_step HB1.out hbW)
          clear HO2 HC1 HB1 hbW
          go_wp2
          go_roundw
          case rel => exact ⟨k + 1, by omega, by go_num, ⟨by rw [HT.out, HS2.out]; exact HO3.out⟩, HB2, HC2⟩
          case measure => simp [intOf]; omega
        · have hne : s.toList ≠ x.f0.toList := fun e => he (eq_of_toList e)
          have q1 : (s.toList != x.f0.toList) = true := bne_iff_ne.2 hne
          have q2 : (s.toList == x.f0.toList) = false := beq_eq_false_iff_ne.2 hne
          have HS2 : Aside0 (idStep o x = o ++ [x.f0]) := ⟨by unfold idStep; rw [if_neg (by rw [HLA.out]; intro h; injection h with h; exact he h)]⟩
          clear he hne
          go_quiet (fail)
          clear wm
          have hbW : Below W.heap.size W (W.drewN nq) := pw_below_drewN (Below.refl _ _) nq
          have c1 : (W.drewN nq).cell? ⟨wr.heap.size, 0, none⟩ = some (.string x.f0) := c0
          generalize W.drewN nq = W2 at hbW c1 ⊢
          have HO3 := Aside0.mk (Kd.R_below HO2.out hbW)
          have HC2 := Aside0.mk (Kd.R_below HC1.out hbW)
          have HB2 := Aside0.mk (below_step HB1.out hbW)
          clear HO2 HC1 HB1 hbW c0
          go_wp2_with (first | ((with_reducible refine gate_builtin (b := .append) (xs := #[.tmp 27, .tmp 30]) rfl ?_); at_builtin; refine Kd.R_append Kd.string (w0 := w) w.heap.size ?hg (.tmp 27) (.tmp 30) 23 9 (.string ⟨#[]⟩) 16 ?ho Try.underlying23 info9 rfl (by decide) (by omega) (.slice (some ad3) (m + 1) c3) (o) (x.f0) [.string x.f0] (fun _ => True) (fun _ => False) ?hs ?hx ?aP (fun _ hk => hk.elim) (fun _ _ => trivial) ?aO ?aB ?aS ?aL ?_; (case hg => rfl); (case ho => rfl); (case hs => rfl); (case hx => rfl); (case aP => exact rfl); (case aB => exact HB2.out); (case aO => exact HO3.out); (case aS => exact HB2.out.size); (case aL => have := HLN.out; omega); intro v9 w9 ho hb hg hat; have HO9 := Aside0.mk ho; have HB9 := Aside0.mk hb; have HC9 := Aside0.mk (R_other HC2.out HO3.out (by decide) hg); clear ho hb hg hat))
          go_roundw
          case rel => exact ⟨k + 1, by omega, by go_num, ⟨by rw [HT.out, HS2.out]; exact HO9.out⟩, HB9, HC9⟩
          case measure => simp [intOf]; omega
    · obtain rfl : k = l.length := by omega
      go_wp2_with (fail)
      go_ret
      exact ⟨_, rfl, by have := HO.out; rwa [List.take_length] at this, HB.out⟩
end Go.Proofs.Ytoiedcnhojkpiaa.Q
/- slices.Sort and slices.Compact over rows of texts, by the kit's contracts; what a list in order is made to. -/
namespace Go.Proofs.Ytoiedcnhojkpiaa.Q
open Go.RowKit Go.Sort Go.Proofs.YtoiedcnhojkpiaaW.PrintWords Go.Proofs.YtoiedcnhojkpiaaW.PrintLast Go.Proofs.YtoiedcnhojkpiaaW.PrintMore
/-! ### The plain law -/
theorem keeps_iff (d : Array (List UInt8)) (j : Nat) : Lib.keeps d j = true ↔ j = 0 ∨ d[j]! ≠ d[j - 1]! := by
  unfold Lib.keeps
  simp
theorem compact_mem (zs : List (List UInt8)) (x : List UInt8) : x ∈ Lib.compact zs ↔ x ∈ zs := by
  unfold Lib.compact Lib.compactUpTo
  rw [List.mem_map]
  constructor
  · rintro ⟨i, hi, rfl⟩
    have h1 : i < zs.length := List.mem_range.1 (List.mem_filter.1 hi).1
    simp [h1]
  · intro hx
    obtain ⟨i, hi, he⟩ := List.getElem_of_mem hx
    have key : ∀ n i, i ≤ n → ∀ hi : i < zs.length, zs[i] = x → ∃ a, a ∈ (List.range zs.length).filter (Lib.keeps zs.toArray) ∧ zs.toArray[a]! = x := by
      intro n
      induction n with
      | zero =>
        intro i hin hi he
        obtain rfl : i = 0 := by omega
        refine ⟨0, List.mem_filter.2 ⟨List.mem_range.2 hi, (keeps_iff _ _).2 (.inl rfl)⟩, ?_⟩
        simp [hi, he]
      | succ n ih =>
        intro i hin hi he
        by_cases hk : Lib.keeps zs.toArray i = true
        · refine ⟨i, List.mem_filter.2 ⟨List.mem_range.2 hi, hk⟩, ?_⟩
          simp [hi, he]
        · have h2 : ¬ (i = 0 ∨ zs.toArray[i]! ≠ zs.toArray[i - 1]!) := fun h => hk ((keeps_iff _ _).2 h)
          have h3 : i ≠ 0 := fun h => h2 (.inl h)
          have h4 : zs.toArray[i]! = zs.toArray[i - 1]! := Decidable.byContradiction fun h => h2 (.inr h)
          refine ih (i - 1) (by omega) (by omega) ?_
          rw [← he]
          simpa [hi, show i - 1 < zs.length by omega] using h4.symm
    exact key i i (Nat.le_refl _) hi he
theorem compact_rising (zs : List (List UInt8)) (h : zs.Pairwise fun a b => decide (a ≤ b) = true) : (Lib.compact zs).Pairwise fun a b => a < b := by
  unfold Lib.compact Lib.compactUpTo
  refine List.pairwise_map.2 ?_
  have hr : ((List.range zs.length).filter (Lib.keeps zs.toArray)).Pairwise (· < ·) := List.Pairwise.filter _ List.pairwise_lt_range
  refine List.Pairwise.imp_of_mem (fun {i j} hi hj hij => ?_) hr
  obtain ⟨hi1, _⟩ := List.mem_filter.1 hi
  obtain ⟨hj1, hj2⟩ := List.mem_filter.1 hj
  have hil := List.mem_range.1 hi1
  have hjl := List.mem_range.1 hj1
  have hle : ∀ a b, a ≤ b → ∀ hb : b < zs.length, zs.toArray[a]! ≤ zs.toArray[b]! := fun a b hab hb => by
    have ha : a < zs.length := by omega
    have e1 : zs.toArray[a]! = zs[a] := by simp [ha]
    have e2 : zs.toArray[b]! = zs[b] := by simp [hb]
    rw [e1, e2]
    rcases Nat.lt_or_ge a b with hlt | hge
    · exact of_decide_eq_true (List.pairwise_iff_getElem.1 h a b ha hb hlt)
    · obtain rfl : a = b := by omega
      exact List.le_refl _
  have h1 := hle i (j - 1) (by omega) (by omega)
  have h2 := hle (j - 1) j (by omega) hjl
  rcases (keeps_iff _ _).1 hj2 with h3 | h3
  · omega
  · have h4 : zs.toArray[j - 1]! < zs.toArray[j]! := Decidable.byContradiction fun hn => h3 (List.le_antisymm (List.not_lt.1 hn) h2)
    exact List.lt_of_le_of_lt h1 h4
theorem rising_pack {zs : List (List UInt8)} (h : zs.Pairwise fun a b => a < b) : Rising (zs.map packB) := by
  refine List.pairwise_map.2 (h.imp fun {a b} hab => ?_)
  rw [packB_list, packB_list]
  exact (bl_lt a b).2 hab
/-! ### Rows of texts -/
theorem pack_enc (zs : List (List UInt8)) : encs Value.string (zs.map packB) = zs.map encStr := by simp [encs, packB, Function.comp_def]
theorem unpack (l : List ByteArray) : (l.map fun s => s.data.toList).map packB = l := by
  rw [List.map_map]
  conv => rhs; rw [← List.map_id l]
  exact List.map_congr_left fun s _ => packB_of s
theorem sort_calls (v : Value) (l : List ByteArray) (base : Nat) (ok : Nat → Prop) (w : World) (h : Kd.R Kd.string 9 w base ok v l) (hl : l.length ≤ 100000) :
    Calls Try.prog 62 #[v] w fun e w' => e = .returned (.tuple #[]) ∧ Kd.R Kd.string 9 w' base ok v (((l.map fun s => s.data.toList).mergeSort fun x y => decide (x ≤ y)).map packB) ∧ w.grownBy w' v.ownBlock := by
  obtain ⟨zs, hz⟩ : ∃ zs, zs = l.map fun s => s.data.toList := ⟨_, rfl⟩
  have hl0 : l = zs.map packB := by rw [hz, unpack]
  have hlen : zs.length = l.length := by rw [hz]; simp
  rw [← hz]
  clear hz
  have ho := Kd.own_of_R h
  have hok := h.1
  rw [hl0, pack_enc] at ho
  simp only [List.length_map] at ho
  clear h
  rcases ho.2 with ⟨rfl, h0⟩ | ⟨g, cap, cur, rfl, hg, hb, h1, h2, h3, h4⟩
  · refine (Try.slices_Sort_string_none none 0 w).mono ?_
    rintro e w' ⟨rfl, rfl⟩
    have : zs = [] := List.length_eq_zero_iff.1 h0
    subst this
    exact ⟨rfl, by simpa using Kd.R_nil Kd.string 9 w' base ok, grown_of_below (Below.refl _ _) _⟩
  · refine (Try.slices_Sort_string g 0 cap zs w (holds_of_block hb (by simpa using h4)) (blk_lt hb) (by omega)).mono ?_
    rintro e w' ⟨rfl, n, os, rfl⟩
    refine ⟨rfl, ?_, grownBy_sorted _⟩
    refine Kd.R_of_own ?_ hok
    rw [pack_enc, List.length_map, List.length_mergeSort]
    exact ownsRow_sorted (by simp) hg hb h1 h2 h3
theorem compact_calls (v : Value) (l : List ByteArray) (base : Nat) (ok : Nat → Prop) (w : World) (h : Kd.R Kd.string 9 w base ok v l) (hl : l.length ≤ 100000) :
    Calls Try.prog 63 #[v] w fun e w' => ∃ v', e = .returned v' ∧ Kd.R Kd.string 9 w' base ok v' ((Lib.compact (l.map fun s => s.data.toList)).map packB) ∧ w.grownBy w' v.ownBlock := by
  obtain ⟨zs, hz⟩ : ∃ zs, zs = l.map fun s => s.data.toList := ⟨_, rfl⟩
  have hl0 : l = zs.map packB := by rw [hz, unpack]
  have hlen : zs.length = l.length := by rw [hz]; simp
  rw [← hz]
  clear hz
  have ho := Kd.own_of_R h
  have hok := h.1
  rw [hl0, pack_enc] at ho
  simp only [List.length_map] at ho
  clear h
  rcases ho.2 with ⟨rfl, h0⟩ | ⟨g, cap, cur, rfl, hg, hb, h1, h2, h3, h4⟩
  · refine (Try.slices_Compact_string_empty none 0 w).mono ?_
    rintro e w' ⟨rfl, rfl⟩
    have : zs = [] := List.length_eq_zero_iff.1 h0
    subst this
    exact ⟨_, rfl, Kd.R_nil Kd.string 9 w' base ok, grown_of_below (Below.refl _ _) _⟩
  · refine (Try.slices_Compact_string g 0 cap zs w (holds_of_block hb (by simpa using h4)) (by omega) h1).mono ?_
    rintro e w' ⟨rfl, n, rfl⟩
    have hcl : (Lib.compact zs).length ≤ zs.length := by
      unfold Lib.compact Lib.compactUpTo
      rw [List.length_map]
      exact Nat.le_trans (List.length_filter_le _ _) (by simp)
    obtain ⟨ts, hts⟩ : ∃ ts, ts = Lib.compact zs ++ List.replicate (zs.length - (Lib.compact zs).length) [] := ⟨_, rfl⟩
    have htl : ts.length = zs.length := by rw [hts]; simp; omega
    rw [← hts]
    have hgw : w.grownBy (grow (putRow encStr (Sort.ahead w n) g 0 ts.toArray) #[]) (some g) := grownBy_sorted _
    have hrow := ownsRow_sorted (n := n) (os := #[]) (base := base) htl hg hb h1 h2 h3
    rw [grow_empty] at hgw hrow
    refine ⟨_, rfl, ?_, hgw⟩
    refine Kd.R_of_own ?_ hok
    rw [pack_enc, List.length_map]
    rcases hrow.2 with ⟨hv, _⟩ | ⟨g', cap', cur', hv, hg', hb', k1, k2, k3, k4⟩
    · injection hv with hv
      cases hv
    · injection hv with hv e1 e2
      injection hv with hv
      injection hv with hv
      subst hv e2
      refine ⟨by simp, .inr ⟨g, cap, cur', rfl, hg', hb', by omega, k2, k3, ?_⟩⟩
      have h5 : (cur'.toList.take (zs.length * 1)).take (Lib.compact zs).length = (ts.map encStr).take (Lib.compact zs).length := by rw [k4]
      rw [List.take_take, Nat.min_eq_left (by omega), ← List.map_take, hts, List.take_left'] at h5
      · simpa using h5
      · rfl
/-- The packs of a list of items, in order, each once. -/
def packsOf (l : List S52) : List ByteArray := (Lib.compact (((l.map fun x => x.f1.f0).map fun s => s.data.toList).mergeSort fun x y => decide (x ≤ y))).map packB
theorem sorted_pw (zs : List (List UInt8)) : (zs.mergeSort fun x y => decide (x ≤ y)).Pairwise fun a b => decide (a ≤ b) = true :=
  List.pairwise_mergeSort (fun a b c hab hbc => by simp only [decide_eq_true_eq] at *; exact List.le_trans hab hbc) (fun a b => by simp only [Bool.or_eq_true, decide_eq_true_eq]; exact List.le_total a b) zs
theorem packsOf_rising (l : List S52) : Rising (packsOf l) := rising_pack (compact_rising _ (sorted_pw _))
theorem packsOf_mem (l : List S52) (s : ByteArray) : s ∈ packsOf l ↔ ∃ x ∈ l, x.f1.f0 = s := by
  unfold packsOf
  rw [List.mem_map]
  constructor
  · rintro ⟨b, hb, rfl⟩
    rw [compact_mem, List.mem_mergeSort, List.mem_map] at hb
    obtain ⟨y, hy, rfl⟩ := hb
    obtain ⟨x, hx, rfl⟩ := List.mem_map.1 hy
    exact ⟨x, hx, (packB_of _).symm⟩
  · rintro ⟨x, hx, rfl⟩
    exact ⟨_, by rw [compact_mem, List.mem_mergeSort, List.mem_map]; exact ⟨_, List.mem_map.2 ⟨x, hx, rfl⟩, rfl⟩, packB_of _⟩
theorem packsOf_len (l : List S52) : (packsOf l).length ≤ l.length := by
  unfold packsOf Lib.compact Lib.compactUpTo
  rw [List.length_map, List.length_map]
  exact Nat.le_trans (List.length_filter_le _ _) (by simp)
end Go.Proofs.Ytoiedcnhojkpiaa.Q
/- lookup's Packs: walked. -/
namespace Go.Proofs.Ytoiedcnhojkpiaa.Q
open Go.RowKit Go.Proofs.YtoiedcnhojkpiaaW.PrintWords Go.Proofs.YtoiedcnhojkpiaaW.PrintLast Go.Proofs.YtoiedcnhojkpiaaW.PrintMore
theorem packs_take (l : List S52) (k : Nat) (h : k < l.length) : ((l.take (k + 1)).map fun x => x.f1.f0) = ((l.take k).map fun x => x.f1.f0) ++ [l[k].f1.f0] := by
  rw [List.take_succ_eq_append_getElem h, List.map_append]
  rfl
set_option maxHeartbeats 4000000 in
set_option maxRecDepth 100000 in
theorem packs_calls (base g : Nat) (F : Nat → List S52) (w : World) (h : Tab w base g F) (hs : (allF F).length ≤ 100000) :
    Calls Try.prog 32 #[.pointer (some ⟨g, 0, none⟩)] w fun e w' => ∃ v, e = .returned v ∧ Kd.R Kd.string 9 w' w.heap.size (fun _ => True) v (packsOf (allF F)) ∧ Below w.heap.size w w' := by
  have hA := all_calls base g F w h hs
  have HS := Aside0.mk hs
  clear hs
  generalize allF F = l at hA HS ⊢
  go_enter Try.func32, Try.ntmps32
  go_wp2_with (fail)
  refine hA.mono ?_
  rintro e w1 ⟨v, rfl, hR, hB⟩
  obtain ⟨A, c, rfl, hle, hC⟩ := Kd.R_reads hR
  have HC := Aside0.mk hR
  have HB0 := Aside0.mk hB
  clear hR hB hC hle hA
  go_wp2_with (fail)
  go_loopw [3, 9] (fun v3 v9 wr => ∃ k : Nat, k ≤ l.length ∧ v9 = .int .i64 k ∧ Aside0 (Kd.R Kd.string 9 wr w.heap.size (fun _ => True) v3 ((l.take k).map fun x => x.f1.f0)) ∧ Aside0 (Below w.heap.size w wr) ∧ Aside0 (Kd.R k52 52 wr w.heap.size (fun _ => True) (.slice A l.length c) l)) (fun _ v9 _ => l.length - (intOf v9).toNat)
  case atStart => exact ⟨0, Nat.zero_le _, rfl, ⟨Kd.R_nil Kd.string 9 _ _ _⟩, HB0, HC⟩
  case round =>
    clear HB0 HC
    obtain ⟨k, hk, rfl, HO, HB, HC⟩ := hrel
    have hkb : k ≤ 100000 := by have := HS.out; omega
    by_cases hlt : k < l.length
    · obtain ⟨ad, x, rfl, hx, h0, h1, h2, h3, h4, h5⟩ := at52 (C_of_R HC.out).1 k hlt
      have HT := Aside0.mk (packs_take l k hlt)
      have hx2 : l[k] = x := (List.getElem?_eq_some_iff.1 hx).2
      rw [hx2] at HT
      have HLN : Aside0 (((l.take k).map fun x => x.f1.f0).length ≤ 100000) := ⟨by rw [List.length_map, List.length_take]; have := HS.out; omega⟩
      clear hx hx2
      generalize ((l.take k).map fun x => x.f1.f0) = o at HO HT HLN ⊢
      go_upto_region 5 with (fail)
      have HBX : Aside0 (Below wr.heap.size wr (wr.alloc (.cells #[.string x.f0, .string x.f1.f0, .int .i64 x.f1.f1, .int .i64 x.f1.f2, .int .i64 x.f1.f3, .int .i64 x.f1.f4] 52))) := ⟨below_alloc (Below.refl _ _) _⟩
      have hg : (wr.alloc (.cells #[.string x.f0, .string x.f1.f0, .int .i64 x.f1.f1, .int .i64 x.f1.f2, .int .i64 x.f1.f3, .int .i64 x.f1.f4] 52)).heap[wr.heap.size]? = some (.cells #[.string x.f0, .string x.f1.f0, .int .i64 x.f1.f1, .int .i64 x.f1.f2, .int .i64 x.f1.f3, .int .i64 x.f1.f4] 52 (0, 0)) := (MapKept.heap_alloc wr _).1
      have c1 : (wr.alloc (.cells #[.string x.f0, .string x.f1.f0, .int .i64 x.f1.f1, .int .i64 x.f1.f2, .int .i64 x.f1.f3, .int .i64 x.f1.f4] 52)).cell? ⟨wr.heap.size, 1, none⟩ = some (.string x.f1.f0) := (blk_cell hg 1).trans rfl
      generalize (wr.alloc (.cells #[.string x.f0, .string x.f1.f0, .int .i64 x.f1.f1, .int .i64 x.f1.f2, .int .i64 x.f1.f3, .int .i64 x.f1.f4] 52)) = W at HBX c1 ⊢
      have HO1 := Aside0.mk (Kd.R_below HO.out HBX.out)
      have HC1 := Aside0.mk (Kd.R_below HC.out HBX.out)
      have HB1 := Aside0.mk (below_step HB.out HBX.out)
      clear HO HC HB h0 h1 h2 h3 h4 h5 hg
      go_wp2_with (first | ((with_reducible refine gate_builtin (b := .append) (xs := #[.tmp 13, .tmp 17]) rfl ?_); at_builtin; refine Kd.R_append Kd.string (w0 := w) w.heap.size ?hg (.tmp 13) (.tmp 17) 23 9 (.string ⟨#[]⟩) 16 ?ho Try.underlying23 info9 rfl (by decide) (by omega) u3 (o) (x.f1.f0) [.string x.f1.f0] (fun _ => True) (fun _ => False) ?hs ?hx ?aP (fun _ hk => hk.elim) (fun _ _ => trivial) ?aO ?aB ?aS ?aL ?_; (case hg => rfl); (case ho => rfl); (case hs => rfl); (case hx => rfl); (case aP => exact rfl); (case aB => exact HB1.out); (case aO => exact HO1.out); (case aS => exact HB1.out.size); (case aL => have := HLN.out; omega); intro v9 w9 ho hb hg hat; have HO9 := Aside0.mk ho; have HB9 := Aside0.mk hb; have HC9 := Aside0.mk (R_other HC1.out HO1.out (by decide) hg); clear ho hb hg hat))
      go_roundw
      case rel => exact ⟨k + 1, by omega, by go_num, ⟨by rw [HT.out]; exact HO9.out⟩, HB9, HC9⟩
      case measure => simp [intOf]; omega
    · obtain rfl : k = l.length := by omega
      have HO1 : Aside0 (Kd.R Kd.string 9 wr w.heap.size (fun _ => True) u3 (l.map fun x => x.f1.f0)) := ⟨by have := HO.out; rwa [List.take_length] at this⟩
      have HLN : Aside0 ((l.map fun x => x.f1.f0).length ≤ 100000) := ⟨by rw [List.length_map]; exact HS.out⟩
      clear HO
      go_wp2_with (fail)
      refine (sort_calls u3 _ _ _ wr HO1.out HLN.out).mono ?_
      rintro e w2 ⟨rfl, hR, hg⟩
      have HR2 := Aside0.mk hR
      have HB2 := Aside0.mk (pw_below_grown HB.out _ HB.out.size hg (fun k hk => by obtain ⟨i, ho⟩ := Kd.R_own HO1.out; exact own_base ho k hk))
      clear hR hg
      go_wp2_with (fail)
      refine (compact_calls u3 _ _ _ w2 HR2.out (by simpa using HLN.out)).mono ?_
      rintro e w3 ⟨v', rfl, hR, hg⟩
      have HR3 := Aside0.mk hR
      have HB3 := Aside0.mk (pw_below_grown HB2.out _ HB2.out.size hg (fun k hk => by obtain ⟨i, ho⟩ := Kd.R_own HR2.out; exact own_base ho k hk))
      clear hR hg
      go_wp2_with (fail)
      go_ret
      refine ⟨_, rfl, ?_, HB3.out⟩
      have h := HR3.out
      unfold packsOf
      rw [List.map_map, show ((fun s : ByteArray => s.data.toList) ∘ packB) = id from rfl, List.map_id] at h
      exact h
end Go.Proofs.Ytoiedcnhojkpiaa.Q
