/- Of the proof about maint: several texts, joined. -/
import Derived.Test.YtpdkgpmcmebefaaGreatDoorMJ
import Derived.Test.YtpdkgpmcmebefaaGreatDoorMK
import Derived.Test.YtpdkgpmcmebefaaGreatDoorME
set_option maxHeartbeats 16000000
set_option maxRecDepth 100000
set_option linter.unusedVariables false
set_option linter.unusedSimpArgs false
namespace Go.Proofs.YtpdkgpmcmebefaaGreatDoor.Q
open Go.RowKit Go.Proofs.YtpdkgpmcmebefaaGreatDoorW.PrintWords Go.Proofs.YtpdkgpmcmebefaaGreatDoorW.PrintLast Go.Proofs.YtpdkgpmcmebefaaGreatDoorW.PrintMore
attribute [local go_sem] max2_int min2_int max_two min_two max_three min_three max_four min_four
def Ev {α : Type} (f : Nat → Option α) (r : α) : Prop := ∃ K0, ∀ K, K0 ≤ K → f K = some r
theorem Ev.pure {α : Type} (r : α) : Ev (fun _ => some r) r := ⟨0, fun _ _ => rfl⟩
theorem Ev.succ {α : Type} {f : Nat → Option α} {r : α} (h : Ev (fun k => f (k + 1)) r) : Ev f r := by
 obtain ⟨K0, h⟩ := h
 refine ⟨K0 + 1, fun K hK => ?_⟩
 obtain ⟨J, rfl⟩ : ∃ J, K = J + 1 := ⟨K - 1, by omega⟩
 exact h J (by omega)
theorem Ev.bind {α β : Type} {f : Nat → Option α} {g : Nat → α → Option β} {a : α} {r : β} (h : Ev f a) (k : Ev (fun n => g n a) r) : Ev (fun n => (f n).bind (g n)) r := by
 obtain ⟨K0, h⟩ := h
 obtain ⟨K1, k⟩ := k
 refine ⟨K0 + K1, fun K hK => ?_⟩
 show (f K).bind (g K) = some r
 rw [h K (by omega)]
 exact k K (by omega)
theorem Ev.congr {α : Type} {f : Nat → Option α} {r r' : α} (h : Ev f r) (e : r = r') : Ev f r' := e ▸ h
theorem wrapS (i : Nat) (h : i ≤ 1000000000) : wrap64 ((i : Int) + 1) = ((i + 1 : Nat) : Int) := by rw [wrap_id (by omega)]; omega
theorem runits (p : Pol) : r22_Policy_units.f p.last p.hour p.day p.week p.month p.year p.within p.tags = some (unitsP p) := rfl
def strZ : ByteArray := strOfNums (List.replicate 32 0)
theorem strZ_size : (strZ.size : Int) = 32 := by decide +kernel
theorem rd_units (p : Pol) (i : Nat) : rd (unitsP p) (i : Int) = (unitsP p).getD i 0 := by unfold rd; rw [Int.toNat_natCast]
theorem rlikeZ (tags : List ByteArray) (hl : tags.length ≤ 2000) (hz : ∀ s ∈ tags, (s.size : Int) < 9223372036854775808) :
  Ev (fun k => r20_Check.f k 0 (⟨#[104]⟩ : ByteArray) ([] : List ByteArray) tags strZ (⟨#[]⟩ : ByteArray)) (if tagsP tags = true then 0 else 200) := by
 obtain ⟨M, hM⟩ : ∃ M, ∀ s ∈ tags, s.size ≤ M := by
  clear hl hz
  induction tags with
  | nil => exact ⟨0, fun s h => by cases h⟩
  | cons a r ih =>
   obtain ⟨M, h⟩ := ih
   exact ⟨M + a.size, fun s hs => by
    rcases List.mem_cons.1 hs with rfl | hs
    ·omega
    ·have := h s hs; omega⟩
 refine ⟨1070000 + M + 6000, fun K hK => ?_⟩
 have h := rcheck ⟨0, ⟨#[104]⟩, [], tags, strZ, ⟨#[]⟩⟩ (by simp) hl (show ((⟨#[104]⟩ : ByteArray).size : Int) < 9223372036854775808 by decide) (fun s hs => by simp at hs) hz K (by omega) (by show (⟨#[104]⟩ : ByteArray).size + 1 ≤ K; have : (⟨#[104]⟩ : ByteArray).size = 1 := rfl; omega) (fun s hs => by have := hM s hs; omega)
 have e : snapP ⟨0, ⟨#[104]⟩, [], tags, strZ, ⟨#[]⟩⟩ = tagsP tags := by
  unfold snapP tagsP
  dsimp only
  have h1 : wordP ⟨#[104]⟩ 64 = true := by decide +kernel
  have h2 : risesP pathP lessP [] = true := rises_good (by decide) (fun i hi => by simp at hi)
  have h3 : ((strZ.size : Int) == 32) = true := by rw [strZ_size]; rfl
  have h4 : (⟨#[]⟩ : ByteArray).toList.isEmpty = true := by decide +kernel
  rw [h1, h2, h3, h4]
  simp
 rw [e] at h
 exact h
def restP (p : Pol) : Bool := decide (0 ≤ p.within) && (decide (p.within ≤ 1099511627776) && tagsP p.tags)
theorem rcheckp0 (p : Pol) (hl : p.tags.length ≤ 2000) (hz : ∀ s ∈ p.tags, (s.size : Int) < 9223372036854775808) : ∀ m i : Nat, i + m = 6 →
  Ev (fun k => r22_Check.l0 k (unitsP p) (i : Int) p.last p.hour p.day p.week p.month p.year p.within p.tags) (if (((unitsP p).drop i).all okU && restP p) = true then 0 else 1)
 | 0, i, hi => by
  obtain rfl : i = 6 := by omega
  have hd : (unitsP p).drop 6 = [] := rfl
  rw [hd, List.all_nil, Bool.true_and]
  refine Ev.succ ?_
  have hlen : ¬ (((6 : Nat) : Int) < ((unitsP p).length : Int)) := by unfold unitsP; simp
  simp only [r22_Check.l0, if_neg hlen]
  unfold restP
  by_cases h1 : p.within < 0
  ·simp only [if_pos h1]
   rw [decide_eq_false (show ¬ 0 ≤ p.within by omega), Bool.false_and, if_neg (by decide)]
   refine Ev.succ ?_
   simp only [r22_Check.j1, if_true]
   exact Ev.pure _
  ·simp only [if_neg h1]
   by_cases h2 : p.within > 1099511627776
   ·simp only [if_pos h2]
    rw [decide_eq_false (show ¬ p.within ≤ 1099511627776 by omega), Bool.false_and, Bool.and_false, if_neg (by decide)]
    refine Ev.succ ?_
    simp only [r22_Check.j1, if_true]
    exact Ev.pure _
   ·simp only [if_neg h2]
    rw [decide_eq_true (show 0 ≤ p.within by omega), decide_eq_true (show p.within ≤ 1099511627776 by omega), Bool.true_and, Bool.true_and]
    refine Ev.succ ?_
    by_cases h3 : (p.tags.length : Int) > 64
    ·rw [tagsP_len (by omega), if_neg (by decide)]
     simp only [r22_Check.j1, decide_eq_true h3, if_true]
     exact Ev.pure _
    ·have hb : ¬ (decide ((p.tags.length : Int) > 64) = true) := by simpa using h3
     simp only [r22_Check.j1, if_neg hb, if_pos (show (32 : Int) ≤ 281474976710656 by decide), if_pos (show (32 : Nat) ≤ 281474976710656 by decide)]
     refine Ev.bind (rlikeZ p.tags hl hz) ?_
     cases tagsP p.tags with
     | true => simp only [if_true]; exact Ev.pure _
     | false =>
      simp only [Bool.false_eq_true, if_false, if_neg (show ¬ (200 : Int) = 0 by decide)]
      exact Ev.pure _
 | m + 1, i, hi => by
  have hil : i < (unitsP p).length := by unfold unitsP; simp; omega
  have hlen : ((i : Nat) : Int) < ((unitsP p).length : Int) := by omega
  have hdrop : (unitsP p).drop i = rd (unitsP p) (i : Int) :: (unitsP p).drop (i + 1) := by
   rw [List.drop_eq_getElem_cons hil, rd_units, List.getD_eq_getElem?_getD, List.getElem?_eq_getElem hil]
   rfl
  rw [hdrop, List.all_cons]
  refine Ev.succ ?_
  simp only [r22_Check.l0, if_pos hlen, if_pos (show (0 : Int) ≤ (i : Int) by omega)]
  by_cases h1 : rd (unitsP p) (i : Int) < 0
  ·simp only [if_pos h1]
   have : okU (rd (unitsP p) (i : Int)) = false := by unfold okU; rw [decide_eq_false (by omega)]; rfl
   rw [this, Bool.false_and, Bool.false_and, if_neg (by decide)]
   exact Ev.pure _
  ·simp only [if_neg h1]
   by_cases h2 : rd (unitsP p) (i : Int) > 4096
   ·simp only [if_pos h2]
    have : okU (rd (unitsP p) (i : Int)) = false := by unfold okU; rw [decide_eq_false (show ¬ rd (unitsP p) (i : Int) ≤ 4096 by omega), Bool.and_false]
    rw [this, Bool.false_and, Bool.false_and, if_neg (by decide)]
    exact Ev.pure _
   ·simp only [if_neg h2, wrapS i (by omega)]
    have : okU (rd (unitsP p) (i : Int)) = true := by unfold okU; rw [decide_eq_true (by omega), decide_eq_true (by omega)]; rfl
    rw [this, Bool.true_and]
    exact rcheckp0 p hl hz m (i + 1) (by omega)
theorem rcheckp (p : Pol) (hl : p.tags.length ≤ 2000) (hz : ∀ s ∈ p.tags, (s.size : Int) < 9223372036854775808) :
  Ev (fun k => r22_Check.f k p.last p.hour p.day p.week p.month p.year p.within p.tags) (if polP p = true then 0 else 1) := by
 unfold r22_Check.f
 simp only [runits, Option.bind_some]
 exact rcheckp0 p hl hz 6 0 rfl
theorem rnothing0 (us : List Int) (hu : ∀ x ∈ us, 0 ≤ x ∧ x ≤ 4096) (hl : us.length ≤ 100) : ∀ m i : Nat, i + m = us.length → ∀ s : Int, 0 ≤ s → s ≤ 10000000000000 + 4096 * i →
  Ev (fun k => r22_nothing.l0 k s us (i : Int)) ((s == 0) && (us.drop i).all (fun x => x == 0))
 | 0, i, hi, s, h0, h1 => by
  rw [List.drop_eq_nil_of_le (by omega), List.all_nil, Bool.and_true]
  refine Ev.succ ?_
  simp only [r22_nothing.l0, if_neg (show ¬ (i : Int) < (us.length : Int) by omega)]
  exact Ev.pure _
 | m + 1, i, hi, s, h0, h1 => by
  have hil : i < us.length := by omega
  have hx := hu _ (List.getElem_mem hil)
  have hr : rd us (i : Int) = us[i] := by unfold rd; rw [Int.toNat_natCast, List.getD_eq_getElem?_getD, List.getElem?_eq_getElem hil]; rfl
  rw [List.drop_eq_getElem_cons hil, List.all_cons]
  refine Ev.succ ?_
  have hw : wrap64 (s + us[i]) = s + us[i] := wrap_id (by omega)
  simp only [r22_nothing.l0, if_pos (show (i : Int) < (us.length : Int) by omega), if_pos (show (0 : Int) ≤ (i : Int) by omega), hr, hw, wrapS i (by omega)]
  refine (rnothing0 us hu hl m (i + 1) (by omega) (s + us[i]) (by omega) (by omega)).congr ?_
  by_cases e1 : s = 0
  ·rw [e1, Int.zero_add]
   simp
  ·have : (s == 0) = false := beq_eq_false_iff_ne.2 e1
   rw [this, Bool.false_and]
   have h2 : (s + us[i] == 0) = false := beq_eq_false_iff_ne.2 (by omega)
   rw [h2, Bool.false_and]
theorem pol_units {p : Pol} (h : polP p = true) : (∀ x ∈ unitsP p, 0 ≤ x ∧ x ≤ 4096) ∧ 0 ≤ p.within ∧ p.within ≤ 1099511627776 := by
 unfold polP at h
 rw [Bool.and_eq_true, Bool.and_eq_true, Bool.and_eq_true, decide_eq_true_eq, decide_eq_true_eq] at h
 refine ⟨fun x hx => ?_, h.2.1, h.2.2.1⟩
 have := List.all_eq_true.1 h.1 x hx
 unfold okU at this
 rw [Bool.and_eq_true, decide_eq_true_eq, decide_eq_true_eq] at this
 exact this
theorem rnothing (p : Pol) (h : polP p = true) (hl : p.tags.length ≤ 2000) : Ev (fun k => r22_nothing.f k p.last p.hour p.day p.week p.month p.year p.within p.tags) (silentP p) := by
 obtain ⟨h1, h2, h3⟩ := pol_units h
 unfold r22_nothing.f
 have hw : wrap64 (p.within + (p.tags.length : Int)) = p.within + (p.tags.length : Int) := wrap_id (by omega)
 simp only [runits, Option.bind_some, hw]
 refine (rnothing0 (unitsP p) h1 (by unfold unitsP; simp) 6 0 rfl _ (by omega) (by omega)).congr ?_
 have e1 : ((unitsP p).drop 0).all (fun x => x == 0) = zeroU p := by
  unfold unitsP zeroU
  simp
 rw [e1]
 unfold silentP
 have e2 : (p.within + (p.tags.length : Int) == 0) = (p.within == 0 && ((p.tags.length : Int) == 0)) := by
  rw [Bool.eq_iff_iff, Bool.and_eq_true, beq_iff_eq, beq_iff_eq, beq_iff_eq]
  omega
 rw [e2, Bool.and_comm]
theorem rgroup0 (x : S28) (hl : x.f2.length ≤ 1000) (hq : ∀ q ∈ x.f2, q.size ≤ 300) : ∀ m i : Nat, i + m = x.f2.length → ∀ s : ByteArray, s.size ≤ 10000 + 301 * i →
  Ev (fun k => r20_Group.l0 k s (i : Int) x.f0 x.f1 x.f2 x.f3 x.f4 x.f5) ⟨(s.data.toList ++ Lib.joinTail [0] ((x.f2.drop i).map (·.data.toList))).toArray⟩
 | 0, i, hi, s, hs => by
  rw [List.drop_eq_nil_of_le (by omega)]
  refine Ev.succ ?_
  simp only [r20_Group.l0, if_neg (show ¬ (i : Int) < (x.f2.length : Int) by omega)]
  refine (Ev.pure s).congr ?_
  unfold Lib.joinTail
  apply data_inj
  simp
 | m + 1, i, hi, s, hs => by
  have hil : i < x.f2.length := by omega
  have hr : rdOf ByteArray.empty x.f2 (i : Int) = x.f2[i] := rdJ_at (List.getElem?_eq_getElem hil)
  have hqz := hq _ (List.getElem_mem hil)
  have hsz : ((⟨#[0]⟩ : ByteArray) ++ x.f2[i]).size = 1 + x.f2[i].size := by
   rw [ByteArray.size_append]
   rfl
  refine Ev.succ ?_
  simp only [r20_Group.l0, if_pos (show (i : Int) < (x.f2.length : Int) by omega), if_pos (show (0 : Int) ≤ (i : Int) by omega), hr, hsz, if_pos (show 1 + x.f2[i].size ≤ 9223372036854775807 by omega), if_pos (show s.size + (1 + x.f2[i].size) ≤ 9223372036854775807 by omega), wrapS i (by omega)]
  refine (rgroup0 x hl hq m (i + 1) (by omega) _ (by rw [ByteArray.size_append, hsz]; omega)).congr ?_
  rw [List.drop_eq_getElem_cons hil, List.map_cons]
  apply data_inj
  have hap : (s ++ ((⟨#[0]⟩ : ByteArray) ++ x.f2[i])).data.toList = s.data.toList ++ ([0] ++ x.f2[i].data.toList) := by
   rw [ByteArray.data_append, ByteArray.data_append, Array.toList_append, Array.toList_append]
  unfold Lib.joinTail
  simp only [hap, List.map_cons, List.flatten_cons, List.append_assoc]
theorem rgroup (x : S28) (hl : x.f2.length ≤ 1000) (hq : ∀ q ∈ x.f2, q.size ≤ 300) (h1 : x.f1.size ≤ 64) : Ev (fun k => r20_Group.f k x.f0 x.f1 x.f2 x.f3 x.f4 x.f5) (groupP x) := by
 unfold r20_Group.f
 refine (rgroup0 x hl hq x.f2.length 0 (by omega) x.f1 (by omega)).congr ?_
 unfold groupP
 rw [List.map_cons, Lib.join_cons, List.drop_zero]
theorem cmpS_sign (a b : ByteArray) : cmpS a b = (if Op.bytesLess a.toList b.toList = true then -1 else if Op.bytesLess b.toList a.toList = true then 1 else 0) := by
 rcases cmpS_cases a b with ⟨h1, h2⟩ | ⟨h1, h2⟩ | ⟨h1, h2⟩
 ·rw [h1, if_pos ((bl_lt _ _).2 h2)]
 ·rw [h1, h2, bl_irrefl, if_neg (by decide), if_neg (by decide)]
 ·have h3 : ¬ Op.bytesLess a.toList b.toList = true := fun h => List.lt_irrefl _ (List.lt_trans h2 ((bl_lt _ _).1 h))
  rw [h1, if_neg h3, if_pos ((bl_lt _ _).2 h2)]
theorem rlists0 (a b : List ByteArray) (ha : a.length ≤ 1000000) : ∀ m i : Nat, i + m = a.length → i ≤ b.length →
  Ev (fun k => r20_lists.l0 k a b (i : Int)) (cmpL (a.drop i) (b.drop i))
 | 0, i, hi, hb => by
  rw [List.drop_eq_nil_of_le (show a.length ≤ i by omega)]
  refine Ev.succ ?_
  simp only [r20_lists.l0, if_neg (show ¬ (i : Int) < (a.length : Int) by omega)]
  refine Ev.succ ?_
  simp only [r20_lists.j1, Bool.false_eq_true, if_false]
  by_cases h : i < b.length
  ·rw [List.drop_eq_getElem_cons h]
   simp only [if_pos (show (a.length : Int) < (b.length : Int) by omega), cmpL]
   exact Ev.pure _
  ·rw [List.drop_eq_nil_of_le (show b.length ≤ i by omega)]
   simp only [if_neg (show ¬ (a.length : Int) < (b.length : Int) by omega), if_neg (show ¬ (a.length : Int) > (b.length : Int) by omega), cmpL]
   exact Ev.pure _
 | m + 1, i, hi, hb => by
  have hil : i < a.length := by omega
  rw [List.drop_eq_getElem_cons hil]
  refine Ev.succ ?_
  simp only [r20_lists.l0, if_pos (show (i : Int) < (a.length : Int) by omega)]
  refine Ev.succ ?_
  by_cases h : i < b.length
  ·rw [List.drop_eq_getElem_cons h]
   have hd : decide ((i : Int) < (b.length : Int)) = true := decide_eq_true (by omega)
   have e1 : rdOf ByteArray.empty a (i : Int) = a[i] := rdJ_at (List.getElem?_eq_getElem hil)
   have e2 : rdOf ByteArray.empty b (i : Int) = b[i] := rdJ_at (List.getElem?_eq_getElem h)
   simp only [r20_lists.j1, hd, if_true, if_pos (show (0 : Int) ≤ (i : Int) by omega), if_pos (show (i : Int) < (a.length : Int) by omega), if_pos (show (i : Int) < (b.length : Int) by omega), e1, e2, wrapS i (by omega), cmpL]
   rw [cmpS_sign]
   by_cases c1 : Op.bytesLess a[i].toList b[i].toList = true
   ·simp only [if_pos c1]
    exact (Ev.pure _).congr (by rw [if_neg (by decide)])
   ·by_cases c2 : Op.bytesLess b[i].toList a[i].toList = true
    ·simp only [if_neg c1, if_pos c2]
     exact (Ev.pure _).congr (by rw [if_neg (by decide)])
    ·simp only [if_neg c1, if_neg c2, if_true]
     exact rlists0 a b ha m (i + 1) (by omega) (by omega)
  ·rw [List.drop_eq_nil_of_le (show b.length ≤ i by omega)]
   have hd : ¬ (decide ((i : Int) < (b.length : Int)) = true) := by simpa using (show b.length ≤ i by omega)
   simp only [r20_lists.j1, if_neg hd, if_neg (show ¬ (a.length : Int) < (b.length : Int) by omega), if_pos (show (a.length : Int) > (b.length : Int) by omega), cmpL]
   exact Ev.pure _
theorem rlists (a b : List ByteArray) (ha : a.length ≤ 1000000) : Ev (fun k => r20_lists.f k a b) (cmpL a b) := by
 unfold r20_lists.f
 exact rlists0 a b ha a.length 0 (by omega) (by omega)
theorem cmpL_one (a b : ByteArray) : cmpL [a] [b] = cmpS a b := by
 unfold cmpL
 by_cases e : cmpS a b = 0
 ·rw [if_pos e, e]; rfl
 ·rw [if_neg e]
theorem cmpL_two (a b c d : ByteArray) : cmpL [a, b] [c, d] = if cmpS a c = 0 then cmpS b d else cmpS a c := by
 conv => lhs; unfold cmpL
 rw [cmpL_one]
theorem rorder (x y : S28) (hx : x.f2.length ≤ 1000 ∧ x.f3.length ≤ 1000) : Ev (fun k => r20_order.f k x.f0 x.f1 x.f2 x.f3 x.f4 x.f5 y.f0 y.f1 y.f2 y.f3 y.f4 y.f5) (ordP x y) := by
 have ho : ordP x y = if cmpI x.f0 y.f0 = 0 then (if cmpS x.f1 y.f1 = 0 then (if cmpL x.f2 y.f2 = 0 then (if cmpL x.f3 y.f3 = 0 then (if cmpS x.f4 y.f4 = 0 then cmpS x.f5 y.f5 else cmpS x.f4 y.f4) else cmpL x.f3 y.f3) else cmpL x.f2 y.f2) else cmpS x.f1 y.f1) else cmpI x.f0 y.f0 := by
  unfold ordP
  simp only [orI]
  by_cases e : cmpS x.f5 y.f5 = 0
  ·rw [if_pos e, e]
  ·rw [if_neg e]
 rw [ho]
 unfold r20_order.f
 by_cases c0 : x.f0 = y.f0
 ·have hc : cmpI x.f0 y.f0 = 0 := by rw [c0]; exact tc_I.same _
  simp only [if_pos c0, hc, if_true]
  refine Ev.bind (rlists [x.f1] [y.f1] (by simp)) ?_
  rw [cmpL_one]
  by_cases c1 : cmpS x.f1 y.f1 = 0
  ·simp only [if_pos c1]
   refine Ev.bind (rlists x.f2 y.f2 (by omega)) ?_
   by_cases c2 : cmpL x.f2 y.f2 = 0
   ·simp only [if_pos c2]
    refine Ev.bind (rlists x.f3 y.f3 (by omega)) ?_
    by_cases c3 : cmpL x.f3 y.f3 = 0
    ·simp only [if_pos c3]
     refine Ev.bind (rlists [x.f4, x.f5] [y.f4, y.f5] (by simp)) ?_
     rw [cmpL_two]
     exact Ev.pure _
    ·simp only [if_neg c3]
     exact Ev.pure _
   ·simp only [if_neg c2]
    exact Ev.pure _
  ·simp only [if_neg c1]
   exact Ev.pure _
 ·by_cases c1 : x.f0 < y.f0
  ·have hc : cmpI x.f0 y.f0 = -1 := by unfold cmpI; rw [if_pos c1]
   simp only [if_neg c0, if_pos c1, hc, if_neg (show ¬ (-1 : Int) = 0 by decide)]
   exact Ev.pure _
  ·have hc : cmpI x.f0 y.f0 = 1 := by unfold cmpI; rw [if_neg c1, if_pos (by omega)]
   simp only [if_neg c0, if_neg c1, hc, if_neg (show ¬ (1 : Int) = 0 by decide)]
   exact Ev.pure _
def newB (l : List S28) (i k : Nat) : Bool := decide (cN l i k < 0)
theorem rnewer (l : List S28) (hl : ∀ x ∈ l, x.f2.length ≤ 1000 ∧ x.f3.length ≤ 1000) (i k : Nat) (hi : i < l.length) (hk : k < l.length) : Ev (fun n => r22_newer.f n l (i : Int) (k : Int)) (newB l i k) := by
 have mem : ∀ j : Nat, j < l.length → rd_T28 l (j : Int) ∈ l := fun j h => by
  unfold rd_T28
  rw [Int.toNat_natCast, List.getD_eq_getElem?_getD, List.getElem?_eq_getElem h]
  exact List.getElem_mem _
 have h1 := rorder (rd_T28 l (i : Int)) (rd_T28 l (k : Int)) (hl _ (mem i hi))
 have h2 := rorder (rd_T28 l (k : Int)) (rd_T28 l (i : Int)) (hl _ (mem k hk))
 have ha := tc_ord.1 (rd_T28 l (i : Int)) (rd_T28 l (k : Int))
 unfold r22_newer.f r20_Same.f r20_Less.f
 simp only [if_pos (show (0 : Int) ≤ (i : Int) by omega), if_pos (show (i : Int) < (l.length : Int) by omega), if_pos (show (0 : Int) ≤ (k : Int) by omega), if_pos (show (k : Int) < (l.length : Int) by omega)]
 refine Ev.bind (Ev.bind h1 (Ev.pure _)) ?_
 unfold newB cN
 by_cases c : ordP (rd_T28 l (i : Int)) (rd_T28 l (k : Int)) = 0
 ·have c2 : ordP (rd_T28 l (k : Int)) (rd_T28 l (i : Int)) = 0 := by omega
  simp only [c, c2, beq_self_eq_true, if_true]
  refine (Ev.pure _).congr ?_
  rw [decide_eq_decide]
  omega
 ·have c2 : ¬ ordP (rd_T28 l (k : Int)) (rd_T28 l (i : Int)) = 0 := by omega
  have c3 : (ordP (rd_T28 l (i : Int)) (rd_T28 l (k : Int)) == 0) = false := beq_eq_false_iff_ne.2 c
  simp only [c3, Bool.false_eq_true, if_false, if_neg c2]
  exact Ev.bind (Ev.bind h2 (Ev.pure _)) (Ev.pure _)
theorem rtagged0 (x : S28) (tags : List ByteArray) (h3 : x.f3.length ≤ 1000) (ht : tags.length ≤ 1000) : ∀ m i : Nat, i + m = x.f3.length →
  Ev (fun k => r22_tagged.l0 k tags (i : Int) x.f0 x.f1 x.f2 x.f3 x.f4 x.f5) ((x.f3.drop i).any (hasTag tags))
 | 0, i, hi => by
  rw [List.drop_eq_nil_of_le (by omega), List.any_nil]
  refine Ev.succ ?_
  simp only [r22_tagged.l0, if_neg (show ¬ (i : Int) < (x.f3.length : Int) by omega)]
  exact Ev.pure _
 | m + 1, i, hi => by
  have hil : i < x.f3.length := by omega
  have e1 : rdOf ByteArray.empty x.f3 (i : Int) = x.f3[i] := rdJ_at (List.getElem?_eq_getElem hil)
  rw [List.drop_eq_getElem_cons hil, List.any_cons]
  refine Ev.succ ?_
  simp only [r22_tagged.l0, if_pos (show (i : Int) < (x.f3.length : Int) by omega)]
  have inner : ∀ q j : Nat, j + q = tags.length → Ev (fun k => r22_tagged.l1 k tags (i : Int) (j : Int) x.f0 x.f1 x.f2 x.f3 x.f4 x.f5) ((tags.drop j).any (fun t => t.toList == x.f3[i].toList) || (x.f3.drop (i + 1)).any (hasTag tags)) := by
   intro q
   induction q with
   | zero =>
    intro j hj
    rw [List.drop_eq_nil_of_le (by omega), List.any_nil, Bool.false_or]
    refine Ev.succ ?_
    simp only [r22_tagged.l1, if_neg (show ¬ (j : Int) < (tags.length : Int) by omega), wrapS i (by omega)]
    exact rtagged0 x tags h3 ht m (i + 1) (by omega)
   | succ q ih =>
    intro j hj
    have hjl : j < tags.length := by omega
    have e2 : rdOf ByteArray.empty tags (j : Int) = tags[j] := rdJ_at (List.getElem?_eq_getElem hjl)
    rw [List.drop_eq_getElem_cons hjl, List.any_cons]
    refine Ev.succ ?_
    simp only [r22_tagged.l1, if_pos (show (j : Int) < (tags.length : Int) by omega), if_pos (show (0 : Int) ≤ (i : Int) by omega), if_pos (show (i : Int) < (x.f3.length : Int) by omega), if_pos (show (0 : Int) ≤ (j : Int) by omega), e1, e2, wrapS j (by omega)]
    by_cases c : x.f3[i].toList = tags[j].toList
    ·simp only [if_pos c]
     refine (Ev.pure _).congr ?_
     rw [beq_iff_eq.2 c.symm]
     rfl
    ·simp only [if_neg c]
     have : (tags[j].toList == x.f3[i].toList) = false := beq_eq_false_iff_ne.2 (fun h => c h.symm)
     rw [this, Bool.false_or]
     exact ih (j + 1) (by omega)
  exact inner tags.length 0 (by omega)
theorem rtagged (p : Pol) (x : S28) (h3 : x.f3.length ≤ 1000) (ht : p.tags.length ≤ 1000) : Ev (fun k => r22_tagged.f k x.f0 x.f1 x.f2 x.f3 x.f4 x.f5 p.tags) (tagB p x) := by
 unfold r22_tagged.f tagB
 exact rtagged0 x p.tags h3 ht x.f3.length 0 (by omega)
def castL (a : List Nat) : List Int := a.map fun n : Nat => (n : Int)
theorem castL_len (a : List Nat) : (castL a).length = a.length := by unfold castL; rw [List.length_map]
theorem castL_rd {a : List Nat} {j k : Nat} (h : a[j]? = some k) : rd (castL a) (j : Int) = (k : Int) := by
 unfold rd castL
 rw [Int.toNat_natCast, List.getD_eq_getElem?_getD, List.getElem?_map, h]
 rfl
theorem castL_take (a : List Nat) (j : Nat) : (castL a).take j = castL (a.take j) := by unfold castL; rw [List.map_take]
theorem castL_drop (a : List Nat) (j : Nat) : (castL a).drop j = castL (a.drop j) := by unfold castL; rw [List.map_drop]
theorem atS_mem {l : List S28} {j : Nat} (h : j < l.length) : atS l j ∈ l := by
 unfold atS rd_T28
 rw [Int.toNat_natCast, List.getD_eq_getElem?_getD, List.getElem?_eq_getElem h]
 exact List.getElem_mem _
structure OkL (l : List S28) : Prop where
 len : l.length ≤ 1000
 two : ∀ x ∈ l, x.f2.length ≤ 1000 ∧ x.f3.length ≤ 1000
 path : ∀ x ∈ l, ∀ q ∈ x.f2, q.size ≤ 300
 host : ∀ x ∈ l, x.f1.size ≤ 64
 time : ∀ x ∈ l, 0 ≤ x.f0 ∧ x.f0 ≤ 1099511627776
theorem rgkey {l : List S28} (h : OkL l) {k : Nat} (hk : k < l.length) : Ev (fun n => r20_Group.f n (rd_T28 l (k : Int)).f0 (rd_T28 l (k : Int)).f1 (rd_T28 l (k : Int)).f2 (rd_T28 l (k : Int)).f3 (rd_T28 l (k : Int)).f4 (rd_T28 l (k : Int)).f5) (gkey l k) :=
 rgroup _ (h.two _ (atS_mem hk)).1 (h.path _ (atS_mem hk)) (h.host _ (atS_mem hk))
def AheadOk (l : List S28) (i K : Nat) (a : List Nat) : Prop := a.Pairwise (fun u v => cN l u v < 0) ∧ (∀ k, k ∈ a ↔ k < K ∧ gkey l k = gkey l i ∧ cN l k i < 0) ∧ a.length ≤ K
theorem ins_pw {l : List S28} {a : List Nat} {k j : Nat} (hp : a.Pairwise (fun u v => cN l u v < 0)) (hj : j ≤ a.length) (h1 : ∀ t s, t < j → a[t]? = some s → cN l s k < 0) (h2 : ∀ s, a[j]? = some s → ¬ cN l s k < 0) (hk : k ∉ a) :
  (a.take j ++ k :: a.drop j).Pairwise (fun u v => cN l u v < 0) := by
 have tc := tc_N l
 have ht : ∀ s ∈ a.take j, cN l s k < 0 := fun s hs => by
  obtain ⟨t, ht, rfl⟩ := List.getElem_of_mem hs
  have htj : t < j := by rw [List.length_take] at ht; omega
  rw [List.getElem_take]
  exact h1 t _ htj (List.getElem?_eq_getElem (by omega))
 have hd : ∀ s ∈ a.drop j, cN l k s < 0 := fun s hs => by
  obtain ⟨t, ht, rfl⟩ := List.getElem_of_mem hs
  rw [List.length_drop] at ht
  rw [List.getElem_drop]
  have hjl : j < a.length := by omega
  have h3 := h2 _ (List.getElem?_eq_getElem hjl)
  have h4 := tc.1 a[j] k
  have h5 : cN l k a[j] < 0 := by
   rcases Int.lt_trichotomy (cN l k a[j]) 0 with h | h | h
   ·exact h
   ·have := cN_total l h
    exact absurd (this ▸ List.getElem_mem hjl) hk
   ·omega
  rcases Nat.eq_zero_or_pos t with h6 | h6
  ·subst h6; exact h5
  ·exact tc.lt_of_lt_of_le h5 (Int.le_of_lt (List.pairwise_iff_getElem.1 hp j (j + t) hjl (by omega) (by omega)))
 have hsp : (a.take j ++ a.drop j).Pairwise (fun u v => cN l u v < 0) := by rw [List.take_append_drop]; exact hp
 obtain ⟨p1, p2, p3⟩ := List.pairwise_append.1 hsp
 refine List.pairwise_append.2 ⟨p1, List.pairwise_cons.2 ⟨hd, p2⟩, fun u hu v hv => ?_⟩
 rcases List.mem_cons.1 hv with rfl | hv
 ·exact ht u hu
 ·exact p3 u hu v hv
theorem ins_mem (a : List Nat) (j k s : Nat) : s ∈ a.take j ++ k :: a.drop j ↔ s ∈ a ∨ s = k := by
 conv => rhs; rw [← List.take_append_drop j a]
 simp only [List.mem_append, List.mem_cons]
 constructor
 ·rintro (h | h | h)
  ·exact .inl (.inl h)
  ·exact .inr h
  ·exact .inl (.inr h)
 ·rintro ((h | h) | h)
  ·exact .inl h
  ·exact .inr (.inr h)
  ·exact .inr (.inl h)
theorem rahead0 (l : List S28) (h : OkL l) (i : Nat) (hi : i < l.length) : ∀ m k : Nat, k + m = l.length → ∀ a, AheadOk l i k a → ∃ a', AheadOk l i l.length a' ∧ Ev (fun n => r22_ahead.l0 n l (i : Int) (castL a) (k : Int)) (castL a')
 | 0, k, hk, a, ha => by
  obtain rfl : k = l.length := by omega
  refine ⟨a, ha, Ev.succ ?_⟩
  simp only [r22_ahead.l0, if_neg (show ¬ ((l.length : Nat) : Int) < (l.length : Int) by omega)]
  exact Ev.pure _
 | m + 1, k, hk, a, ha => by
  have hkl : k < l.length := by omega
  have hnk : k ∉ a := fun hm => by have := ((ha.2.1 k).1 hm).1; omega
  have hlen := h.len
  have hal := ha.2.2
  have skip : (¬ (gkey l k = gkey l i ∧ cN l k i < 0)) → AheadOk l i (k + 1) a := fun hn => ⟨ha.1, fun s => by
   rw [ha.2.1 s]
   constructor
   ·rintro ⟨h1, h2⟩
    exact ⟨by omega, h2⟩
   ·rintro ⟨h1, h2⟩
    by_cases e : s = k
    ·subst e; exact absurd h2 hn
    ·exact ⟨by omega, h2⟩, by omega⟩
  by_cases c : gkey l k = gkey l i ∧ cN l k i < 0
  ·-- put among them
   have inner : ∀ q j : Nat, j + q = a.length → (∀ t s, t < j → a[t]? = some s → cN l s k < 0) → ∃ a', AheadOk l i l.length a' ∧ Ev (fun n => r22_ahead.l1 n l (i : Int) (castL a) (k : Int) (j : Int)) (castL a') := by
    have put : ∀ j : Nat, j ≤ a.length → (∀ t s, t < j → a[t]? = some s → cN l s k < 0) → (∀ s, a[j]? = some s → ¬ cN l s k < 0) → ∃ a', AheadOk l i l.length a' ∧ Ev (fun n => r22_ahead.l0 n l (i : Int) (castL (a.take j ++ k :: a.drop j)) (wrap64 ((k : Int) + 1))) (castL a') := by
     intro j hj h1 h2
     have hok : AheadOk l i (k + 1) (a.take j ++ k :: a.drop j) := by
      refine ⟨ins_pw ha.1 hj h1 h2 hnk, fun s => ?_, ?_⟩
      ·rw [ins_mem, ha.2.1 s]
       constructor
       ·rintro (⟨h3, h4⟩ | e)
        ·exact ⟨by omega, h4⟩
        ·subst e; exact ⟨by omega, c⟩
       ·rintro ⟨h3, h4⟩
        by_cases e : s = k
        ·exact .inr e
        ·exact .inl ⟨by omega, h4⟩
      ·simp only [List.length_append, List.length_cons, List.length_take, List.length_drop]
       omega
     rw [wrapS k (by omega)]
     exact rahead0 l h i hi m (k + 1) (by omega) _ hok
    have app : ∀ j : Nat, ([] ++ castL (a.take j) ++ [(k : Int)]) ++ castL (a.drop j) = castL (a.take j ++ k :: a.drop j) := fun j => by
     unfold castL
     simp
    intro q
    induction q with
    | zero =>
     intro j hj h1
     obtain rfl : j = a.length := by omega
     obtain ⟨a', ha', hev⟩ := put a.length (Nat.le_refl _) h1 (fun s hs => by simp at hs)
     refine ⟨a', ha', Ev.succ ?_⟩
     have e1 : ([] : List Int).length + (castL (a.take a.length)).length < 17592186044416 := by rw [castL_len]; simp; omega
     have e2 : ([] ++ castL (a.take a.length)).length < 17592186044416 := by simp [castL]; omega
     have e3 : ([] ++ castL (a.take a.length) ++ [(k : Int)]).length + (castL (a.drop a.length)).length < 17592186044416 := by simp [castL]; omega
     simp only [r22_ahead.l1, castL_len, if_neg (show ¬ ((a.length : Nat) : Int) < (a.length : Int) by omega), if_pos (show (0 : Int) ≤ (a.length : Int) by omega), if_pos (show ((a.length : Nat) : Int) ≤ (a.length : Int) by omega), Option.bind_some, Int.toNat_natCast, castL_take, castL_drop]
     simp only [castL_len] at e1 e2 e3
     simp only [if_pos e1, if_pos e2, if_pos e3, app]
     exact hev
    | succ q ih =>
     intro j hj h1
     have hjl : j < a.length := by omega
     obtain ⟨s, hs⟩ : ∃ s, a[j]? = some s := ⟨_, List.getElem?_eq_getElem hjl⟩
     have hsl : s < l.length := by have := ((ha.2.1 s).1 (List.mem_of_getElem? hs)).1; omega
     have hnw := rnewer l h.two s k hsl hkl
     by_cases cn : cN l s k < 0
     ·obtain ⟨a', ha', hev⟩ := ih (j + 1) (by omega) (fun t s' ht hs' => by
       by_cases e : t = j
       ·subst e
        rw [hs] at hs'
        rw [← Option.some.inj hs']
        exact cn
       ·exact h1 t s' (by omega) hs')
      refine ⟨a', ha', Ev.succ ?_⟩
      simp only [r22_ahead.l1, castL_len, if_pos (show (j : Int) < (a.length : Int) by omega), if_pos (show (0 : Int) ≤ (j : Int) by omega), castL_rd hs]
      refine Ev.bind hnw ?_
      have : newB l s k = true := decide_eq_true cn
      simp only [this, if_true, wrapS j (by omega)]
      exact hev
     ·obtain ⟨a', ha', hev⟩ := put j (by omega) h1 (fun s' hs' => by rw [hs] at hs'; rw [← Option.some.inj hs']; exact cn)
      refine ⟨a', ha', Ev.succ ?_⟩
      have e1 : ([] : List Int).length + (castL (a.take j)).length < 17592186044416 := by rw [castL_len, List.length_take]; simp; omega
      have e2 : ([] ++ castL (a.take j)).length < 17592186044416 := by simp [castL]; omega
      have e3 : ([] ++ castL (a.take j) ++ [(k : Int)]).length + (castL (a.drop j)).length < 17592186044416 := by simp [castL]; omega
      have hf : newB l s k = false := decide_eq_false cn
      simp only [r22_ahead.l1, castL_len, if_pos (show (j : Int) < (a.length : Int) by omega), if_pos (show (0 : Int) ≤ (j : Int) by omega), castL_rd hs]
      refine Ev.bind hnw ?_
      simp only [hf, Bool.false_eq_true, if_false, if_pos (show (j : Int) ≤ (a.length : Int) by omega), Option.bind_some, Int.toNat_natCast, castL_take, castL_drop]
      simp only [castL_len] at e1 e2 e3
      simp only [castL_len, if_pos e1, if_pos e2, if_pos e3, app]
      exact hev
   obtain ⟨a', ha', hev⟩ := inner a.length 0 (by omega) (fun t s ht => by omega)
   refine ⟨a', ha', Ev.succ ?_⟩
   simp only [r22_ahead.l0, if_pos (show (k : Int) < (l.length : Int) by omega), if_pos (show (0 : Int) ≤ (k : Int) by omega), if_pos (show (0 : Int) ≤ (i : Int) by omega), if_pos (show (i : Int) < (l.length : Int) by omega)]
   refine Ev.bind (rgkey h hkl) (Ev.bind (rgkey h hi) ?_)
   simp only [c.1, if_true]
   refine Ev.bind (rnewer l h.two k i hkl hi) ?_
   have hb : newB l k i = true := decide_eq_true c.2
   refine Ev.succ ?_
   simp only [hb, r22_ahead.j1, Bool.not_true, Bool.false_eq_true, if_false]
   exact hev
  ·obtain ⟨a', ha', hev⟩ := rahead0 l h i hi m (k + 1) (by omega) a (skip c)
   refine ⟨a', ha', Ev.succ ?_⟩
   simp only [r22_ahead.l0, if_pos (show (k : Int) < (l.length : Int) by omega), if_pos (show (0 : Int) ≤ (k : Int) by omega), if_pos (show (0 : Int) ≤ (i : Int) by omega), if_pos (show (i : Int) < (l.length : Int) by omega)]
   refine Ev.bind (rgkey h hkl) (Ev.bind (rgkey h hi) ?_)
   have hj1 : Ev (fun n => r22_ahead.j1 n l (i : Int) (castL a) (k : Int) true) (castL a') := by
    refine Ev.succ ?_
    simp only [r22_ahead.j1, if_true, wrapS k (by omega)]
    exact hev
   by_cases cg : gkey l k = gkey l i
   ·simp only [cg, if_true]
    refine Ev.bind (rnewer l h.two k i hkl hi) ?_
    have hb : newB l k i = false := decide_eq_false (fun h2 => c ⟨cg, h2⟩)
    simp only [hb, Bool.not_false]
    exact hj1
   ·have cg2 : ¬ (gkey l k).toList = (gkey l i).toList := fun h2 => cg (eq_of_toList h2)
    simp only [if_neg cg2]
    exact hj1
theorem rahead (l : List S28) (h : OkL l) (i : Nat) (hi : i < l.length) : ∃ a, AheadOk l i l.length a ∧ Ev (fun n => r22_ahead.f n l (i : Int)) (castL a) := by
 unfold r22_ahead.f
 exact rahead0 l h i hi l.length 0 (by omega) [] ⟨List.Pairwise.nil, fun k => by simp, Nat.le_refl _⟩
noncomputable def keysL (l : List S28) (u : Nat) (a : List Nat) : List Int := a.map fun j => keyI (u : Int) (atS l j).f0
def cntF : List Int → List Int → Int
 | _, [] => 0
 | pre, x :: r => (if x ∈ pre then 0 else 1) + cntF (pre ++ [x]) r
theorem cntF_le : ∀ (r pre : List Int), 0 ≤ cntF pre r ∧ cntF pre r ≤ r.length
 | [], _ => by simp [cntF]
 | x :: r, pre => by
  have := cntF_le r (pre ++ [x])
  rw [cntF]
  simp only [List.length_cons]
  split <;> omega
theorem rkeyE {l : List S28} (h : OkL l) (u : Nat) (hu : 1 ≤ u ∧ u ≤ 5) {j : Nat} (hj : j < l.length) : Ev (fun k => r21_Key.f k (u : Int) (rd_T28 l (j : Int)).f0) (keyI (u : Int) (atS l j).f0, 0) :=
 ⟨422, fun K hK => rkey (u : Int) _ (by omega) (h.time _ (atS_mem hj)).1 (h.time _ (atS_mem hj)).2 K hK⟩
theorem keysL_at {l : List S28} {u : Nat} {a : List Nat} {j s : Nat} (h : a[j]? = some s) : (keysL l u a)[j]? = some (keyI (u : Int) (atS l s).f0) := by
 unfold keysL
 rw [List.getElem?_map, h]
 rfl
theorem rkeys0 (l : List S28) (h : OkL l) (u : Nat) (hu : 1 ≤ u ∧ u ≤ 5) (a : List Nat) (ha : ∀ s ∈ a, s < l.length) (hal : a.length ≤ 1000) (key : Int) : ∀ m i : Nat, i + m = a.length → ∀ (n : Int) (there : Bool), 0 ≤ n → n ≤ i →
  Ev (fun k => r22_keys.l0 k l (castL a) (u : Int) key n there (i : Int)) (n + cntF ((keysL l u a).take i) ((keysL l u a).drop i), there || ((keysL l u a).drop i).any (fun x => x == key))
 | 0, i, hi, n, there, h0, h1 => by
  have hkl : (keysL l u a).length = a.length := by unfold keysL; rw [List.length_map]
  rw [List.drop_eq_nil_of_le (by omega), List.any_nil, Bool.or_false]
  refine Ev.succ ?_
  simp only [r22_keys.l0, castL_len, if_neg (show ¬ (i : Int) < (a.length : Int) by omega), cntF, Int.add_zero]
  exact Ev.pure _
 | m + 1, i, hi, n, there, h0, h1 => by
  have hkl : (keysL l u a).length = a.length := by unfold keysL; rw [List.length_map]
  have hil : i < a.length := by omega
  obtain ⟨s, hs⟩ : ∃ s, a[i]? = some s := ⟨_, List.getElem?_eq_getElem hil⟩
  have hsl := ha s (List.mem_of_getElem? hs)
  have hks := keysL_at (l := l) (u := u) hs
  obtain ⟨ky, hky⟩ : ∃ ky, ky = keyI (u : Int) (atS l s).f0 := ⟨_, rfl⟩
  have hE := rkeyE h u hu hsl
  rw [← hky] at hks hE
  have hdrop : (keysL l u a).drop i = ky :: (keysL l u a).drop (i + 1) := by
   rw [List.drop_eq_getElem_cons (by omega)]
   rw [List.getElem?_eq_getElem (by omega)] at hks
   rw [Option.some.inj hks]
  have htake : (keysL l u a).take i ++ [ky] = (keysL l u a).take (i + 1) := by rw [List.take_add_one, hks]; rfl
  rw [hdrop, List.any_cons, cntF, htake]
  have inner : ∀ (th : Bool) (q j : Nat), j + q = i → ∀ fresh : Bool, Ev (fun k => r22_keys.l1 k l (castL a) (u : Int) key n th (i : Int) ky fresh (j : Int)) (n + ((if (fresh && ((((keysL l u a).take i).drop j).all fun x => x != ky)) = true then 1 else 0) + cntF ((keysL l u a).take (i + 1)) ((keysL l u a).drop (i + 1))), th || ((keysL l u a).drop (i + 1)).any (fun x => x == key)) := by
   intro th q
   induction q with
   | zero =>
    intro j hj fresh
    obtain rfl : j = i := by omega
    rw [List.drop_eq_nil_of_le (by rw [List.length_take]; omega), List.all_nil, Bool.and_true]
    refine Ev.succ ?_
    simp only [r22_keys.l1, if_neg (show ¬ (j : Int) < (j : Int) by omega), wrapS j (by omega)]
    cases fresh with
    | true =>
     have hw : wrap64 (n + 1) = n + 1 := wrap_id (by omega)
     simp only [if_true, hw]
     refine (rkeys0 l h u hu a ha hal key m (j + 1) (by omega) (n + 1) th (by omega) (by omega)).congr ?_
     rw [Int.add_assoc]
    | false =>
     simp only [Bool.false_eq_true, if_false]
     refine (rkeys0 l h u hu a ha hal key m (j + 1) (by omega) n th (by omega) (by omega)).congr ?_
     rw [Int.zero_add]
   | succ q ih =>
    intro j hj fresh
    have hjl : j < a.length := by omega
    obtain ⟨t, ht⟩ : ∃ t, a[j]? = some t := ⟨_, List.getElem?_eq_getElem hjl⟩
    have htl := ha t (List.mem_of_getElem? ht)
    have hkt := keysL_at (l := l) (u := u) ht
    have hEt := rkeyE h u hu htl
    obtain ⟨kt, hkt2⟩ : ∃ kt, kt = keyI (u : Int) (atS l t).f0 := ⟨_, rfl⟩
    rw [← hkt2] at hkt hEt
    have hd2 : ((keysL l u a).take i).drop j = kt :: ((keysL l u a).take i).drop (j + 1) := by
     rw [List.drop_eq_getElem_cons (by rw [List.length_take]; omega), List.getElem_take]
     rw [List.getElem?_eq_getElem (by omega)] at hkt
     rw [Option.some.inj hkt]
    rw [hd2, List.all_cons]
    refine Ev.succ ?_
    simp only [r22_keys.l1, castL_len, castL_rd ht, if_pos (show (j : Int) < (i : Int) by omega), if_pos (show (0 : Int) ≤ (j : Int) by omega), if_pos (show (j : Int) < (a.length : Int) by omega), if_pos (show (0 : Int) ≤ (t : Int) by omega), if_pos (show (t : Int) < (l.length : Int) by omega)]
    refine Ev.bind hEt ?_
    simp only [wrapS j (by omega)]
    cases fresh with
    | true =>
     simp only [if_true]
     refine (ih (j + 1) (by omega) (kt != ky)).congr ?_
     rw [Bool.true_and]
    | false =>
     simp only [Bool.false_eq_true, if_false]
     refine (ih (j + 1) (by omega) false).congr ?_
     rw [Bool.false_and, Bool.false_and]
  have hfresh : ((((keysL l u a).take i).drop 0).all fun x => x != ky) = !decide (ky ∈ (keysL l u a).take i) := by
   rw [List.drop_zero, Bool.eq_iff_iff, List.all_eq_true, Bool.not_eq_true', decide_eq_false_iff_not]
   constructor
   ·intro h2 hm
    have := h2 ky hm
    simp at this
   ·intro h2 x hx
    rw [bne_iff_ne]
    intro e
    exact h2 (e ▸ hx)
  have tail : ∀ th : Bool, Ev (fun k => r22_keys.j1 k l (castL a) (u : Int) key n th (i : Int) ky) (n + ((if ky ∈ (keysL l u a).take i then 0 else 1) + cntF ((keysL l u a).take (i + 1)) ((keysL l u a).drop (i + 1))), th || ((keysL l u a).drop (i + 1)).any (fun x => x == key)) := fun th => by
   refine Ev.succ ?_
   simp only [r22_keys.j1]
   refine (inner th i 0 (by omega) true).congr ?_
   rw [Bool.true_and, hfresh]
   by_cases hm : ky ∈ (keysL l u a).take i
   ·rw [decide_eq_true hm, if_pos hm, if_neg (by decide)]
   ·rw [decide_eq_false hm, if_neg hm, if_pos (by decide)]
  refine Ev.succ ?_
  simp only [r22_keys.l0, castL_len, castL_rd hs, if_pos (show (i : Int) < (a.length : Int) by omega), if_pos (show (0 : Int) ≤ (i : Int) by omega), if_pos (show (0 : Int) ≤ (s : Int) by omega), if_pos (show (s : Int) < (l.length : Int) by omega)]
  refine Ev.bind hE ?_
  cases there with
  | true =>
   simp only [if_true]
   refine (tail true).congr ?_
   rw [Bool.true_or, Bool.true_or]
  | false =>
   simp only [Bool.false_eq_true, if_false]
   refine (tail (ky == key)).congr ?_
   rw [Bool.false_or]
theorem rkeys (l : List S28) (h : OkL l) (u : Nat) (hu : 1 ≤ u ∧ u ≤ 5) (a : List Nat) (ha : ∀ s ∈ a, s < l.length) (hal : a.length ≤ 1000) (key : Int) :
  Ev (fun k => r22_keys.f k l (castL a) (u : Int) key) (cntF [] (keysL l u a), (keysL l u a).any (fun x => x == key)) := by
 unfold r22_keys.f
 refine (rkeys0 l h u hu a ha hal key a.length 0 (by omega) 0 false (by omega) (by omega)).congr ?_
 rw [Int.zero_add, Bool.false_or, List.take_zero, List.drop_zero]
noncomputable def unitK (p : Pol) (l : List S28) (a : List Nat) (i u : Nat) : Bool := !((keysL l u a).any fun x => x == keyI (u : Int) (atS l i).f0) && decide (cntF [] (keysL l u a) < rd (unitsP p) (u : Int))
def newestA (a : List Nat) (i : Nat) : Nat := a.getD 0 i
def nearA (p : Pol) (l : List S28) (a : List Nat) (i : Nat) : Bool := decide (0 < p.within) && decide (wrap64 ((atS l (newestA a i)).f0 - (atS l i).f0) ≤ p.within)
noncomputable def keptA (p : Pol) (l : List S28) (a : List Nat) (i : Nat) : Bool := ((decide ((a.length : Int) < p.last) || (List.range' 1 5).any (unitK p l a i)) || nearA p l a i) || tagB p (atS l i)
theorem shl_pos (u : Nat) (hu : 1 ≤ u ∧ u ≤ 5) : 0 < shl .i64 1 (u : Int) ∧ shl .i64 1 (u : Int) ≤ 32 := by
 rcases (show u = 1 ∨ u = 2 ∨ u = 3 ∨ u = 4 ∨ u = 5 by omega) with rfl | rfl | rfl | rfl | rfl <;> decide
theorem rwhy0 (p : Pol) (l : List S28) (h : OkL l) (htag : p.tags.length ≤ 1000) (a : List Nat) (ha : ∀ s ∈ a, s < l.length) (hal : a.length ≤ 1000) (i : Nat) (hi : i < l.length) : ∀ m u : Nat, u + m = 6 → 1 ≤ u → ∀ s : Int, 0 ≤ s → s ≤ 32 * u →
  ∃ v : Int, Ev (fun k => r22_why.l0 k l (i : Int) (castL a) s (unitsP p) (u : Int) p.last p.hour p.day p.week p.month p.year p.within p.tags) v ∧ (v ≠ 0 ↔ s ≠ 0 ∨ (((List.range' u m).any (unitK p l a i) || nearA p l a i) || tagB p (atS l i)) = true)
 | 0, u, hu, hu1, s, h0, h1 => by
  obtain rfl : u = 6 := by omega
  have htg := rtagged p (rd_T28 l (i : Int)) (h.two _ (atS_mem hi)).2 htag
  have hj3 : ∀ b : Bool, ∃ v : Int, Ev (fun k => r22_why.j3 k l (i : Int) s b p.last p.hour p.day p.week p.month p.year p.within p.tags) v ∧ (v ≠ 0 ↔ s ≠ 0 ∨ (b || tagB p (atS l i)) = true) := fun b => by
   have hw1 : wrap64 (s + 64) = s + 64 := wrap_id (by omega)
   have hw2 : wrap64 (s + 64 + 128) = s + 64 + 128 := wrap_id (by omega)
   have hw3 : wrap64 (s + 128) = s + 128 := wrap_id (by omega)
   cases b with
   | true =>
    cases ht : tagB p (rd_T28 l (i : Int)) with
    | true =>
     refine ⟨s + 64 + 128, Ev.succ ?_, ?_⟩
     ·simp only [r22_why.j3, if_true, if_pos (show (0 : Int) ≤ (i : Int) by omega), if_pos (show (i : Int) < (l.length : Int) by omega), hw1, hw2]
      rw [ht] at htg
      exact Ev.bind htg (by simp only [if_true]; exact Ev.pure _)
     ·simp; omega
    | false =>
     refine ⟨s + 64, Ev.succ ?_, ?_⟩
     ·simp only [r22_why.j3, if_true, if_pos (show (0 : Int) ≤ (i : Int) by omega), if_pos (show (i : Int) < (l.length : Int) by omega), hw1, hw2]
      rw [ht] at htg
      exact Ev.bind htg (by simp only [Bool.false_eq_true, if_false]; exact Ev.pure _)
     ·simp; omega
   | false =>
    cases ht : tagB p (rd_T28 l (i : Int)) with
    | true =>
     refine ⟨s + 128, Ev.succ ?_, ?_⟩
     ·simp only [r22_why.j3, Bool.false_eq_true, if_false, if_pos (show (0 : Int) ≤ (i : Int) by omega), if_pos (show (i : Int) < (l.length : Int) by omega), hw3]
      rw [ht] at htg
      exact Ev.bind htg (by simp only [if_true]; exact Ev.pure _)
     ·have : tagB p (atS l i) = true := ht
      rw [this]
      simp; omega
    | false =>
     refine ⟨s, Ev.succ ?_, ?_⟩
     ·simp only [r22_why.j3, Bool.false_eq_true, if_false, if_pos (show (0 : Int) ≤ (i : Int) by omega), if_pos (show (i : Int) < (l.length : Int) by omega), hw3]
      rw [ht] at htg
      exact Ev.bind htg (by simp only [Bool.false_eq_true, if_false]; exact Ev.pure _)
     ·have : tagB p (atS l i) = false := ht
      rw [this]
      simp
  have hj2 : ∃ v : Int, Ev (fun k => r22_why.j2 k l (i : Int) s ((newestA a i : Nat) : Int) p.last p.hour p.day p.week p.month p.year p.within p.tags) v ∧ (v ≠ 0 ↔ s ≠ 0 ∨ (nearA p l a i || tagB p (atS l i)) = true) := by
   have hnl : newestA a i < l.length := by
    unfold newestA
    rw [List.getD_eq_getElem?_getD]
    cases hq : a[0]? with
    | none => exact hi
    | some s => exact ha s (List.mem_of_getElem? hq)
   obtain ⟨v, hev, hv⟩ := hj3 (nearA p l a i)
   refine ⟨v, Ev.succ ?_, hv⟩
   unfold nearA at hev
   by_cases hwn : p.within > 0
   ·rw [decide_eq_true (show 0 < p.within by omega), Bool.true_and] at hev
    simp only [r22_why.j2, if_pos hwn, if_pos (show (0 : Int) ≤ ((newestA a i : Nat) : Int) by omega), if_pos (show ((newestA a i : Nat) : Int) < (l.length : Int) by omega), if_pos (show (0 : Int) ≤ (i : Int) by omega), if_pos (show (i : Int) < (l.length : Int) by omega)]
    exact hev
   ·rw [decide_eq_false (show ¬ 0 < p.within by omega), Bool.false_and] at hev
    simp only [r22_why.j2, if_neg hwn]
    exact hev
  obtain ⟨v, hev, hv⟩ := hj2
  refine ⟨v, Ev.succ ?_, ?_⟩
  ·simp only [r22_why.l0, if_neg (show ¬ ((6 : Nat) : Int) ≤ 5 by decide), castL_len]
   by_cases hz : a = []
   ·subst hz
    simp only [List.length_nil, if_neg (show ¬ (((0 : Nat) : Int) > 0) by decide)]
    exact hev
   ·have hpos : 0 < a.length := List.length_pos_iff.2 hz
    obtain ⟨s0, hs0⟩ : ∃ s0, a[0]? = some s0 := ⟨_, List.getElem?_eq_getElem hpos⟩
    have e0 : rd (castL a) 0 = ((newestA a i : Nat) : Int) := by
     have h2 := castL_rd hs0
     have h3 : newestA a i = s0 := by unfold newestA; rw [List.getD_eq_getElem?_getD, hs0]; rfl
     rw [h3]
     exact h2
    simp only [if_pos (show (a.length : Int) > 0 by omega), if_pos (show (0 : Int) < (a.length : Int) by omega), e0]
    exact hev
  ·rw [hv]
   have : (List.range' 6 0).any (unitK p l a i) = false := rfl
   rw [this, Bool.false_or]
 | m + 1, u, hu, hu1, s, h0, h1 => by
  have hu5 : 1 ≤ u ∧ u ≤ 5 := ⟨hu1, by omega⟩
  have hsh := shl_pos u hu5
  have hul : ((unitsP p).length : Int) = 6 := rfl
  rw [List.range'_succ, List.any_cons]
  have step : ∀ s' : Int, 0 ≤ s' → s' ≤ 32 * ((u + 1 : Nat) : Int) → ∃ v : Int, Ev (fun k => r22_why.l0 k l (i : Int) (castL a) s' (unitsP p) (wrap64 ((u : Int) + 1)) p.last p.hour p.day p.week p.month p.year p.within p.tags) v ∧ (v ≠ 0 ↔ s' ≠ 0 ∨ (((List.range' (u + 1) m).any (unitK p l a i) || nearA p l a i) || tagB p (atS l i)) = true) := fun s' a0 a1 => by
   rw [wrapS u (by omega)]
   exact rwhy0 p l h htag a ha hal i hi m (u + 1) (by omega) (by omega) s' a0 a1
  have hkey := rkeyE h u hu5 hi
  have hkeys := rkeys l h u hu5 a ha hal (keyI (u : Int) (atS l i).f0)
  have hcnt := cntF_le (keysL l u a) []
  cases hth : (keysL l u a).any (fun x => x == keyI (u : Int) (atS l i).f0) with
  | true =>
   obtain ⟨v, hev, hv⟩ := step s h0 (by omega)
   refine ⟨v, Ev.succ ?_, ?_⟩
   ·simp only [r22_why.l0, if_pos (show (u : Int) ≤ 5 by omega), if_pos (show (0 : Int) ≤ (i : Int) by omega), if_pos (show (i : Int) < (l.length : Int) by omega)]
    refine Ev.bind hkey (Ev.bind hkeys ?_)
    simp only [hth, if_true]
    exact hev
   ·have : unitK p l a i u = false := by unfold unitK; rw [hth]; rfl
    rw [this, Bool.false_or]
    exact hv
  | false =>
   by_cases hc : cntF [] (keysL l u a) < rd (unitsP p) (u : Int)
   ·have hw : wrap64 (s + shl .i64 1 (u : Int)) = s + shl .i64 1 (u : Int) := wrap_id (by omega)
    obtain ⟨v, hev, hv⟩ := step (s + shl .i64 1 (u : Int)) (by omega) (by omega)
    refine ⟨v, Ev.succ ?_, ?_⟩
    ·simp only [r22_why.l0, if_pos (show (u : Int) ≤ 5 by omega), if_pos (show (0 : Int) ≤ (i : Int) by omega), if_pos (show (i : Int) < (l.length : Int) by omega)]
     refine Ev.bind hkey (Ev.bind hkeys ?_)
     simp only [hth, Bool.false_eq_true, if_false, if_pos (show (0 : Int) ≤ (u : Int) by omega), hul, if_pos (show (u : Int) < 6 by omega), if_pos hc, hw]
     exact hev
    ·have : unitK p l a i u = true := by unfold unitK; rw [hth, decide_eq_true hc]; rfl
     rw [this, hv]
     simp
     omega
   ·obtain ⟨v, hev, hv⟩ := step s h0 (by omega)
    refine ⟨v, Ev.succ ?_, ?_⟩
    ·simp only [r22_why.l0, if_pos (show (u : Int) ≤ 5 by omega), if_pos (show (0 : Int) ≤ (i : Int) by omega), if_pos (show (i : Int) < (l.length : Int) by omega)]
     refine Ev.bind hkey (Ev.bind hkeys ?_)
     simp only [hth, Bool.false_eq_true, if_false, if_pos (show (0 : Int) ≤ (u : Int) by omega), hul, if_pos (show (u : Int) < 6 by omega), if_neg hc]
     exact hev
    ·have : unitK p l a i u = false := by unfold unitK; rw [decide_eq_false hc, Bool.and_false]
     rw [this, Bool.false_or]
     exact hv
theorem rwhy (p : Pol) (l : List S28) (h : OkL l) (hp : polP p = true) (htag : p.tags.length ≤ 1000) (i : Nat) (hi : i < l.length) :
  ∃ (a : List Nat) (v : Int), AheadOk l i l.length a ∧ Ev (fun k => r22_why.f k p.last p.hour p.day p.week p.month p.year p.within p.tags l (i : Int)) v ∧ (v ≠ 0 ↔ (silentP p || keptA p l a i) = true) := by
 obtain ⟨a, ha, hev⟩ := rahead l h i hi
 have hno := rnothing p hp (by omega)
 unfold r22_why.f
 cases hs : silentP p with
 | true =>
  rw [hs] at hno
  refine ⟨a, 1, ha, Ev.bind hno (by simp only [if_true]; exact Ev.pure _), by simp⟩
 | false =>
  rw [hs] at hno
  have hal : a.length ≤ 1000 := Nat.le_trans ha.2.2 h.len
  have hmem : ∀ s ∈ a, s < l.length := fun s hs => ((ha.2.1 s).1 hs).1
  have hj0 : ∀ s : Int, 0 ≤ s → s ≤ 1 → ∃ v : Int, Ev (fun k => r22_why.j0 k l (i : Int) (castL a) s p.last p.hour p.day p.week p.month p.year p.within p.tags) v ∧ (v ≠ 0 ↔ s ≠ 0 ∨ (((List.range' 1 5).any (unitK p l a i) || nearA p l a i) || tagB p (atS l i)) = true) := fun s a0 a1 => by
   obtain ⟨v, hev, hv⟩ := rwhy0 p l h htag a hmem hal i hi 5 1 rfl (by omega) s a0 (by omega)
   refine ⟨v, Ev.succ ?_, hv⟩
   simp only [r22_why.j0, runits, Option.bind_some]
   exact hev
  by_cases hl : (a.length : Int) < p.last
  ·obtain ⟨v, hv1, hv2⟩ := hj0 1 (by omega) (by omega)
   refine ⟨a, v, ha, Ev.bind hno ?_, ?_⟩
   ·simp only [Bool.false_eq_true, if_false]
    refine Ev.bind hev ?_
    simp only [castL_len, if_pos hl]
    exact hv1
   ·rw [hv2, Bool.false_or]
    unfold keptA
    rw [decide_eq_true hl]
    simp
  ·obtain ⟨v, hv1, hv2⟩ := hj0 0 (by omega) (by omega)
   refine ⟨a, v, ha, Ev.bind hno ?_, ?_⟩
   ·simp only [Bool.false_eq_true, if_false]
    refine Ev.bind hev ?_
    simp only [castL_len, if_neg hl]
    exact hv1
   ·rw [hv2, Bool.false_or]
    unfold keptA
    rw [decide_eq_false hl, Bool.false_or]
    simp
theorem getD_left {α : Type} {a b : List α} {j : Nat} {d : α} (h : j < a.length) : (a ++ b).getD j d = a.getD j d := by
 rw [List.getD_eq_getElem?_getD, List.getElem?_append_left h, ← List.getD_eq_getElem?_getD]
theorem getD_last {α : Type} {a : List α} {x d : α} {j : Nat} (h : a.length = j) : (a ++ [x]).getD j d = x := by
 rw [List.getD_eq_getElem?_getD, List.getElem?_append_right (by omega), h, Nat.sub_self]
 rfl
theorem max_size : ∀ q : List ByteArray, ∃ M, ∀ s ∈ q, s.size ≤ M
 | [] => ⟨0, fun s h => by cases h⟩
 | a :: r => by
  obtain ⟨M, h⟩ := max_size r
  exact ⟨M + a.size, fun s hs => by
   rcases List.mem_cons.1 hs with rfl | hs
   ·omega
   ·have := h s hs; omega⟩
theorem rsnap {l : List S28} (h : InL l) {k : Nat} (hk : k < l.length) : Ev (fun n => r20_Check.f n (rd_T28 l (k : Int)).f0 (rd_T28 l (k : Int)).f1 (rd_T28 l (k : Int)).f2 (rd_T28 l (k : Int)).f3 (rd_T28 l (k : Int)).f4 (rd_T28 l (k : Int)).f5) (if snapP (atS l k) = true then 0 else 200) := by
 have hx := h.2 _ (atS_mem hk)
 obtain ⟨M, hM⟩ := max_size (atS l k).f3
 exact ⟨1070000 + M + 6000 + (atS l k).f1.size, fun K hK => rcheck (atS l k) (by omega) (by omega) hx.2.2.1 hx.2.2.2.1 hx.2.2.2.2 K (by omega) (by omega) (fun s hs => by have := hM s hs; omega)⟩
theorem okl_of {l : List S28} (h : InL l) (hs : AllSnap l = true) : OkL l := by
 have hall := List.all_eq_true.1 hs
 refine ⟨h.1, fun x hx => ⟨(h.2 x hx).1, (h.2 x hx).2.1⟩, fun x hx => (h.2 x hx).2.2.2.1, fun x hx => ?_, fun x hx => ?_⟩
 ·have hp := hall x hx
  unfold snapP at hp
  rw [Bool.and_eq_true, Bool.and_eq_true, Bool.and_eq_true] at hp
  have hw := hp.2.2.1
  unfold wordP at hw
  rw [Bool.and_eq_true, Bool.and_eq_true, decide_eq_true_eq, decide_eq_true_eq] at hw
  omega
 ·have hp := hall x hx
  unfold snapP at hp
  rw [Bool.and_eq_true, Bool.and_eq_true, decide_eq_true_eq, decide_eq_true_eq] at hp
  exact ⟨hp.1, hp.2.1⟩
def KeptRef (p : Pol) (l : List S28) (ks : List Bool) (n : Nat) : Prop := ks.length = n ∧ ∀ i, i < n → ∃ a, AheadOk l i l.length a ∧ ks.getD i false = (silentP p || keptA p l a i)
theorem rapply1 (p : Pol) (l : List S28) (h : OkL l) (hp : polP p = true) (htag : p.tags.length ≤ 1000) : ∀ m i : Nat, i + m = l.length → ∀ (ws : List Int) (ks : List Bool), ws.length = i → KeptRef p l ks i → (∀ j, j < i → (ws.getD j 0 = 0 ↔ ks.getD j false = false)) →
  ∃ (ws' : List Int) (ks' : List Bool), Ev (fun k => r22_Apply.l1 k l ws (i : Int) p.last p.hour p.day p.week p.month p.year p.within p.tags) (ws', 0) ∧ ws'.length = l.length ∧ KeptRef p l ks' l.length ∧ ∀ j, j < l.length → (ws'.getD j 0 = 0 ↔ ks'.getD j false = false)
 | 0, i, hi, ws, ks, hw, hk, hj => by
  obtain rfl : i = l.length := by omega
  refine ⟨ws, ks, Ev.succ ?_, hw, hk, hj⟩
  simp only [r22_Apply.l1, if_neg (show ¬ ((l.length : Nat) : Int) < (l.length : Int) by omega)]
  exact Ev.pure _
 | m + 1, i, hi, ws, ks, hw, hk, hj => by
  have hil : i < l.length := by omega
  obtain ⟨a, v, ha, hev, hv⟩ := rwhy p l h hp htag i hil
  have hlen := h.len
  obtain ⟨ws', ks', h1, h2, h3, h4⟩ := rapply1 p l h hp htag m (i + 1) (by omega) (ws ++ [v]) (ks ++ [silentP p || keptA p l a i]) (by simp [hw]) ⟨by simp [hk.1], fun j hjl => by
   by_cases e : j < i
   ·obtain ⟨b, hb1, hb2⟩ := hk.2 j e
    refine ⟨b, hb1, ?_⟩
    rw [getD_left (by rw [hk.1]; exact e)]
    exact hb2
   ·have e2 : j = i := by omega
    subst e2
    refine ⟨a, ha, ?_⟩
    rw [getD_last hk.1]⟩ (fun j hjl => by
   by_cases e : j < i
   ·rw [getD_left (by omega), getD_left (by rw [hk.1]; exact e)]
    exact hj j e
   ·have e2 : j = i := by omega
    subst e2
    rw [getD_last hw, getD_last hk.1]
    cases hb : (silentP p || keptA p l a j) with
    | true =>
     rw [hb] at hv
     have := hv.2 rfl
     simp [this]
    | false =>
     rw [hb] at hv
     simp at hv
     simp [hv])
  refine ⟨ws', ks', Ev.succ ?_, h2, h3, h4⟩
  simp only [r22_Apply.l1, if_pos (show (i : Int) < (l.length : Int) by omega)]
  refine Ev.bind hev ?_
  simp only [if_pos (show ws.length < 17592186044416 by omega), wrapS i (by omega)]
  exact h1
theorem rapply0 (p : Pol) (l : List S28) (h : InL l) (hp : polP p = true) (htag : p.tags.length ≤ 1000) : ∀ m i : Nat, i + m = l.length → (∀ j, j < i → snapP (atS l j) = true) →
  (AllSnap l = false ∧ Ev (fun k => r22_Apply.l0 k l (i : Int) p.last p.hour p.day p.week p.month p.year p.within p.tags) ([], 200)) ∨
  (AllSnap l = true ∧ ∃ (ws' : List Int) (ks' : List Bool), Ev (fun k => r22_Apply.l0 k l (i : Int) p.last p.hour p.day p.week p.month p.year p.within p.tags) (ws', 0) ∧ ws'.length = l.length ∧ KeptRef p l ks' l.length ∧ ∀ j, j < l.length → (ws'.getD j 0 = 0 ↔ ks'.getD j false = false))
 | 0, i, hi, hj => by
  obtain rfl : i = l.length := by omega
  have hals : AllSnap l = true := by
   unfold AllSnap
   rw [List.all_eq_true]
   intro x hx
   obtain ⟨j, hjl, rfl⟩ := List.getElem_of_mem hx
   have h2 := hj j hjl
   unfold atS rd_T28 at h2
   rw [Int.toNat_natCast, List.getD_eq_getElem?_getD, List.getElem?_eq_getElem hjl] at h2
   exact h2
  obtain ⟨ws', ks', h1, h2, h3, h4⟩ := rapply1 p l (okl_of h hals) hp htag l.length 0 (by omega) [] [] rfl ⟨rfl, fun i hi => by omega⟩ (fun j hj => by omega)
  refine .inr ⟨hals, ws', ks', Ev.succ ?_, h2, h3, h4⟩
  simp only [r22_Apply.l0, if_neg (show ¬ ((l.length : Nat) : Int) < (l.length : Int) by omega)]
  exact h1
 | m + 1, i, hi, hj => by
  have hil : i < l.length := by omega
  have hck := rsnap h hil
  have hlen := h.1
  cases hs : snapP (atS l i) with
  | false =>
   refine .inl ⟨?_, Ev.succ ?_⟩
   ·unfold AllSnap
    rw [List.all_eq_false]
    exact ⟨_, atS_mem hil, by rw [hs]; simp⟩
   ·rw [hs, if_neg (by decide)] at hck
    simp only [r22_Apply.l0, if_pos (show (i : Int) < (l.length : Int) by omega), if_pos (show (0 : Int) ≤ (i : Int) by omega)]
    refine Ev.bind hck ?_
    simp only [if_neg (show ¬ (200 : Int) = 0 by decide)]
    exact Ev.pure _
  | true =>
   rw [hs, if_pos rfl] at hck
   have ih := rapply0 p l h hp htag m (i + 1) (by omega) (fun j hjl => if e : j = i then by rw [e]; exact hs else hj j (by omega))
   have lift : ∀ r : List Int × Int, Ev (fun k => r22_Apply.l0 k l ((i + 1 : Nat) : Int) p.last p.hour p.day p.week p.month p.year p.within p.tags) r → Ev (fun k => r22_Apply.l0 k l (i : Int) p.last p.hour p.day p.week p.month p.year p.within p.tags) r := fun r hr => by
    refine Ev.succ ?_
    simp only [r22_Apply.l0, if_pos (show (i : Int) < (l.length : Int) by omega), if_pos (show (0 : Int) ≤ (i : Int) by omega)]
    refine Ev.bind hck ?_
    simp only [if_true, wrapS i (by omega)]
    exact hr
   rcases ih with ⟨h1, h2⟩ | ⟨h1, ws', ks', h2, h3⟩
   ·exact .inl ⟨h1, lift _ h2⟩
   ·exact .inr ⟨h1, ws', ks', lift _ h2, h3⟩
theorem rforget0 (ws : List Int) (ks : List Bool) (hl : ws.length ≤ 1000) (hj : ∀ j, j < ws.length → (ws.getD j 0 = 0 ↔ ks.getD j false = false)) : ∀ m i : Nat, i + m = ws.length →
  Ev (fun k => r22_Forget.l0 k ws (castL (forL ks i)) (i : Int)) (castL (forL ks ws.length), 0)
 | 0, i, hi => by
  obtain rfl : i = ws.length := by omega
  refine Ev.succ ?_
  simp only [r22_Forget.l0, if_neg (show ¬ ((ws.length : Nat) : Int) < (ws.length : Int) by omega)]
  exact Ev.pure _
 | m + 1, i, hi => by
  have hil : i < ws.length := by omega
  have hr : rd ws (i : Int) = ws.getD i 0 := by unfold rd; rw [Int.toNat_natCast]
  have hfs := forL_succ ks i
  have hfl := forL_len ks i
  refine Ev.succ ?_
  simp only [r22_Forget.l0, if_pos (show (i : Int) < (ws.length : Int) by omega), if_pos (show (0 : Int) ≤ (i : Int) by omega), hr, wrapS i (by omega)]
  by_cases c : ws.getD i 0 = 0
  ·have hk := (hj i hil).1 c
   rw [hk, if_neg (by decide)] at hfs
   have e : castL (forL ks i) ++ [(i : Int)] = castL (forL ks (i + 1)) := by rw [hfs]; unfold castL; simp
   simp only [if_pos c, castL_len, if_pos (show (forL ks i).length < 17592186044416 by omega), e]
   exact rforget0 ws ks hl hj m (i + 1) (by omega)
  ·have hk : ks.getD i false = true := by
    cases h : ks.getD i false with
    | true => rfl
    | false => exact absurd ((hj i hil).2 h) c
   rw [hk, if_pos rfl] at hfs
   simp only [if_neg c]
   rw [← hfs]
   exact rforget0 ws ks hl hj m (i + 1) (by omega)
theorem rforget (p : Pol) (l : List S28) (h : InL l) (htag : p.tags.length ≤ 1000) (hts : ∀ s ∈ p.tags, (s.size : Int) < 9223372036854775808) :
  (appC p l ≠ 0 ∧ Ev (fun k => r22_Forget.f k p.last p.hour p.day p.week p.month p.year p.within p.tags l) ([], appC p l)) ∨
  (appC p l = 0 ∧ AllSnap l = true ∧ ∃ ks : List Bool, KeptRef p l ks l.length ∧ Ev (fun k => r22_Forget.f k p.last p.hour p.day p.week p.month p.year p.within p.tags l) (castL (forL ks l.length), 0)) := by
 have hck := rcheckp p (by omega) hts
 have hlen := h.1
 unfold r22_Forget.f r22_Apply.f appC
 by_cases hp : polP p = true
 ·rw [if_pos hp] at hck ⊢
  rcases rapply0 p l h hp htag l.length 0 (by omega) (fun j hj => by omega) with ⟨h1, h2⟩ | ⟨h1, ws', ks', h2, h3, h4, h5⟩
  ·rw [if_neg (by rw [h1]; decide)]
   refine .inl ⟨by decide, Ev.bind (a := ([], 200)) (Ev.bind hck ?_) ?_⟩
   ·simp only [if_true, if_neg (show ¬ (l.length : Int) > 4096 by omega)]
    exact h2
   ·simp only [if_neg (show ¬ (200 : Int) = 0 by decide)]
    exact Ev.pure _
  ·rw [if_pos h1]
   refine .inr ⟨rfl, h1, ks', h4, Ev.bind (a := (ws', 0)) (Ev.bind hck ?_) ?_⟩
   ·simp only [if_true, if_neg (show ¬ (l.length : Int) > 4096 by omega)]
    exact h2
   ·simp only [if_true]
    have := rforget0 ws' ks' (by omega) (fun j hj => h5 j (by omega)) ws'.length 0 (by omega)
    rw [h3] at this
    exact this
 ·rw [if_neg hp] at hck ⊢
  refine .inl ⟨by decide, Ev.bind (a := ([], 1)) (Ev.bind hck ?_) ?_⟩
  ·simp only [if_neg (show ¬ (1 : Int) = 0 by decide)]
   exact Ev.pure _
  ·simp only [if_neg (show ¬ (1 : Int) = 0 by decide)]
   exact Ev.pure _
theorem rplan0 (ids : List ByteArray) (fl : List Nat) (hf : ∀ i ∈ fl, i < ids.length) (hfl : fl.length ≤ 1000) : ∀ m j : Nat, j + m = fl.length → ∀ out : List ByteArray, Rising out → out.length ≤ j → (∀ s, s ∈ out ↔ ∃ i ∈ fl.take j, idAt ids i = s) →
  ∃ out' : List ByteArray, Rising out' ∧ (∀ s, s ∈ out' ↔ ∃ i ∈ fl, idAt ids i = s) ∧ Ev (fun k => r28_Plan.l0 k ids (castL fl) out (j : Int)) (out', 0)
 | 0, j, hj, out, hr, ho, hm => by
  obtain rfl : j = fl.length := by omega
  rw [List.take_length] at hm
  refine ⟨out, hr, hm, Ev.succ ?_⟩
  simp only [r28_Plan.l0, castL_len, if_neg (show ¬ ((fl.length : Nat) : Int) < (fl.length : Int) by omega)]
  exact Ev.pure _
 | m + 1, j, hj, out, hr, ho, hm => by
  have hjl : j < fl.length := by omega
  obtain ⟨i, hi⟩ : ∃ i, fl[j]? = some i := ⟨_, List.getElem?_eq_getElem hjl⟩
  have hil := hf i (List.mem_of_getElem? hi)
  obtain ⟨q, hq⟩ : ∃ q, q = idAt ids i := ⟨_, rfl⟩
  have htk : fl.take (j + 1) = fl.take j ++ [i] := by rw [List.take_add_one, hi]; rfl
  have hm1 : ∀ s, (s ∈ out ∨ s = q) ↔ ∃ i ∈ fl.take (j + 1), idAt ids i = s := fun s => by
   rw [htk, hm s]
   constructor
   ·rintro (⟨t, h1, h2⟩ | e)
    ·exact ⟨t, List.mem_append_left _ h1, h2⟩
    ·exact ⟨i, List.mem_append_right _ (List.mem_singleton.2 rfl), by rw [e, hq]⟩
   ·rintro ⟨t, h1, h2⟩
    rcases List.mem_append.1 h1 with h1 | h1
    ·exact .inl ⟨t, h1, h2⟩
    ·rw [List.mem_singleton.1 h1] at h2
     exact .inr (by rw [← h2, hq])
  have inner : ∀ r t : Nat, t + r = out.length → (∀ u s, u < t → out[u]? = some s → Op.bytesLess s.toList q.toList = true) → ∃ out' : List ByteArray, Rising out' ∧ (∀ s, s ∈ out' ↔ ∃ i ∈ fl, idAt ids i = s) ∧ Ev (fun k => r28_Plan.l1 k ids (castL fl) out (j : Int) q (t : Int)) (out', 0) := by
   have put : ∀ t : Nat, t ≤ out.length → (∀ u s, u < t → out[u]? = some s → Op.bytesLess s.toList q.toList = true) → (∀ s, out[t]? = some s → Op.bytesLess s.toList q.toList = false ∧ s ≠ q) → ∃ out' : List ByteArray, Rising out' ∧ (∀ s, s ∈ out' ↔ ∃ i ∈ fl, idAt ids i = s) ∧ Ev (fun k => r28_Plan.l0 k ids (castL fl) (([] ++ out.take t ++ [q]) ++ out.drop t) (wrap64 ((j : Int) + 1))) (out', 0) := by
    intro t ht h1 h2
    obtain ⟨g1, g2⟩ := ins_rising hr ht h1 h2
    have e : ([] ++ out.take t ++ [q]) ++ out.drop t = out.take t ++ q :: out.drop t := by simp
    rw [e, wrapS j (by omega)]
    exact rplan0 ids fl hf hfl m (j + 1) (by omega) _ g1 (by simp only [List.length_append, List.length_cons, List.length_take, List.length_drop]; omega) (fun s => by rw [g2 s]; exact hm1 s)
   intro r
   induction r with
   | zero =>
    intro t ht h1
    obtain rfl : t = out.length := by omega
    obtain ⟨out', g1, g2, g3⟩ := put out.length (Nat.le_refl _) h1 (fun s hs => by simp at hs)
    refine ⟨out', g1, g2, Ev.succ ?_⟩
    have e1 : ([] : List ByteArray).length + (out.take out.length).length < 8796093022208 := by simp; omega
    have e2 : ([] ++ out.take out.length).length < 8796093022208 := by simp; omega
    have e3 : ([] ++ out.take out.length ++ [q]).length + (out.drop out.length).length < 8796093022208 := by simp; omega
    simp only [r28_Plan.l1, if_neg (show ¬ ((out.length : Nat) : Int) < (out.length : Int) by omega), if_pos (show (0 : Int) ≤ (out.length : Int) by omega), if_pos (show ((out.length : Nat) : Int) ≤ (out.length : Int) by omega), Option.bind_some, Int.toNat_natCast, if_pos e1, if_pos e2, if_pos e3]
    exact g3
   | succ r ih =>
    intro t ht h1
    have htl : t < out.length := by omega
    obtain ⟨s, hs⟩ : ∃ s, out[t]? = some s := ⟨_, List.getElem?_eq_getElem htl⟩
    have hrd : rdOf ByteArray.empty out (t : Int) = s := rdJ_at hs
    by_cases c : Op.bytesLess s.toList q.toList = true
    ·obtain ⟨out', g1, g2, g3⟩ := ih (t + 1) (by omega) (fun u s' hu hs' => by
      by_cases e : u = t
      ·subst e
       rw [hs] at hs'
       rw [← Option.some.inj hs']
       exact c
      ·exact h1 u s' (by omega) hs')
     refine ⟨out', g1, g2, Ev.succ ?_⟩
     simp only [r28_Plan.l1, if_pos (show (t : Int) < (out.length : Int) by omega), if_pos (show (0 : Int) ≤ (t : Int) by omega), hrd, if_pos c, wrapS t (by omega)]
     exact g3
    ·by_cases c2 : s.toList = q.toList
     ·have hsq : s = q := eq_of_toList c2
      have hin : q ∈ out := hsq ▸ List.mem_of_getElem? hs
      obtain ⟨out', g1, g2, g3⟩ := rplan0 ids fl hf hfl m (j + 1) (by omega) out hr (by omega) (fun s' => by
       rw [← hm1 s']
       exact ⟨.inl, fun h => h.elim id (fun e => e ▸ hin)⟩)
      refine ⟨out', g1, g2, Ev.succ ?_⟩
      simp only [r28_Plan.l1, if_pos (show (t : Int) < (out.length : Int) by omega), if_pos (show (0 : Int) ≤ (t : Int) by omega), hrd, if_neg c, if_pos c2, wrapS j (by omega)]
      exact g3
     ·obtain ⟨out', g1, g2, g3⟩ := put t (by omega) h1 (fun s' hs' => by
       rw [hs] at hs'
       rw [← Option.some.inj hs']
       exact ⟨Bool.eq_false_iff.2 c, fun e => c2 (by rw [e])⟩)
      refine ⟨out', g1, g2, Ev.succ ?_⟩
      have e1 : ([] : List ByteArray).length + (out.take t).length < 8796093022208 := by simp; omega
      have e2 : ([] ++ out.take t).length < 8796093022208 := by simp; omega
      have e3 : ([] ++ out.take t ++ [q]).length + (out.drop t).length < 8796093022208 := by simp; omega
      simp only [r28_Plan.l1, if_pos (show (t : Int) < (out.length : Int) by omega), if_pos (show (0 : Int) ≤ (t : Int) by omega), hrd, if_neg c, if_neg c2, if_pos (show (t : Int) ≤ (out.length : Int) by omega), Option.bind_some, Int.toNat_natCast, if_pos e1, if_pos e2, if_pos e3]
      exact g3
  obtain ⟨out', g1, g2, g3⟩ := inner out.length 0 (by omega) (fun u s hu => by omega)
  refine ⟨out', g1, g2, Ev.succ ?_⟩
  have hri : rdOf ByteArray.empty ids (i : Int) = q := hq.symm
  simp only [r28_Plan.l0, castL_len, castL_rd hi, if_pos (show (j : Int) < (fl.length : Int) by omega), if_pos (show (0 : Int) ≤ (j : Int) by omega), if_pos (show (0 : Int) ≤ (i : Int) by omega), if_pos (show (i : Int) < (ids.length : Int) by omega), hri]
  exact g3
theorem rplan (p : Pol) (ids : List ByteArray) (l : List S28) (h : InL l) (htag : p.tags.length ≤ 1000) (hts : ∀ s ∈ p.tags, (s.size : Int) < 9223372036854775808) :
  ∃ out : List ByteArray, Ev (fun k => r28_Plan.f k p.last p.hour p.day p.week p.month p.year p.within p.tags ids l) (out, planC p ids l) ∧ (planC p ids l ≠ 0 → out = []) ∧ (planC p ids l = 0 → AllSnap l = true ∧ ∃ ks : List Bool, KeptRef p l ks l.length ∧ out = risL ((forL ks l.length).map (idAt ids))) := by
 unfold r28_Plan.f planC
 by_cases hlen : ids.length = l.length
 ·rw [if_pos hlen]
  simp only [if_pos (show (ids.length : Int) = (l.length : Int) by omega)]
  rcases rforget p l h htag hts with ⟨h1, h2⟩ | ⟨h1, h2, ks, h3, h4⟩
  ·refine ⟨[], Ev.bind h2 ?_, fun _ => rfl, fun e => absurd e h1⟩
   simp only [if_neg h1]
   exact Ev.pure _
  ·have hfb : ∀ i ∈ forL ks l.length, i < ids.length := fun i hi => by
    unfold forL at hi
    rw [hlen]
    exact List.mem_range.1 (List.mem_filter.1 hi).1
   obtain ⟨out, g1, g2, g3⟩ := rplan0 ids (forL ks l.length) hfb (Nat.le_trans (forL_len _ _) h.1) (forL ks l.length).length 0 (by omega) [] List.Pairwise.nil (by simp) (fun s => by simp)
   refine ⟨out, ?_, fun e => absurd h1 e, fun _ => ⟨h2, ks, h3, ?_⟩⟩
   ·rw [h1]
    refine Ev.bind h4 ?_
    simp only [if_true]
    exact g3
   ·refine rising_eq g1 (risL_rising _) (fun s => ?_)
    rw [g2 s, risL_mem, List.mem_map]
 ·rw [if_neg hlen]
  simp only [if_neg (show ¬ (ids.length : Int) = (l.length : Int) by omega)]
  exact ⟨[], Ev.pure _, fun _ => rfl, fun e => by cases e⟩
theorem strict_eq {l : List S28} : ∀ {a b : List Nat}, a.Pairwise (fun u v => cN l u v < 0) → b.Pairwise (fun u v => cN l u v < 0) → (∀ k, k ∈ a ↔ k ∈ b) → a = b
 | [], [], _, _, _ => rfl
 | [], b :: r, _, _, h => by have := (h b).2 (by simp); simp at this
 | a :: r, [], _, _, h => by have := (h a).1 (by simp); simp at this
 | a :: r, b :: q, ha, hb, h => by
  obtain ⟨h1, h2⟩ := List.pairwise_cons.1 ha
  obtain ⟨h3, h4⟩ := List.pairwise_cons.1 hb
  have nl : ∀ {x y : Nat}, cN l x y < 0 → cN l y x < 0 → False := fun {x y} hx hy => by have := (tc_N l).1 x y; omega
  have hab : a = b := by
   rcases List.mem_cons.1 ((h a).1 (by simp)) with e | e
   ·exact e
   ·rcases List.mem_cons.1 ((h b).2 (by simp)) with e' | e'
    ·exact e'.symm
    ·exact (nl (h3 _ e) (h1 _ e')).elim
  subst hab
  congr 1
  refine strict_eq h2 h4 fun k => ?_
  have hk := h k
  simp only [List.mem_cons] at hk
  constructor
  ·intro hm
   rcases hk.1 (.inr hm) with e | e
   ·subst e; exact (nl (h1 _ hm) (h1 _ hm)).elim
   ·exact e
  ·intro hm
   rcases hk.2 (.inr hm) with e | e
   ·subst e; exact (nl (h3 _ hm) (h3 _ hm)).elim
   ·exact e
theorem take_mem {l : List S28} {sl : List Nat} (hp : sl.Pairwise (fun u v => cN l u v < 0)) {m i : Nat} (hi : sl[m]? = some i) (k : Nat) : k ∈ sl.take m ↔ k ∈ sl ∧ cN l k i < 0 := by
 have tc := tc_N l
 obtain ⟨hm, he⟩ := List.getElem?_eq_some_iff.1 hi
 constructor
 ·intro hk
  obtain ⟨t, ht, rfl⟩ := List.getElem_of_mem hk
  rw [List.length_take] at ht
  rw [List.getElem_take]
  refine ⟨List.getElem_mem _, ?_⟩
  rw [← he]
  exact List.pairwise_iff_getElem.1 hp t m (by omega) hm (by omega)
 ·rintro ⟨hk, hc⟩
  obtain ⟨t, ht, rfl⟩ := List.getElem_of_mem hk
  have htm : t < m := by
   rcases Nat.lt_trichotomy t m with h | h | h
   ·exact h
   ·subst h
    rw [he] at hc
    have := tc.same i
    omega
   ·have h2 := List.pairwise_iff_getElem.1 hp m t hm ht h
    rw [he] at h2
    have := tc.1 i sl[t]
    omega
  rw [List.mem_take_iff_getElem]
  exact ⟨t, by omega, rfl⟩
theorem ahead_take {l : List S28} {sl a : List Nat} {m i : Nat} (hp : sl.Pairwise (fun u v => cN l u v < 0)) (hi : sl[m]? = some i) (hmem : ∀ k, k ∈ sl ↔ k < l.length ∧ gkey l k = gkey l i) (ha : AheadOk l i l.length a) : a = sl.take m := by
 refine strict_eq ha.1 (hp.sublist (List.take_sublist _ _)) fun k => ?_
 rw [ha.2.1 k, take_mem hp hi k, hmem k]
 constructor
 ·rintro ⟨h1, h2, h3⟩
  exact ⟨⟨h1, h2⟩, h3⟩
 ·rintro ⟨⟨h1, h2⟩, h3⟩
  exact ⟨h1, h2, h3⟩
theorem cN_time {l : List S28} {s i : Nat} (h : cN l s i < 0) : (atS l i).f0 ≤ (atS l s).f0 := by
 have ho : ordP (atS l i) (atS l s) ≤ 0 := by
  unfold cN at h
  split at h
  ·rename_i h2; exact Int.le_of_eq h2
  ·exact Int.le_of_lt h
 have hc : cmpI (atS l i).f0 (atS l s).f0 ≤ 0 := by
  unfold ordP at ho
  rw [orI] at ho
  split at ho
  ·rename_i h2; exact Int.le_of_eq h2
  ·exact ho
 unfold cmpI at hc
 split at hc
 ·omega
 ·split at hc <;> omega
theorem key_anti {l : List S28} (h : OkL l) {s i : Nat} (hs : s < l.length) (hi : i < l.length) (u : Nat) (hu : 1 ≤ u ∧ u ≤ 5) (hc : cN l s i < 0) : keyI (u : Int) (atS l i).f0 ≤ keyI (u : Int) (atS l s).f0 :=
 key_mono (by omega) (h.time _ (atS_mem hi)).1 (cN_time hc) (h.time _ (atS_mem hs)).2
theorem cntF_snoc : ∀ (r pre : List Int) (x : Int), cntF pre (r ++ [x]) = cntF pre r + if x ∈ pre ++ r then 0 else 1
 | [], pre, x => by simp [cntF]
 | y :: r, pre, x => by
  rw [List.cons_append, cntF, cntF, cntF_snoc r (pre ++ [y]) x, Int.add_assoc]
  have : x ∈ pre ++ [y] ++ r ↔ x ∈ pre ++ y :: r := by simp
  simp only [this]
theorem keysL_snoc (l : List S28) (u : Nat) (a : List Nat) (i : Nat) : keysL l u (a ++ [i]) = keysL l u a ++ [keyI (u : Int) (atS l i).f0] := by
 unfold keysL
 rw [List.map_append]
 rfl
def SeenIs (l : List S28) (us : List Seen) (a : List Nat) : Prop := us.length = 6 ∧ ∀ u, 1 ≤ u → u ≤ 5 → (us.getD u seen0).any = decide (a ≠ []) ∧ (us.getD u seen0).kept = cntF [] (keysL l u a) ∧ ∀ s, a.getLast? = some s → (us.getD u seen0).last = keyI (u : Int) (atS l s).f0
theorem last_key {l : List S28} (h : OkL l) {a : List Nat} {i : Nat} (hp : (a ++ [i]).Pairwise (fun u v => cN l u v < 0)) (ha : ∀ s ∈ a, s < l.length) (hi : i < l.length) {us : List Seen} (hs : SeenIs l us a) (u : Nat) (hu : 1 ≤ u ∧ u ≤ 5) :
  ((us.getD u seen0).any && (us.getD u seen0).last == keyI (u : Int) (atS l i).f0) = (keysL l u a).any fun x => x == keyI (u : Int) (atS l i).f0 := by
 obtain ⟨h1, h2, h3⟩ := hs.2 u hu.1 hu.2
 obtain ⟨p1, _, p3⟩ := List.pairwise_append.1 hp
 by_cases hz : a = []
 ·subst hz
  rw [h1]
  rfl
 ·obtain ⟨s, hlast⟩ : ∃ s, a.getLast? = some s := ⟨_, List.getLast?_eq_some_getLast hz⟩
  have hs1 := h3 s hlast
  have hsm : s ∈ a := List.mem_of_getLast? hlast
  rw [h1, decide_eq_true hz, Bool.true_and, hs1]
  have hle := key_anti h (ha s hsm) hi u hu (p3 s hsm i (List.mem_singleton.2 rfl))
  rw [Bool.eq_iff_iff, beq_iff_eq, List.any_eq_true]
  constructor
  ·intro e
   exact ⟨_, by unfold keysL; exact List.mem_map_of_mem hsm, beq_iff_eq.2 e⟩
  ·rintro ⟨x, hx, hxe⟩
   obtain ⟨t, ht, rfl⟩ := List.mem_map.1 hx
   rw [beq_iff_eq] at hxe
   have hts : keyI (u : Int) (atS l s).f0 ≤ keyI (u : Int) (atS l t).f0 := by
    by_cases e : t = s
    ·rw [e]; exact Int.le_refl _
    ·-- s is the last one
     obtain ⟨b, rfl⟩ : ∃ b, a = b ++ [s] := by
      refine ⟨a.dropLast, ?_⟩
      have h5 := List.dropLast_concat_getLast hz
      rw [List.getLast?_eq_some_getLast hz] at hlast
      rw [← Option.some.inj hlast]
      exact h5.symm
     rcases List.mem_append.1 ht with hb | hb
     ·obtain ⟨_, _, q3⟩ := List.pairwise_append.1 p1
      exact key_anti h (ha t ht) (ha s hsm) u hu (q3 t hb s (List.mem_singleton.2 rfl))
     ·exact absurd (List.mem_singleton.1 hb) e
   omega
theorem uFold_get (p : Pol) (t : Int) (us : List Seen) (hl : us.length = 6) : ∀ k, k ≤ 6 → (uFold p t us k).2.length = 6 ∧ (∀ u, u < 6 → (uFold p t us k).2.getD u seen0 = if 1 ≤ u ∧ u < k then (keepsP (us.getD u seen0) (keyI (u : Int) t) (rd (unitsP p) (u : Int))).2 else us.getD u seen0) ∧ (uFold p t us k).1 = (List.range' 1 (k - 1)).any fun u => (keepsP (us.getD u seen0) (keyI (u : Int) t) (rd (unitsP p) (u : Int))).1
 | 0, _ => ⟨hl, fun u hu => by rw [if_neg (by omega)]; rfl, rfl⟩
 | k + 1, hk => by
  obtain ⟨h1, h2, h3⟩ := uFold_get p t us hl k (by omega)
  rw [uFold_succ]
  unfold uStep
  by_cases h0 : k = 0
  ·subst h0
   rw [if_pos rfl]
   exact ⟨h1, fun u hu => by rw [h2 u hu, if_neg (by omega), if_neg (by omega)], h3⟩
  ·rw [if_neg h0]
   have hk2 := h2 k (by omega)
   rw [if_neg (by omega)] at hk2
   refine ⟨by rw [List.length_set]; exact h1, fun u hu => ?_, ?_⟩
   ·by_cases e : u = k
    ·subst e
     rw [List.getD_eq_getElem?_getD, List.getElem?_set_self (by omega), if_pos ⟨by omega, by omega⟩, hk2]
     rfl
    ·rw [List.getD_eq_getElem?_getD, List.getElem?_set_ne (fun h => e h.symm), ← List.getD_eq_getElem?_getD, h2 u hu]
     by_cases c : 1 ≤ u ∧ u < k
     ·rw [if_pos c, if_pos ⟨c.1, by omega⟩]
     ·rw [if_neg c, if_neg (by omega)]
   ·show ((uFold p t us k).1 || (keepsP ((uFold p t us k).2.getD k seen0) (keyI (k : Int) t) (rd (unitsP p) (k : Int))).1) = _
    rw [h3, hk2]
    have hr : List.range' 1 (k + 1 - 1) = List.range' 1 (k - 1) ++ [k] := by
     rw [show k + 1 - 1 = (k - 1) + 1 from by omega, List.range'_concat]
     congr 1
     simp
     omega
    rw [hr, List.any_append]
    simp
theorem seen_step {l : List S28} (h : OkL l) (p : Pol) {a : List Nat} {i : Nat} (hp : (a ++ [i]).Pairwise (fun u v => cN l u v < 0)) (ha : ∀ s ∈ a, s < l.length) (hi : i < l.length) {us : List Seen} (hs : SeenIs l us a) :
  SeenIs l (uFold p (atS l i).f0 us 6).2 (a ++ [i]) ∧ (uFold p (atS l i).f0 us 6).1 = (List.range' 1 5).any (unitK p l a i) := by
 obtain ⟨h1, h2, h3⟩ := uFold_get p (atS l i).f0 us hs.1 6 (by omega)
 refine ⟨⟨h1, fun u hu1 hu5 => ?_⟩, ?_⟩
 ·rw [h2 u (by omega), if_pos ⟨hu1, by omega⟩]
  have hk := last_key h hp ha hi hs u ⟨hu1, hu5⟩
  obtain ⟨s1, s2, s3⟩ := hs.2 u hu1 hu5
  have hlast : ∀ s, (a ++ [i]).getLast? = some s → s = i := fun s hs => by
   rw [List.getLast?_append] at hs
   simpa using hs.symm
  have hmem : (keyI (u : Int) (atS l i).f0 ∈ [] ++ keysL l u a) ↔ ((keysL l u a).any fun x => x == keyI (u : Int) (atS l i).f0) = true := by
   rw [List.nil_append, List.any_eq_true]
   constructor
   ·intro hm; exact ⟨_, hm, beq_self_eq_true _⟩
   ·rintro ⟨x, hx, e⟩; rw [← beq_iff_eq.1 e]; exact hx
  unfold keepsP
  rw [hk, keysL_snoc, cntF_snoc]
  simp only [hmem]
  cases hq : (keysL l u a).any fun x => x == keyI (u : Int) (atS l i).f0 with
  | true =>
   rw [hq, Bool.and_eq_true] at hk
   simp only [if_true]
   refine ⟨by rw [hk.1, decide_eq_true (by simp)], by rw [s2, Int.add_zero], fun s he => ?_⟩
   rw [hlast s he]
   exact beq_iff_eq.1 hk.2
  | false =>
   simp only [Bool.false_eq_true, if_false]
   refine ⟨by rw [decide_eq_true (by simp)], by rw [s2], fun s he => by rw [hlast s he]⟩
 ·rw [h3]
  have : ∀ u ∈ List.range' 1 5, (keepsP (us.getD u seen0) (keyI (u : Int) (atS l i).f0) (rd (unitsP p) (u : Int))).1 = unitK p l a i u := fun u hu => by
   have hu' := List.mem_range'_1.1 hu
   have hk := last_key h hp ha hi hs u ⟨hu'.1, by omega⟩
   obtain ⟨s1, s2, s3⟩ := hs.2 u hu'.1 (by omega)
   unfold keepsP unitK
   rw [hk]
   cases hq : (keysL l u a).any fun x => x == keyI (u : Int) (atS l i).f0 with
   | true => simp
   | false =>
    simp only [Bool.false_eq_true, if_false, Bool.not_false, Bool.true_and]
    rw [s2, decide_eq_decide]
    omega
  show (List.range' 1 5).any _ = (List.range' 1 5).any _
  rw [Bool.eq_iff_iff, List.any_eq_true, List.any_eq_true]
  constructor
  ·rintro ⟨u, hu, e⟩; exact ⟨u, hu, by rw [← this u hu]; exact e⟩
  ·rintro ⟨u, hu, e⟩; exact ⟨u, hu, by rw [this u hu]; exact e⟩
theorem seen_init (l : List S28) : SeenIs l us0 [] := by
 refine ⟨rfl, fun u h1 h5 => ?_⟩
 have : us0.getD u seen0 = seen0 := by
  unfold us0
  rw [List.getD_eq_getElem?_getD, List.getElem?_replicate, if_pos (by omega)]
  rfl
 rw [this]
 exact ⟨rfl, rfl, fun s hs => by simp at hs⟩
theorem group_seen {l : List S28} (h : OkL l) (p : Pol) {sl : List Nat} (hp : sl.Pairwise (fun u v => cN l u v < 0)) (hb : ∀ s ∈ sl, s < l.length) (ks : List Bool) : ∀ m, m ≤ sl.length → SeenIs l (gFold p l sl ks m).1 (sl.take m)
 | 0, _ => seen_init l
 | m + 1, hm => by
  have ih := group_seen h p hp hb ks m (by omega)
  obtain ⟨i, hi⟩ : ∃ i, sl[m]? = some i := ⟨_, List.getElem?_eq_getElem (by omega)⟩
  have htk : sl.take (m + 1) = sl.take m ++ [i] := by rw [List.take_add_one, hi]; rfl
  rw [gFold_succ, htk]
  have hgd : sl.getD m 0 = i := by rw [List.getD_eq_getElem?_getD, hi]; rfl
  unfold gStep
  rw [hgd]
  exact (seen_step h p (by rw [← htk]; exact hp.sublist (List.take_sublist _ _)) (fun s hs => hb s (List.mem_of_mem_take hs)) (hb i (List.mem_of_getElem? hi)) ih).1
theorem group_bit {l : List S28} (h : OkL l) (p : Pol) {sl : List Nat} (hp : sl.Pairwise (fun u v => cN l u v < 0)) (hb : ∀ s ∈ sl, s < l.length) (ks : List Bool) {m i : Nat} (hi : sl[m]? = some i) :
  (((decide ((m : Int) < p.last) || (uFold p (atS l i).f0 (gFold p l sl ks m).1 6).1) || nearP p l sl (atS l i)) || tagB p (atS l i)) = keptA p l (sl.take m) i := by
 obtain ⟨hm, he⟩ := List.getElem?_eq_some_iff.1 hi
 have htk : sl.take (m + 1) = sl.take m ++ [i] := by rw [List.take_add_one, hi]; rfl
 have hst := (seen_step h p (by rw [← htk]; exact hp.sublist (List.take_sublist _ _)) (fun s hs => hb s (List.mem_of_mem_take hs)) (hb i (List.mem_of_getElem? hi)) (group_seen h p hp hb ks m (by omega))).2
 have hlen : (sl.take m).length = m := by rw [List.length_take]; omega
 have hnew : newestA (sl.take m) i = sl.getD 0 0 := by
  unfold newestA
  rw [List.getD_eq_getElem?_getD, List.getD_eq_getElem?_getD]
  rcases Nat.eq_zero_or_pos m with h0 | h0
  ·subst h0
   rw [hi]
   rfl
  ·rw [List.getElem?_take_of_lt h0, List.getElem?_eq_getElem (by omega)]
   rfl
 unfold keptA nearA nearP
 rw [hst, hlen, hnew]
theorem gstep_get (p : Pol) (l : List S28) (sl : List Nat) (hn : sl.Nodup) (ks : List Bool) (hb : ∀ s ∈ sl, s < ks.length) : ∀ m, m ≤ sl.length → ∀ i, (gFold p l sl ks m).2.getD i false = if i ∈ sl.take m then (ks.getD i false || (((decide (((sl.idxOf i : Nat) : Int) < p.last) || (uFold p (atS l i).f0 (gFold p l sl ks (sl.idxOf i)).1 6).1) || nearP p l sl (atS l i)) || tagB p (atS l i))) else ks.getD i false
 | 0, _, i => by rw [List.take_zero, if_neg (by simp)]; rfl
 | m + 1, hm, i => by
  have ih := gstep_get p l sl hn ks hb m (by omega)
  have hlk := (gFold_ok p l sl ks m).2
  obtain ⟨s, hs⟩ : ∃ s, sl[m]? = some s := ⟨_, List.getElem?_eq_getElem (by omega)⟩
  have htk : sl.take (m + 1) = sl.take m ++ [s] := by rw [List.take_add_one, hs]; rfl
  have hgd : sl.getD m 0 = s := by rw [List.getD_eq_getElem?_getD, hs]; rfl
  have hsm := List.mem_of_getElem? hs
  have hsb := hb s hsm
  have hidx : sl.idxOf s = m := by
   obtain ⟨hml, he⟩ := List.getElem?_eq_some_iff.1 hs
   have h1 : sl.idxOf s < sl.length := List.idxOf_lt_length_iff.2 hsm
   have h2 : sl[sl.idxOf s]? = some s := by rw [List.getElem?_eq_getElem h1, List.getElem_idxOf h1]
   exact (List.getElem?_inj h1 hn).1 (h2.trans hs.symm)
  have hnt : s ∉ sl.take m := by
   intro hmem
   obtain ⟨t, ht, he⟩ := List.getElem_of_mem hmem
   rw [List.length_take] at ht
   rw [List.getElem_take] at he
   have h2 : sl[t]? = some s := by rw [List.getElem?_eq_getElem (by omega), he]
   have := (List.getElem?_inj (by omega) hn).1 (h2.trans hs.symm)
   omega
  rw [gFold_succ, htk]
  unfold gStep
  rw [hgd]
  by_cases e : i = s
  ·subst e
   rw [List.getD_eq_getElem?_getD, List.getElem?_set_self (by rw [hlk]; exact hsb), if_pos (by simp), hidx]
   show ((gFold p l sl ks m).2.getD i false || _) = _
   rw [ih i, if_neg hnt]
  ·rw [List.getD_eq_getElem?_getD, List.getElem?_set_ne (fun h => e h.symm), ← List.getD_eq_getElem?_getD, ih i]
   by_cases c : i ∈ sl.take m
   ·rw [if_pos c, if_pos (List.mem_append_left _ c)]
   ·rw [if_neg c, if_neg (fun h => by
     rcases List.mem_append.1 h with h | h
     ·exact c h
     ·exact e (List.mem_singleton.1 h))]
theorem pw_nodup {l : List S28} {sl : List Nat} (hp : sl.Pairwise (fun u v => cN l u v < 0)) : sl.Nodup := hp.imp (fun {a b} h e => by
 subst e
 have := (tc_N l).same a
 omega)
theorem step_get {l : List S28} (h : OkL l) (p : Pol) {sl : List Nat} (hp : sl.Pairwise (fun u v => cN l u v < 0)) (hb : ∀ s ∈ sl, s < l.length) (ks : List Bool) (hk : ks.length = l.length) (i : Nat) :
  (stepK p l ks sl).getD i false = if i ∈ sl then (ks.getD i false || keptA p l (sl.take (sl.idxOf i)) i) else ks.getD i false := by
 unfold stepK
 have hn := pw_nodup hp
 have h1 := gstep_get p l sl hn ks (fun s hs => by rw [hk]; exact hb s hs) sl.length (Nat.le_refl _) i
 rw [List.take_length] at h1
 rw [h1]
 by_cases c : i ∈ sl
 ·rw [if_pos c, if_pos c]
  have h2 : sl.idxOf i < sl.length := List.idxOf_lt_length_iff.2 c
  have h3 : sl[sl.idxOf i]? = some i := by rw [List.getElem?_eq_getElem h2, List.getElem_idxOf h2]
  rw [group_bit h p hp hb ks h3]
 ·rw [if_neg c, if_neg c]
theorem fold_notin {l : List S28} (h : OkL l) (p : Pol) (i : Nat) : ∀ (sls : List (List Nat)) (ks : List Bool), ks.length = l.length → (∀ sl ∈ sls, sl.Pairwise (fun u v => cN l u v < 0) ∧ ∀ s ∈ sl, s < l.length) → (∀ sl ∈ sls, i ∉ sl) → (sls.foldl (stepK p l) ks).getD i false = ks.getD i false
 | [], _, _, _, _ => rfl
 | sl :: r, ks, hk, ha, hn => by
  rw [List.foldl_cons, fold_notin h p i r _ (by rw [stepK_len]; exact hk) (fun x hx => ha x (List.mem_cons_of_mem _ hx)) (fun x hx => hn x (List.mem_cons_of_mem _ hx))]
  rw [step_get h p (ha sl List.mem_cons_self).1 (ha sl List.mem_cons_self).2 ks hk i, if_neg (hn sl List.mem_cons_self)]
theorem fold_at {l : List S28} (h : OkL l) (p : Pol) (i : Nat) (sls : List (List Nat)) (ks : List Bool) (hk : ks.length = l.length) (ha : ∀ sl ∈ sls, sl.Pairwise (fun u v => cN l u v < 0) ∧ ∀ s ∈ sl, s < l.length) (j : Nat) (sl : List Nat) (hj : sls[j]? = some sl) (hi : i ∈ sl) (hn : ∀ j' sl', j' ≠ j → sls[j']? = some sl' → i ∉ sl') :
  (sls.foldl (stepK p l) ks).getD i false = (ks.getD i false || keptA p l (sl.take (sl.idxOf i)) i) := by
 obtain ⟨hjl, he⟩ := List.getElem?_eq_some_iff.1 hj
 have hsplit : sls = sls.take j ++ sl :: sls.drop (j + 1) := by
  conv => lhs; rw [← List.take_append_drop j sls, List.drop_eq_getElem_cons hjl, he]
 have hpre : ∀ x ∈ sls.take j, i ∉ x := fun x hx => by
  obtain ⟨t, ht, rfl⟩ := List.getElem_of_mem hx
  rw [List.length_take] at ht
  rw [List.getElem_take]
  exact hn t _ (by omega) (List.getElem?_eq_getElem (by omega))
 have hpost : ∀ x ∈ sls.drop (j + 1), i ∉ x := fun x hx => by
  obtain ⟨t, ht, rfl⟩ := List.getElem_of_mem hx
  rw [List.length_drop] at ht
  rw [List.getElem_drop]
  exact hn (j + 1 + t) _ (by omega) (List.getElem?_eq_getElem (by omega))
 rw [hsplit, List.foldl_append, List.foldl_cons]
 have hsl := ha sl (List.mem_of_getElem? hj)
 rw [fold_notin h p i _ _ (by rw [stepK_len, foldK_len]; exact hk) (fun x hx => ha x (List.mem_of_mem_drop hx)) hpost]
 rw [step_get h p hsl.1 hsl.2 _ (by rw [foldK_len]; exact hk) i, if_pos hi]
 rw [fold_notin h p i _ _ hk (fun x hx => ha x (List.mem_of_mem_take hx)) hpre]
theorem kept_same (p : Pol) (l : List S28) (h : OkL l) (sls : List (List Nat)) (hs : SortsOf l sls) (ks : List Bool) (hk : KeptRef p l ks l.length) (i : Nat) (hi : i < l.length) : (appK p l sls).getD i false = ks.getD i false := by
 obtain ⟨a, ha, hka⟩ := hk.2 i hi
 rw [hka]
 unfold appK
 by_cases hsil : silentP p = true
 ·rw [if_pos hsil, hsil, Bool.true_or, List.getD_eq_getElem?_getD, List.getElem?_replicate, if_pos hi]
  rfl
 ·rw [if_neg hsil]
  have hsf : silentP p = false := by cases hq : silentP p with
   | true => exact absurd hq hsil
   | false => rfl
  rw [hsf, Bool.false_or]
  have hord : gkey l i ∈ ordK l l.length := (ordK_mem l _ _).2 ⟨i, hi, rfl⟩
  obtain ⟨j, hj, hje⟩ := List.getElem_of_mem hord
  have hj1 : (ordK l l.length)[j]? = some (gkey l i) := by rw [List.getElem?_eq_getElem hj, hje]
  obtain ⟨sl, hsl⟩ : ∃ sl, sls[j]? = some sl := ⟨_, List.getElem?_eq_getElem (by rw [hs.1]; exact hj)⟩
  have hmem : ∀ (j' : Nat) (s : ByteArray) (sl' : List Nat), (ordK l l.length)[j']? = some s → sls[j']? = some sl' → ∀ k, k ∈ sl' ↔ k < l.length ∧ gkey l k = s := fun j' s sl' h1 h2 k => by
   rw [(hs.2 j' s sl' h1 h2).1.mem_iff, posG_mem]
   constructor
   ·rintro ⟨a1, a2⟩; exact ⟨a1, data_inj a2⟩
   ·rintro ⟨a1, a2⟩; exact ⟨a1, by rw [a2]⟩
  have hall : ∀ x ∈ sls, x.Pairwise (fun u v => cN l u v < 0) ∧ ∀ s ∈ x, s < l.length := fun x hx => by
   obtain ⟨t, ht, he⟩ := List.getElem_of_mem hx
   have h1 : sls[t]? = some x := by rw [List.getElem?_eq_getElem ht, he]
   have ht2 : t < (ordK l l.length).length := by rw [← hs.1]; exact ht
   have h2 : (ordK l l.length)[t]? = some (ordK l l.length)[t] := List.getElem?_eq_getElem ht2
   exact ⟨(hs.2 t _ x h2 h1).2, fun s hs' => ((hmem t _ x h2 h1 s).1 hs').1⟩
  have hisl : i ∈ sl := (hmem j _ sl hj1 hsl i).2 ⟨hi, rfl⟩
  have hne : ∀ (j' : Nat) (sl' : List Nat), j' ≠ j → sls[j']? = some sl' → i ∉ sl' := fun j' sl' hne h1 hm => by
   have ht2 : j' < (ordK l l.length).length := by rw [← hs.1]; exact (List.getElem?_eq_some_iff.1 h1).1
   have h2 : (ordK l l.length)[j']? = some (ordK l l.length)[j'] := List.getElem?_eq_getElem ht2
   have h3 := ((hmem j' _ sl' h2 h1 i).1 hm).2
   have h4 : (ordK l l.length)[j']? = (ordK l l.length)[j]? := by rw [h2, hj1, h3]
   exact hne ((List.getElem?_inj ht2 (ordK_nodup l _)).1 h4)
  have hf := fold_at h p i sls (List.replicate l.length false) (by simp) hall j sl hsl hisl hne
  have hfk : grpK p l sls = sls.foldl (stepK p l) (List.replicate l.length false) := rfl
  rw [hfk, hf]
  have hr : (List.replicate l.length false).getD i false = false := by rw [List.getD_eq_getElem?_getD, List.getElem?_replicate, if_pos hi]; rfl
  rw [hr, Bool.false_or]
  have hpw := (hall sl (List.mem_of_getElem? hsl)).1
  have h2 : sl.idxOf i < sl.length := List.idxOf_lt_length_iff.2 hisl
  have h3 : sl[sl.idxOf i]? = some i := by rw [List.getElem?_eq_getElem h2, List.getElem_idxOf h2]
  rw [ahead_take hpw h3 (hmem j _ sl hj1 hsl) ha]
theorem plan_same (p : Pol) (ids : List ByteArray) (l : List S28) (hI : InL l) (htag : p.tags.length ≤ 1000) (hts : ∀ s ∈ p.tags, (s.size : Int) < 9223372036854775808) (out : List ByteArray) (h : PlanL p ids l out) :
  Ev (fun k => r28_Plan.f k p.last p.hour p.day p.week p.month p.year p.within p.tags ids l) (out, planC p ids l) := by
 obtain ⟨out', hev, h1, h2⟩ := rplan p ids l hI htag hts
 by_cases hc : planC p ids l = 0
 ·obtain ⟨hals, ks, hk, ho⟩ := h2 hc
  obtain ⟨sls, hs, ho2⟩ := h.2 hc
  have he : forL (appK p l sls) l.length = forL ks l.length := by
   unfold forL
   refine List.filter_congr fun i hi => ?_
   rw [kept_same p l (okl_of hI hals) sls hs ks hk i (List.mem_range.1 hi)]
  rw [ho2, he, ← ho]
  exact hev
 ·rw [h.1 hc, ← h1 hc]
  exact hev
end Go.Proofs.YtpdkgpmcmebefaaGreatDoor.Q
