/- Of the proofs about sweep: several texts, joined. -/
import Derived.Test.YtoiedcnhojkpiaaMK
import Derived.Test.YtoiedcnhojkpiaaML
import Derived.Test.YtoiedcnhojkpiaaMA
namespace Go.Proofs.Ytoiedcnhojkpiaa.Q
open Go.RowKit Go.Maps Go.Proofs.YtoiedcnhojkpiaaW.PrintWords Go.Proofs.YtoiedcnhojkpiaaW.PrintLast Go.Proofs.YtoiedcnhojkpiaaW.PrintMore
theorem bk_cmp {a b : ByteArray} (ha : a.size = 32) (hb : b.size = 32) (h : bk a < bk b) : cmpS a b < 0 := by
  have key : ∀ s : ByteArray, s.size = 32 → ∃ c r, s.toList = c :: r ∧ bk s = c.toNat := by
    intro s hs
    have h0 : 0 < s.data.toList.length := by rw [Array.length_toList]; have : s.data.size = s.size := rfl; omega
    refine ⟨s.data.toList[0], s.data.toList.drop 1, ?_, ?_⟩
    · rw [toList_data]
      have := List.drop_eq_getElem_cons h0
      rwa [List.drop_zero] at this
    · have hb := bt_at s 0 (by show (0 : Int).toNat < s.size; rw [hs]; decide)
      unfold bk
      rw [← hb]
      rfl
  obtain ⟨c, r, h1, h2⟩ := key a ha
  obtain ⟨d, q, h3, h4⟩ := key b hb
  have hcd : c < d := by rw [h2, h4] at h; exact UInt8.lt_iff_toNat_lt.2 h
  have hl : Op.bytesLess a.toList b.toList = true := by rw [h1, h3]; simp [Op.bytesLess, hcd]
  unfold cmpS
  rw [if_pos hl]
  decide
theorem allF_sorted {F : Nat → List S52} (hG : GoodF F) : Sorted (allF F) := by
  unfold Sorted allF
  rw [List.pairwise_flatten]
  constructor
  · intro l hl
    obtain ⟨j, _, rfl⟩ := List.mem_map.1 hl
    exact (hG j).1
  · rw [List.pairwise_map]
    refine List.pairwise_lt_range.imp ?_
    intro i j hij x hx y hy
    have h1 := (hG i).2 x hx
    have h2 := (hG j).2 y hy
    exact ordS_of_id (bk_cmp (size32 h1.2).1 (size32 h2.2).1 (by rw [h1.1, h2.1]; exact hij))
theorem sorted_eq : ∀ {l r : List S52}, Sorted l → Sorted r → (∀ s, s ∈ l ↔ s ∈ r) → l = r
  | [], [], _, _, _ => rfl
  | [], b :: r, _, _, h => by have := (h b).2 (by simp); simp at this
  | a :: l, [], _, _, h => by have := (h a).1 (by simp); simp at this
  | a :: l, b :: r, hl, hr, h => by
    obtain ⟨h1, h2⟩ := List.pairwise_cons.1 hl
    obtain ⟨h3, h4⟩ := List.pairwise_cons.1 hr
    have nl : ∀ {x y : S52}, ordS x y < 0 → ordS y x < 0 → False := fun {x y} hx hy => ordS_irrefl x (ordS_trans hx hy)
    have hab : a = b := by
      rcases List.mem_cons.1 ((h a).1 (by simp)) with e | e
      · exact e
      · rcases List.mem_cons.1 ((h b).2 (by simp)) with e' | e'
        · exact e'.symm
        · exact (nl (h3 _ e) (h1 _ e')).elim
    subst hab
    congr 1
    refine sorted_eq h2 h4 fun s => ?_
    have hs := h s
    simp only [List.mem_cons] at hs
    constructor
    · intro hm
      rcases hs.1 (.inr hm) with e | e
      · subst e
        exact (nl (h1 _ hm) (h1 _ hm)).elim
      · exact e
    · intro hm
      rcases hs.2 (.inr hm) with e | e
      · subst e
        exact (nl (h3 _ hm) (h3 _ hm)).elim
      · exact e
theorem addF_mem : ∀ (l : List S52) (F : Nat → List S52) (j : Nat) (y : S52), y ∈ addF F l j ↔ y ∈ F j ∨ (y ∈ l ∧ bk y.f0 = j)
  | [], F, j, y => by simp [addF]
  | a :: l, F, j, y => by
    have h := addF_mem l (upF F a) j y
    unfold addF at h ⊢
    rw [List.foldl_cons, h]
    unfold upF
    by_cases hj : j = bk a.f0
    · rw [if_pos hj, putS_mem]
      constructor
      · rintro ((h1 | rfl) | ⟨h1, h2⟩)
        · exact .inl h1
        · exact .inr ⟨by simp, hj.symm⟩
        · exact .inr ⟨by simp [h1], h2⟩
      · rintro (h1 | ⟨h1, h2⟩)
        · exact .inl (.inl h1)
        · rcases List.mem_cons.1 h1 with e | e
          · exact .inl (.inr e)
          · exact .inr ⟨e, h2⟩
    · rw [if_neg hj]
      constructor
      · rintro (h1 | ⟨h1, h2⟩)
        · exact .inl h1
        · exact .inr ⟨by simp [h1], h2⟩
      · rintro (h1 | ⟨h1, h2⟩)
        · exact .inl h1
        · rcases List.mem_cons.1 h1 with e | e
          · exact (hj (by rw [← h2, e])).elim
          · exact .inr ⟨e, h2⟩
def F0 : Nat → List S52 := fun _ => []
theorem F0_good : GoodF F0 := fun _ => ⟨List.Pairwise.nil, fun x hx => by simp [F0] at hx⟩
theorem allF_F0 : allF F0 = [] := by
  refine List.eq_nil_iff_forall_not_mem.2 fun x hx => ?_
  obtain ⟨j, _, h⟩ := (allF_mem F0 x).1 hx
  simp [F0] at h
/-- What the table holds, one list behind the other, is the reference's list. -/
theorem allF_putL (l : List S52) (h : ∀ x ∈ l, chk x = true) : allF (addF F0 l) = putL [] l := by
  refine sorted_eq (allF_sorted (F0_good.add l h)) (putL_sorted l [] List.Pairwise.nil) fun s => ?_
  rw [allF_mem, putL_mem]
  constructor
  · rintro ⟨j, _, hs⟩
    rcases (addF_mem l F0 j s).1 hs with h1 | ⟨h1, _⟩
    · simp [F0] at h1
    · exact .inr h1
  · rintro (h1 | h1)
    · simp at h1
    · exact ⟨bk s.f0, bk_lt _, (addF_mem l F0 _ s).2 (.inr ⟨h1, rfl⟩)⟩
theorem flat_one {α : Type} (f : Nat → List α) (k : Nat) (h : ∀ j, j ≠ k → f j = []) : ∀ n, ((List.range n).map f).flatten = if k < n then f k else []
  | 0 => by simp
  | n + 1 => by
    rw [List.range_succ, List.map_append, List.flatten_append, flat_one f k h n]
    simp only [List.map_cons, List.map_nil, List.flatten_cons, List.flatten_nil, List.append_nil]
    by_cases hk : k < n
    · rw [if_pos hk, if_pos (by omega), h n (by omega), List.append_nil]
    · rw [if_neg hk, List.nil_append]
      by_cases e : n = k
      · subst e; rw [if_pos (by omega)]
      · rw [if_neg (by omega), h n e]
theorem places_all {F : Nat → List S52} (hG : GoodF F) (id : ByteArray) : places (F (bk id)) id = places (allF F) id := by
  unfold places allF
  rw [List.filter_flatten, List.map_map]
  have h := flat_one (fun j => (F j).filter fun y => decide (y.f0 = id)) (bk id) (fun j hj => List.filter_eq_nil_iff.2 fun x hx => by
    have := ((hG j).2 x hx).1
    simp only [decide_eq_true_eq]
    intro e
    exact hj (by rw [← this, e])) 256
  rw [if_pos (bk_lt _)] at h
  rw [← h]
  rfl
theorem getP_all {F : Nat → List S52} (hG : GoodF F) (id : ByteArray) : getP (F (bk id)) id = getP (allF F) id := by unfold getP; rw [places_all hG]
theorem wOf_all {F : Nat → List S52} (hG : GoodF F) (reach : List UInt8 → Bool) (s : ByteArray) : ∀ (l : List S52) (f : List UInt8 → Int × Int), (l.foldl (wStep F reach) f) s.data.toList = l.foldl (rStep (allF F) reach s) (f s.data.toList)
  | [], _ => rfl
  | x :: l, f => by
    rw [List.foldl_cons, List.foldl_cons, wOf_all hG reach s l]
    congr 1
    have hlive : live (F (bk x.f0)) reach x = live (allF F) reach x := by unfold live; rw [getP_all hG]
    unfold wStep rStep
    rw [hlive]
    by_cases e : x.f1.f0 = s
    · rw [if_pos (by rw [e]), if_pos e, e]
      split
      · rfl
      · simp
    · rw [if_neg (fun h => e (eq_of_data h.symm)), if_neg e]
theorem fate_congr {f g : List UInt8 → Int × Int} (h : ∀ s : ByteArray, f s.data.toList = g s.data.toList) (percent : Int) (n : Nat) (l : List ByteArray) : fated f percent n l = fated g percent n l := by
  unfold fated
  congr 1
  funext s
  unfold fate
  rw [h]
theorem fated_all {F : Nat → List S52} (hG : GoodF F) (reach : List UInt8 → Bool) (percent : Int) (n : Nat) (l : List ByteArray) : fated (wOf F reach (allF F)) percent n l = fated (rF (allF F) reach) percent n l :=
  fate_congr (fun s => by unfold wOf; rw [wOf_all hG, rF_of]; rfl) _ _ _
theorem stayP_false (kept : List UInt8 → Bool) : ∀ l, stayP false kept l = firstK kept l
  | [] => rfl
  | p :: ps => by
    unfold stayP firstK
    rw [stayP_false kept ps]
    simp
theorem stay_same (r : Bool) (kept : List UInt8 → Bool) (l : List S50) : (stayP r kept l).2 = (rstayQ r kept l).2 ∧ ((stayP r kept l).2 = true → (stayP r kept l).1 = (rstayQ r kept l).1) := by
  cases l with
  | nil => exact ⟨rfl, fun _ => rfl⟩
  | cons p ps =>
    cases r with
    | false => rw [stayP_false]; exact ⟨rfl, fun _ => rfl⟩
    | true =>
      unfold stayP rstayQ rstayP
      by_cases hk : kept p.f0.data.toList = true
      · simp [hk]
      · simp [hk]
theorem stayL_all {F : Nat → List S52} (hG : GoodF F) (reach kept : List UInt8 → Bool) (ids : List ByteArray) : stayL F reach kept ids = rstayL (allF F) reach kept ids := by
  unfold stayL rstayL
  congr 1
  funext id
  rw [places_all hG]
  obtain ⟨h1, h2⟩ := stay_same (reach id.data.toList) kept (places (allF F) id)
  by_cases hs : (stayP (reach id.data.toList) kept (places (allF F) id)).2 = true
  · rw [if_pos hs, if_pos (by rw [← h1]; exact hs), h2 hs]
  · rw [if_neg hs, if_neg (by rw [← h1]; exact hs)]
theorem moveL_all {F : Nat → List S52} (hG : GoodF F) (reach moved : List UInt8 → Bool) (ids : List ByteArray) : moveL F reach moved ids = rmoveL (allF F) reach moved ids := by
  unfold moveL rmoveL
  congr 1
  funext id
  rw [getP_all hG]
end Go.Proofs.Ytoiedcnhojkpiaa.Q
-- Made by wip/qprint.sh (a patched copy of the kit's print program) out of the translation. Lean checks it.
namespace Go.Proofs.Ytoiedcnhojkpiaa.Q
open Go.RowKit Go.Proofs.YtoiedcnhojkpiaaW.PrintWords Go.Proofs.YtoiedcnhojkpiaaW.PrintLast Go.Proofs.YtoiedcnhojkpiaaW.PrintMore
attribute [local go_sem] max2_int min2_int max_two min_two max_three min_three max_four min_four   -- for this text's walks alone
set_option linter.unusedVariables false
set_option linter.unusedSimpArgs false

/-! ### garretbook_SameTexts: function 13 -/
def garretbook_SameTexts.l0 : Nat → List ByteArray → List ByteArray → Int → Option (Bool)
  | 0, _, _, _ => none
  | k + 1, x0, x1, x5 => if x5 < (x0.length : Int) then (if 0 ≤ x5 then (if x5 < (x1.length : Int) then (if (rdOf ByteArray.empty x0 x5).toList = (rdOf ByteArray.empty x1 x5).toList then (garretbook_SameTexts.l0 k x0 x1 (wrap64 (x5 + 1))) else (some false)) else (none)) else (none)) else (some true)
def garretbook_SameTexts.f (k : Nat) (l0 : List ByteArray) (l1 : List ByteArray) : Option (Bool) := if (l0.length : Int) = (l1.length : Int) then (garretbook_SameTexts.l0 k l0 l1 0) else (some false)
theorem garretbook_SameTexts.mono_l : ∀ k, (∀ y0 y1 y2, LeO (garretbook_SameTexts.l0 k y0 y1 y2) (garretbook_SameTexts.l0 (k + 1) y0 y1 y2))
  | 0 => fun _ _ _ r h => by simp [garretbook_SameTexts.l0] at h
  | k + 1 => by
    have ih0 := garretbook_SameTexts.mono_l k
    · intro y0 y1 y2
      unfold garretbook_SameTexts.l0
      repeat' first
      | (with_reducible exact ih0 _ _ _)
      | (with_reducible exact LeO.refl _)
      | (with_reducible exact LeO.none _)
      | (with_reducible refine LeO.ite ?_ ?_)
      | (with_reducible refine LeO.bind ?_ (fun _ => ?_))
      | exact ih0 _ _ _
      | exact LeO.none _
      | refine LeO.ite ?_ ?_
      | refine LeO.bind ?_ (fun _ => ?_)
theorem garretbook_SameTexts.mono : ∀ a0 a1 k, LeO (garretbook_SameTexts.f k a0 a1) (garretbook_SameTexts.f (k + 1) a0 a1) := by
  intro a0 a1 k
  have ih0 := garretbook_SameTexts.mono_l k
  unfold garretbook_SameTexts.f
  repeat' first
      | (with_reducible exact ih0 _ _ _)
      | (with_reducible exact LeO.refl _)
      | (with_reducible exact LeO.none _)
      | (with_reducible refine LeO.ite ?_ ?_)
      | (with_reducible refine LeO.bind ?_ (fun _ => ?_))
      | exact ih0 _ _ _
      | exact LeO.none _
      | refine LeO.ite ?_ ?_
      | refine LeO.bind ?_ (fun _ => ?_)
set_option maxHeartbeats 8000000 in
set_option maxRecDepth 100000 in
theorem garretbook_SameTexts.calls (k : Nat) (A0 : Option Addr) (c0 : Nat) (l0 : List ByteArray) (A1 : Option Addr) (c1 : Nat) (l1 : List ByteArray) (r : Bool) (w : World) (hr0 : Kd.C Kd.string w A0 l0.length l0) (hc0 : l0.length ≤ c0) (hr1 : Kd.C Kd.string w A1 l1.length l1) (hc1 : l1.length ≤ c1) (h : garretbook_SameTexts.f k l0 l1 = some r) :
    Calls Try.prog 13 #[.slice A0 l0.length c0, .slice A1 l1.length c1] w fun e w' => e = .returned (.bool r) ∧ Drawn0 w w' := by
  have HR0 := Aside0.mk hr0
  have HC0 := Aside0.mk hc0
  clear hr0 hc0
  have HR1 := Aside0.mk hr1
  have HC1 := Aside0.mk hc1
  clear hr1 hc1
  have H : (if (l0.length : Int) = (l1.length : Int) then (garretbook_SameTexts.l0 k l0 l1 0) else (some false)) = some r := h
  clear h
  by_cases c3 : (l0.length : Int) = (l1.length : Int)
  · rw [if_pos c3] at H
    have c3b0 : ((l0.length : Int) == (l1.length : Int)) = true := beq_iff_eq.mpr c3
    have c3b1 : ((l0.length : Int) != (l1.length : Int)) = false := bne_eq_false_iff_eq.mpr c3
    have c3b2 : (l0.length == l1.length) = true := by first | simpa using c3 | (simp at c3 ⊢; omega)
    clear c3
    have H' := Aside0.mk H
    clear H
    go_enter Try.func13, Try.ntmps13
    go_wp2
    repeat (go_quiet (fail); try go_wp2)
    go_loopg [5] k (fun kq v5 w' => ∃ (x5_1 : Int), v5 = .int .i64 x5_1 ∧ Aside0 (garretbook_SameTexts.l0 kq l0 l1 x5_1 = some r) ∧ Aside0 (kq ≤ k) ∧ Drawn0 w w')
    case atStart => exact ⟨(0), (by first | rfl | (simp; done) | (simp [*]; done)), H', ⟨Nat.le_refl _⟩, by repeat (first | exact Drawn0.refl _ | apply Drawn0.step)⟩
    case round =>
      clear H'
      try clear c1
      try clear p2
      try clear c3
      try clear c3b0
      try clear c3b1
      try clear c3b2
      obtain ⟨x5_1, rfl, HA, HK1, ⟨m1, rfl⟩⟩ := hrel
      cases gk with
      | zero => exact absurd HA.out (by simp [garretbook_SameTexts.l0])
      | succ k1 =>
        have H := HA.out
        clear HA
        simp only [garretbook_SameTexts.l0] at H
        by_cases c4 : x5_1 < (l0.length : Int)
        · rw [if_pos c4] at H
          have c4b0 : decide (x5_1 < (l0.length : Int)) = true := decide_eq_true c4
          clear c4
          by_cases c5 : 0 ≤ x5_1
          · rw [if_pos c5] at H
            have c5b0 : decide (0 ≤ x5_1) = true := decide_eq_true c5
            clear c5
            by_cases c6 : x5_1 < (l1.length : Int)
            · rw [if_pos c6] at H
              have c6b0 : decide (x5_1 < (l1.length : Int)) = true := decide_eq_true c6
              clear c6
              by_cases c7 : (rdOf ByteArray.empty l0 x5_1).toList = (rdOf ByteArray.empty l1 x5_1).toList
              · rw [if_pos c7] at H
                have c7b0 : ((rdOf ByteArray.empty l0 x5_1).toList == (rdOf ByteArray.empty l1 x5_1).toList) = true := beq_iff_eq.mpr c7
                have c7b1 : ((rdOf ByteArray.empty l0 x5_1).toList != (rdOf ByteArray.empty l1 x5_1).toList) = false := bne_eq_false_iff_eq.mpr c7
                clear c7
                have H' := Aside0.mk H
                clear H
                have p272 : 0 ≤ (x5_1 : Int) := of_decide_eq_true (by first | (with_reducible assumption) | assumption)
                have q272 : x5_1 < (l0.length : Int) := of_decide_eq_true (by first | (with_reducible assumption) | assumption)
                obtain ⟨ad272, e272, hx272_0⟩ := Kd.at_string HR0.out x5_1 p272 q272
                cases e272
                replace p272 := eq_true p272
                replace q272 := eq_true q272
                have p273 : 0 ≤ (x5_1 : Int) := of_decide_eq_true (by first | (with_reducible assumption) | assumption)
                have q273 : x5_1 < (l1.length : Int) := of_decide_eq_true (by first | (with_reducible assumption) | assumption)
                obtain ⟨ad273, e273, hx273_0⟩ := Kd.at_string HR1.out x5_1 p273 q273
                cases e273
                replace p273 := eq_true p273
                replace q273 := eq_true q273
                go_wp2
                repeat (go_quiet (fail); try go_wp2)
                go_roundg k1
                case measure => have := HK1.out; omega
                case rel => exact ⟨(wrap64 (x5_1 + 1)), (by first | rfl | (simp; done) | (simp [*]; done)), H', ⟨by have := HK1.out; omega⟩, by repeat (first | exact Drawn0.refl _ | apply Drawn0.step)⟩
              · rw [if_neg c7] at H
                have c7b0 : ((rdOf ByteArray.empty l0 x5_1).toList == (rdOf ByteArray.empty l1 x5_1).toList) = false := beq_eq_false_iff_ne.mpr c7
                have c7b1 : ((rdOf ByteArray.empty l0 x5_1).toList != (rdOf ByteArray.empty l1 x5_1).toList) = true := bne_iff_ne.mpr c7
                obtain rfl := Option.some.inj H
                have p272 : 0 ≤ (x5_1 : Int) := of_decide_eq_true (by first | (with_reducible assumption) | assumption)
                have q272 : x5_1 < (l0.length : Int) := of_decide_eq_true (by first | (with_reducible assumption) | assumption)
                obtain ⟨ad272, e272, hx272_0⟩ := Kd.at_string HR0.out x5_1 p272 q272
                cases e272
                replace p272 := eq_true p272
                replace q272 := eq_true q272
                have p273 : 0 ≤ (x5_1 : Int) := of_decide_eq_true (by first | (with_reducible assumption) | assumption)
                have q273 : x5_1 < (l1.length : Int) := of_decide_eq_true (by first | (with_reducible assumption) | assumption)
                obtain ⟨ad273, e273, hx273_0⟩ := Kd.at_string HR1.out x5_1 p273 q273
                cases e273
                replace p273 := eq_true p273
                replace q273 := eq_true q273
                go_wp2
                repeat (go_quiet (fail); try go_wp2)
                go_ret
                exact ⟨by first | rfl | (simp; done) | (simp [*]; done), by repeat (first | exact Drawn0.refl _ | apply Drawn0.step)⟩
            · rw [if_neg c6] at H
              exact absurd H (by simp)
          · rw [if_neg c5] at H
            exact absurd H (by simp)
        · rw [if_neg c4] at H
          have c4b0 : decide (x5_1 < (l0.length : Int)) = false := decide_eq_false c4
          clear c4
          obtain rfl := Option.some.inj H
          go_wp2
          repeat (go_quiet (fail); try go_wp2)
          go_ret
          exact ⟨by first | rfl | (simp; done) | (simp [*]; done), by repeat (first | exact Drawn0.refl _ | apply Drawn0.step)⟩
  · rw [if_neg c3] at H
    have c3b0 : ((l0.length : Int) == (l1.length : Int)) = false := beq_eq_false_iff_ne.mpr c3
    have c3b1 : ((l0.length : Int) != (l1.length : Int)) = true := bne_iff_ne.mpr c3
    have c3b2 : (l0.length == l1.length) = false := by first | simpa using c3 | (simp at c3 ⊢; omega)
    obtain rfl := Option.some.inj H
    go_enter Try.func13, Try.ntmps13
    go_wp2
    repeat (go_quiet (fail); try go_wp2)
    go_ret
    exact ⟨by first | rfl | (simp; done) | (simp [*]; done), by repeat (first | exact Drawn0.refl _ | apply Drawn0.step)⟩

end Go.Proofs.Ytoiedcnhojkpiaa.Q
-- Made by wip/qprint.sh (a patched copy of the kit's print program) out of the translation. Lean checks it.
namespace Go.Proofs.Ytoiedcnhojkpiaa.Q
open Go.RowKit Go.Proofs.YtoiedcnhojkpiaaW.PrintWords Go.Proofs.YtoiedcnhojkpiaaW.PrintLast Go.Proofs.YtoiedcnhojkpiaaW.PrintMore
attribute [local go_sem] max2_int min2_int max_two min_two max_three min_three max_four min_four   -- for this text's walks alone
set_option linter.unusedVariables false
set_option linter.unusedSimpArgs false

attribute [local go_sem high] eqA52
/-! ### garretlaw29_sameItems: function 14 -/
def garretlaw29_sameItems.l0 : Nat → List (S52) → List (S52) → Int → Option (Bool)
  | 0, _, _, _ => none
  | k + 1, x0, x1, x5 => if x5 < (x0.length : Int) then (if 0 ≤ x5 then (if x5 < (x1.length : Int) then (if (!((((rd_T52 x0 x5).f0).toList) == (((rd_T52 x1 x5).f0).toList)) || ((!((((rd_T52 x0 x5).f1.f0).toList) == (((rd_T52 x1 x5).f1.f0).toList)) || (!(((rd_T52 x0 x5).f1.f1) == ((rd_T52 x1 x5).f1.f1)) || (!(((rd_T52 x0 x5).f1.f2) == ((rd_T52 x1 x5).f1.f2)) || (!(((rd_T52 x0 x5).f1.f3) == ((rd_T52 x1 x5).f1.f3)) || (!(((rd_T52 x0 x5).f1.f4) == ((rd_T52 x1 x5).f1.f4))))))))) = true then (some false) else (garretlaw29_sameItems.l0 k x0 x1 (wrap64 (x5 + 1)))) else (none)) else (none)) else (some true)
def garretlaw29_sameItems.f (k : Nat) (l0 : List (S52)) (l1 : List (S52)) : Option (Bool) := if (l0.length : Int) = (l1.length : Int) then (garretlaw29_sameItems.l0 k l0 l1 0) else (some false)
theorem garretlaw29_sameItems.mono_l : ∀ k, (∀ y0 y1 y2, LeO (garretlaw29_sameItems.l0 k y0 y1 y2) (garretlaw29_sameItems.l0 (k + 1) y0 y1 y2))
  | 0 => fun _ _ _ r h => by simp [garretlaw29_sameItems.l0] at h
  | k + 1 => by
    have ih0 := garretlaw29_sameItems.mono_l k
    · intro y0 y1 y2
      unfold garretlaw29_sameItems.l0
      repeat' first
      | (with_reducible exact ih0 _ _ _)
      | (with_reducible exact LeO.refl _)
      | (with_reducible exact LeO.none _)
      | (with_reducible refine LeO.ite ?_ ?_)
      | (with_reducible refine LeO.bind ?_ (fun _ => ?_))
      | exact ih0 _ _ _
      | exact LeO.none _
      | refine LeO.ite ?_ ?_
      | refine LeO.bind ?_ (fun _ => ?_)
theorem garretlaw29_sameItems.mono : ∀ a0 a1 k, LeO (garretlaw29_sameItems.f k a0 a1) (garretlaw29_sameItems.f (k + 1) a0 a1) := by
  intro a0 a1 k
  have ih0 := garretlaw29_sameItems.mono_l k
  unfold garretlaw29_sameItems.f
  repeat' first
      | (with_reducible exact ih0 _ _ _)
      | (with_reducible exact LeO.refl _)
      | (with_reducible exact LeO.none _)
      | (with_reducible refine LeO.ite ?_ ?_)
      | (with_reducible refine LeO.bind ?_ (fun _ => ?_))
      | exact ih0 _ _ _
      | exact LeO.none _
      | refine LeO.ite ?_ ?_
      | refine LeO.bind ?_ (fun _ => ?_)
set_option maxHeartbeats 8000000 in
set_option maxRecDepth 100000 in
theorem garretlaw29_sameItems.calls (k : Nat) (A0 : Option Addr) (c0 : Nat) (l0 : List (S52)) (A1 : Option Addr) (c1 : Nat) (l1 : List (S52)) (r : Bool) (w : World) (hr0 : Kd.C k52 w A0 l0.length l0) (hc0 : l0.length ≤ c0) (hr1 : Kd.C k52 w A1 l1.length l1) (hc1 : l1.length ≤ c1) (h : garretlaw29_sameItems.f k l0 l1 = some r) :
    Calls Try.prog 14 #[.slice A0 l0.length c0, .slice A1 l1.length c1] w fun e w' => e = .returned (.bool r) ∧ Drawn0 w w' := by
  have hu52 := Try.underlying52
  have HR0 := Aside0.mk hr0
  have HC0 := Aside0.mk hc0
  clear hr0 hc0
  have HR1 := Aside0.mk hr1
  have HC1 := Aside0.mk hc1
  clear hr1 hc1
  have H : (if (l0.length : Int) = (l1.length : Int) then (garretlaw29_sameItems.l0 k l0 l1 0) else (some false)) = some r := h
  clear h
  by_cases c3 : (l0.length : Int) = (l1.length : Int)
  · rw [if_pos c3] at H
    have c3b0 : ((l0.length : Int) == (l1.length : Int)) = true := beq_iff_eq.mpr c3
    have c3b1 : ((l0.length : Int) != (l1.length : Int)) = false := bne_eq_false_iff_eq.mpr c3
    have c3b2 : (l0.length == l1.length) = true := by first | simpa using c3 | (simp at c3 ⊢; omega)
    clear c3
    have H' := Aside0.mk H
    clear H
    go_enter Try.func14, Try.ntmps14
    go_wp2
    repeat (go_quiet (fail); try go_wp2)
    go_loopg [5] k (fun kq v5 w' => ∃ (x5_1 : Int), v5 = .int .i64 x5_1 ∧ Aside0 (garretlaw29_sameItems.l0 kq l0 l1 x5_1 = some r) ∧ Aside0 (kq ≤ k) ∧ Drawn0 w w')
    case atStart => exact ⟨(0), (by first | rfl | (simp; done) | (simp [*]; done)), H', ⟨Nat.le_refl _⟩, by repeat (first | exact Drawn0.refl _ | apply Drawn0.step)⟩
    case round =>
      clear H'
      try clear c1
      try clear p2
      try clear c3
      try clear c3b0
      try clear c3b1
      try clear c3b2
      obtain ⟨x5_1, rfl, HA, HK1, ⟨m1, rfl⟩⟩ := hrel
      cases gk with
      | zero => exact absurd HA.out (by simp [garretlaw29_sameItems.l0])
      | succ k1 =>
        have H := HA.out
        clear HA
        simp only [garretlaw29_sameItems.l0] at H
        by_cases c4 : x5_1 < (l0.length : Int)
        · rw [if_pos c4] at H
          have c4b0 : decide (x5_1 < (l0.length : Int)) = true := decide_eq_true c4
          clear c4
          by_cases c5 : 0 ≤ x5_1
          · rw [if_pos c5] at H
            have c5b0 : decide (0 ≤ x5_1) = true := decide_eq_true c5
            clear c5
            by_cases c6 : x5_1 < (l1.length : Int)
            · rw [if_pos c6] at H
              have c6b0 : decide (x5_1 < (l1.length : Int)) = true := decide_eq_true c6
              clear c6
              by_cases c7 : (!((((rd_T52 l0 x5_1).f0).toList) == (((rd_T52 l1 x5_1).f0).toList)) || ((!((((rd_T52 l0 x5_1).f1.f0).toList) == (((rd_T52 l1 x5_1).f1.f0).toList)) || (!(((rd_T52 l0 x5_1).f1.f1) == ((rd_T52 l1 x5_1).f1.f1)) || (!(((rd_T52 l0 x5_1).f1.f2) == ((rd_T52 l1 x5_1).f1.f2)) || (!(((rd_T52 l0 x5_1).f1.f3) == ((rd_T52 l1 x5_1).f1.f3)) || (!(((rd_T52 l0 x5_1).f1.f4) == ((rd_T52 l1 x5_1).f1.f4))))))))) = true
              · rw [if_pos c7] at H
                have c7b0 : (!((((rd_T52 l0 x5_1).f0).toList) == (((rd_T52 l1 x5_1).f0).toList)) || ((!((((rd_T52 l0 x5_1).f1.f0).toList) == (((rd_T52 l1 x5_1).f1.f0).toList)) || (!(((rd_T52 l0 x5_1).f1.f1) == ((rd_T52 l1 x5_1).f1.f1)) || (!(((rd_T52 l0 x5_1).f1.f2) == ((rd_T52 l1 x5_1).f1.f2)) || (!(((rd_T52 l0 x5_1).f1.f3) == ((rd_T52 l1 x5_1).f1.f3)) || (!(((rd_T52 l0 x5_1).f1.f4) == ((rd_T52 l1 x5_1).f1.f4))))))))) = true := c7
                clear c7
                obtain rfl := Option.some.inj H
                have p395 : 0 ≤ (x5_1 : Int) := of_decide_eq_true (by first | (with_reducible assumption) | assumption)
                have q395 : x5_1 < (l0.length : Int) := of_decide_eq_true (by first | (with_reducible assumption) | assumption)
                obtain ⟨ad395, e395, hx395_0, hx395_1, hx395_2, hx395_3, hx395_4, hx395_5⟩ := at_T52 HR0.out x5_1 p395 q395
                cases e395
                replace p395 := eq_true p395
                replace q395 := eq_true q395
                have p396 : 0 ≤ (x5_1 : Int) := of_decide_eq_true (by first | (with_reducible assumption) | assumption)
                have q396 : x5_1 < (l1.length : Int) := of_decide_eq_true (by first | (with_reducible assumption) | assumption)
                obtain ⟨ad396, e396, hx396_0, hx396_1, hx396_2, hx396_3, hx396_4, hx396_5⟩ := at_T52 HR1.out x5_1 p396 q396
                cases e396
                replace p396 := eq_true p396
                replace q396 := eq_true q396
                go_wp2
                repeat (go_quiet (fail); try go_wp2)
                go_ret
                exact ⟨by first | rfl | (simp; done) | (simp [*]; done), by repeat (first | exact Drawn0.refl _ | apply Drawn0.step)⟩
              · rw [if_neg c7] at H
                have c7b0 : (!((((rd_T52 l0 x5_1).f0).toList) == (((rd_T52 l1 x5_1).f0).toList)) || ((!((((rd_T52 l0 x5_1).f1.f0).toList) == (((rd_T52 l1 x5_1).f1.f0).toList)) || (!(((rd_T52 l0 x5_1).f1.f1) == ((rd_T52 l1 x5_1).f1.f1)) || (!(((rd_T52 l0 x5_1).f1.f2) == ((rd_T52 l1 x5_1).f1.f2)) || (!(((rd_T52 l0 x5_1).f1.f3) == ((rd_T52 l1 x5_1).f1.f3)) || (!(((rd_T52 l0 x5_1).f1.f4) == ((rd_T52 l1 x5_1).f1.f4))))))))) = false := by simpa using c7
                clear c7
                have H' := Aside0.mk H
                clear H
                have p395 : 0 ≤ (x5_1 : Int) := of_decide_eq_true (by first | (with_reducible assumption) | assumption)
                have q395 : x5_1 < (l0.length : Int) := of_decide_eq_true (by first | (with_reducible assumption) | assumption)
                obtain ⟨ad395, e395, hx395_0, hx395_1, hx395_2, hx395_3, hx395_4, hx395_5⟩ := at_T52 HR0.out x5_1 p395 q395
                cases e395
                replace p395 := eq_true p395
                replace q395 := eq_true q395
                have p396 : 0 ≤ (x5_1 : Int) := of_decide_eq_true (by first | (with_reducible assumption) | assumption)
                have q396 : x5_1 < (l1.length : Int) := of_decide_eq_true (by first | (with_reducible assumption) | assumption)
                obtain ⟨ad396, e396, hx396_0, hx396_1, hx396_2, hx396_3, hx396_4, hx396_5⟩ := at_T52 HR1.out x5_1 p396 q396
                cases e396
                replace p396 := eq_true p396
                replace q396 := eq_true q396
                go_wp2
                repeat (go_quiet (fail); try go_wp2)
                go_roundg k1
                case measure => have := HK1.out; omega
                case rel => exact ⟨(wrap64 (x5_1 + 1)), (by first | rfl | (simp; done) | (simp [*]; done)), H', ⟨by have := HK1.out; omega⟩, by repeat (first | exact Drawn0.refl _ | apply Drawn0.step)⟩
            · rw [if_neg c6] at H
              exact absurd H (by simp)
          · rw [if_neg c5] at H
            exact absurd H (by simp)
        · rw [if_neg c4] at H
          have c4b0 : decide (x5_1 < (l0.length : Int)) = false := decide_eq_false c4
          clear c4
          obtain rfl := Option.some.inj H
          go_wp2
          repeat (go_quiet (fail); try go_wp2)
          go_ret
          exact ⟨by first | rfl | (simp; done) | (simp [*]; done), by repeat (first | exact Drawn0.refl _ | apply Drawn0.step)⟩
  · rw [if_neg c3] at H
    have c3b0 : ((l0.length : Int) == (l1.length : Int)) = false := beq_eq_false_iff_ne.mpr c3
    have c3b1 : ((l0.length : Int) != (l1.length : Int)) = true := bne_iff_ne.mpr c3
    have c3b2 : (l0.length == l1.length) = false := by first | simpa using c3 | (simp at c3 ⊢; omega)
    obtain rfl := Option.some.inj H
    go_enter Try.func14, Try.ntmps14
    go_wp2
    repeat (go_quiet (fail); try go_wp2)
    go_ret
    exact ⟨by first | rfl | (simp; done) | (simp [*]; done), by repeat (first | exact Drawn0.refl _ | apply Drawn0.step)⟩

end Go.Proofs.Ytoiedcnhojkpiaa.Q
/- The laws' small helpers: SameTexts, sameItems, the closure that repeats a text; a slice literal read. -/
namespace Go.Proofs.Ytoiedcnhojkpiaa.Q
open Go.RowKit Go.Maps Go.Proofs.YtoiedcnhojkpiaaW.PrintWords Go.Proofs.YtoiedcnhojkpiaaW.PrintLast Go.Proofs.YtoiedcnhojkpiaaW.PrintMore
instance decS50 : DecidableEq S50 := fun x y => decidable_of_iff (x.f0 = y.f0 ∧ x.f1 = y.f1 ∧ x.f2 = y.f2 ∧ x.f3 = y.f3 ∧ x.f4 = y.f4) (by
  obtain ⟨x0, x1, x2, x3, x4⟩ := x
  obtain ⟨y0, y1, y2, y3, y4⟩ := y
  simp only [S50.mk.injEq])
instance decS52 : DecidableEq S52 := fun x y => decidable_of_iff (x.f0 = y.f0 ∧ x.f1 = y.f1) (by
  obtain ⟨x0, x1⟩ := x
  obtain ⟨y0, y1⟩ := y
  simp only [S52.mk.injEq])
theorem cons_dec {α : Type} [DecidableEq α] (x y : α) (a b : List α) : decide (x :: a = y :: b) = (decide (x = y) && decide (a = b)) := by simp
theorem same_l (a b : List ByteArray) (hl : a.length ≤ 10000) (hb : a.length = b.length) : ∀ (d i : Nat), i + d = a.length → garretbook_SameTexts.l0 (d + 1) a b (i : Int) = some (decide (a.drop i = b.drop i))
  | 0, i, h => by
    rw [garretbook_SameTexts.l0, if_neg (by omega), List.drop_eq_nil_of_le (by omega), List.drop_eq_nil_of_le (by omega)]
    simp
  | d + 1, i, h => by
    have hi : i < a.length := by omega
    have hi2 : i < b.length := by omega
    rw [garretbook_SameTexts.l0, if_pos (by omega), if_pos (by omega), if_pos (by omega), rd9_get hi, rd9_get hi2, wrap64_nat (by omega), same_l a b hl hb d (i + 1) (by omega), show a.drop i = a[i] :: a.drop (i + 1) from List.drop_eq_getElem_cons hi, show b.drop i = b[i] :: b.drop (i + 1) from List.drop_eq_getElem_cons hi2, cons_dec]
    by_cases he : a[i].toList = b[i].toList
    · rw [if_pos he]
      simp [eq_of_toList he]
    · rw [if_neg he]
      have : a[i] ≠ b[i] := fun e => he (by rw [e])
      simp [this]
theorem same_f (a b : List ByteArray) (hl : a.length ≤ 10000) : garretbook_SameTexts.f (a.length + 1) a b = some (decide (a = b)) := by
  unfold garretbook_SameTexts.f
  by_cases h : a.length = b.length
  · rw [if_pos (by omega)]
    have := same_l a b hl h a.length 0 (by omega)
    simpa using this
  · rw [if_neg (by omega)]
    have : a ≠ b := fun e => h (by rw [e])
    simp [this]
theorem same_calls (A B : Option Addr) (ca cb : Nat) (a b : List ByteArray) (w : World) (ha : Kd.C Kd.string w A a.length a) (hca : a.length ≤ ca) (hb : Kd.C Kd.string w B b.length b) (hcb : b.length ≤ cb) (hl : a.length ≤ 10000) :
    Calls Try.prog 13 #[.slice A a.length ca, .slice B b.length cb] w fun e w' => e = .returned (.bool (decide (a = b))) ∧ Below w.heap.size w w' :=
  (garretbook_SameTexts.calls (a.length + 1) A ca a B cb b _ w ha hca hb hcb (same_f a b hl)).mono fun _ _ h => ⟨h.1, h.2.below⟩
theorem rd52_get {l : List S52} {i : Nat} (h : i < l.length) : rd_T52 l (i : Int) = l[i] := by unfold rd_T52; simp [List.getD_eq_getElem?_getD, List.getElem?_eq_getElem h]
theorem ne52 (x y : S52) : ((!((x.f0.toList) == (y.f0.toList)) || ((!((x.f1.f0.toList) == (y.f1.f0.toList)) || (!((x.f1.f1) == (y.f1.f1)) || (!((x.f1.f2) == (y.f1.f2)) || (!((x.f1.f3) == (y.f1.f3)) || (!((x.f1.f4) == (y.f1.f4))))))))) = true) ↔ x ≠ y := by
  obtain ⟨x0, x1, x2, x3, x4, x5⟩ := x
  obtain ⟨y0, y1, y2, y3, y4, y5⟩ := y
  have e : ∀ a b : ByteArray, (a.toList == b.toList) = decide (a = b) := fun a b => by
    by_cases h : a = b
    · simp [h]
    · rw [decide_eq_false h]
      exact beq_eq_false_iff_ne.2 fun h' => h (eq_of_toList h')
  simp only [e]
  by_cases h0 : x0 = y0 <;> by_cases h1 : x1 = y1 <;> by_cases h2 : x2 = y2 <;> by_cases h3 : x3 = y3 <;> by_cases h4 : x4 = y4 <;> by_cases h5 : x5 = y5 <;> simp [h0, h1, h2, h3, h4, h5]
theorem items_l (a b : List S52) (hl : a.length ≤ 10000) (hb : a.length = b.length) : ∀ (d i : Nat), i + d = a.length → garretlaw29_sameItems.l0 (d + 1) a b (i : Int) = some (decide (a.drop i = b.drop i))
  | 0, i, h => by
    rw [garretlaw29_sameItems.l0, if_neg (by omega), List.drop_eq_nil_of_le (by omega), List.drop_eq_nil_of_le (by omega)]
    simp
  | d + 1, i, h => by
    have hi : i < a.length := by omega
    have hi2 : i < b.length := by omega
    rw [garretlaw29_sameItems.l0, if_pos (by omega), if_pos (by omega), if_pos (by omega), rd52_get hi, rd52_get hi2, wrap64_nat (by omega), items_l a b hl hb d (i + 1) (by omega), show a.drop i = a[i] :: a.drop (i + 1) from List.drop_eq_getElem_cons hi, show b.drop i = b[i] :: b.drop (i + 1) from List.drop_eq_getElem_cons hi2, cons_dec]
    by_cases he : a[i] = b[i]
    · rw [if_neg (by rw [ne52]; exact fun h => h he)]
      simp [he]
    · rw [if_pos (by rw [ne52]; exact he)]
      simp [he]
theorem items_f (a b : List S52) (hl : a.length ≤ 10000) : garretlaw29_sameItems.f (a.length + 1) a b = some (decide (a = b)) := by
  unfold garretlaw29_sameItems.f
  by_cases h : a.length = b.length
  · rw [if_pos (by omega)]
    have := items_l a b hl h a.length 0 (by omega)
    simpa using this
  · rw [if_neg (by omega)]
    have : a ≠ b := fun e => h (by rw [e])
    simp [this]
theorem items_calls (A B : Option Addr) (ca cb : Nat) (a b : List S52) (w : World) (ha : Kd.C k52 w A a.length a) (hca : a.length ≤ ca) (hb : Kd.C k52 w B b.length b) (hcb : b.length ≤ cb) (hl : a.length ≤ 10000) :
    Calls Try.prog 14 #[.slice A a.length ca, .slice B b.length cb] w fun e w' => e = .returned (.bool (decide (a = b))) ∧ Below w.heap.size w w' :=
  (garretlaw29_sameItems.calls (a.length + 1) A ca a B cb b _ w ha hca hb hcb (items_f a b hl)).mono fun _ _ h => ⟨h.1, h.2.below⟩
/-- A text, 32 times. -/
def rep32 (s : ByteArray) : ByteArray := ⟨(Lib.repeatL s.data.toList 32).toArray⟩
theorem rep_calls (s : ByteArray) (w : World) (h : s.size ≤ 1000) : Calls Try.prog 21 #[.string s] w fun e w' => e = .returned (.string (rep32 s)) ∧ Below w.heap.size w w' := by
  have hc := fun W => Try.strings_Repeat s 32 W (by omega) (by omega)
  go_enter Try.func21, Try.ntmps21
  go_wp2_with (fail)
  refine (hc _).mono ?_
  rintro e w1 ⟨rfl, hB⟩
  have HB := Aside0.mk hB
  clear hB
  go_wp2_with (fail)
  go_ret
  exact ⟨rfl, HB.out⟩
theorem C_lit9 {W : World} {g : Nat} (xs : List ByteArray) (cs : Array Value) (h : W.heap[g]? = some (.cells cs 9 (0, 0))) (hcs : cs.toList = xs.map Value.string) (hl : xs.length ≤ 100000) : Kd.C Kd.string W (some ⟨g, 0, none⟩) xs.length xs := by
  refine ⟨rfl, by omega, fun _ => ⟨_, rfl, fun j p hj => ⟨[.string p], rfl, rfl, fun i u hu => ?_⟩⟩⟩
  obtain rfl : i = 0 := by have := (List.getElem?_eq_some_iff.1 hu).1; simp at this; exact this
  simp only [List.getElem?_cons_zero, Option.some.injEq] at hu
  subst hu
  have hz : (Kd.string).sz = 1 := rfl
  rw [add_plain, blk_cell h, hz, ← Array.getElem?_toList, hcs, List.getElem?_map, Nat.mul_one, Nat.add_zero, hj]
  rfl
theorem C_lit52 {W : World} {g : Nat} (xs : List S52) (cs : Array Value) (h : W.heap[g]? = some (.cells cs 52 (0, 0))) (hcs : cs.toList = cells52 xs) (hl : xs.length ≤ 100000) : Kd.C k52 W (some ⟨g, 0, none⟩) xs.length xs := by
  refine ⟨rfl, by omega, fun _ => ⟨_, rfl, fun j p hj => ⟨enc52 p, rfl, k52_mk _ _, fun i u hu => ?_⟩⟩⟩
  have hz : (k52).sz = 6 := rfl
  have hjl := (List.getElem?_eq_some_iff.1 hj).1
  have hp : xs.drop j = p :: xs.drop (j + 1) := by
    rw [List.drop_eq_getElem_cons hjl]
    congr 1
    exact (List.getElem?_eq_some_iff.1 hj).2
  have hd := cells52_drop xs j (by omega)
  rw [hp] at hd
  have hi : i < (enc52 p).length := (List.getElem?_eq_some_iff.1 hu).1
  rw [add_plain, blk_cell h, hz, ← Array.getElem?_toList, hcs, ← List.getElem?_drop, hd]
  show (enc52 p ++ cells52 (xs.drop (j + 1)))[i]? = some u
  rw [List.getElem?_append_left hi]
  exact hu
end Go.Proofs.Ytoiedcnhojkpiaa.Q
/- The chapter's example, without memory. -/
namespace Go.Proofs.Ytoiedcnhojkpiaa.Q
open Go.RowKit Go.Maps Go.Proofs.YtoiedcnhojkpiaaW.PrintWords Go.Proofs.YtoiedcnhojkpiaaW.PrintLast Go.Proofs.YtoiedcnhojkpiaaW.PrintMore
def ra : ByteArray := rep32 ⟨#[97]⟩
def rb : ByteArray := rep32 ⟨#[98]⟩
def rc : ByteArray := rep32 ⟨#[99]⟩
def rp : ByteArray := rep32 ⟨#[112]⟩
def rq : ByteArray := rep32 ⟨#[113]⟩
def it1 : S52 := ⟨ra, ⟨rp, 1, 0, 5, 0⟩⟩
def it2 : S52 := ⟨rb, ⟨rq, 1, 0, 5, 0⟩⟩
def it3 : S52 := ⟨rc, ⟨rq, 1, 5, 90, 0⟩⟩
def its : List S52 := [it1, it2, it3]
theorem its_chk : ∀ x ∈ its, chk x = true := by
  intro x hx
  simp only [its, List.mem_cons, List.not_mem_nil, or_false] at hx
  rcases hx with rfl | rfl | rfl <;> decide +kernel
theorem its_sorted : Sorted its := by
  have h1 : ∀ x ∈ its, x.f0.size = 32 := fun x hx => (size32 (its_chk x hx)).1
  have hk : bk ra < bk rb ∧ bk rb < bk rc ∧ bk ra < bk rc := by decide +kernel
  have s1 := h1 it1 (by simp [its])
  have s2 := h1 it2 (by simp [its])
  have s3 := h1 it3 (by simp [its])
  unfold Sorted its
  simp only [List.pairwise_cons, List.mem_cons, List.not_mem_nil, or_false, forall_eq_or_imp, forall_eq, false_imp_iff, implies_true, List.Pairwise.nil, and_true]
  exact ⟨⟨ordS_of_id (bk_cmp s1 s2 hk.1), ordS_of_id (bk_cmp s1 s3 hk.2.2)⟩, ordS_of_id (bk_cmp s2 s3 hk.2.1)⟩
theorem its_all : allF (addF F0 its) = its := by
  rw [allF_putL its its_chk]
  refine sorted_eq (putL_sorted its [] List.Pairwise.nil) its_sorted fun s => ?_
  rw [putL_mem]
  simp
theorem its_good : GoodF (addF F0 its) := F0_good.add its its_chk
theorem its_len (j : Nat) : (addF F0 its j).length ≤ 1000 := by have := addF_len F0 0 (fun _ => Nat.le_refl _) its j; have : its.length = 3 := rfl; omega
theorem its_packs {pk : List ByteArray} (h : Rising pk) (hm : ∀ s, s ∈ pk ↔ s ∈ ([] : List ByteArray) ∨ s ∈ packsOf (allF (addF F0 its))) : pk = [rp, rq] := by
  refine rising_eq h ?_ fun s => ?_
  · have : Op.bytesLess rp.toList rq.toList = true := by rw [toList_data, toList_data]; decide +kernel
    exact List.pairwise_cons.2 ⟨fun x hx => by rw [List.mem_singleton.1 hx]; exact this, List.pairwise_singleton _ _⟩
  · rw [hm, its_all, packsOf_mem]
    simp only [its, List.mem_cons, List.not_mem_nil, or_false, false_or, it1, it2, it3]
    constructor
    · rintro ⟨x, rfl | rfl | rfl, rfl⟩
      · exact .inl rfl
      · exact .inr rfl
      · exact .inr rfl
    · rintro (rfl | rfl)
      · exact ⟨it1, .inl rfl, rfl⟩
      · exact ⟨it2, .inr (.inl rfl), rfl⟩
theorem its_drop : fated (wOf (addF F0 its) (memb [rb]) (allF (addF F0 its))) 100 0 [rp, rq] = [rp] := by
  rw [fated_all its_good, its_all]
  decide +kernel
theorem its_rew : fated (wOf (addF F0 its) (memb [rb]) (allF (addF F0 its))) 100 1 [rp, rq] = [] := by
  rw [fated_all its_good, its_all]
  decide +kernel
theorem its_keep : fated (wOf (addF F0 its) (memb [rb]) (allF (addF F0 its))) 100 2 [rp, rq] = [rq] := by
  rw [fated_all its_good, its_all]
  decide +kernel
theorem its_stay : (stayL (addF F0 its) (memb [rb]) (memb [rq]) (idsOf (allF (addF F0 its)))).length = 2 := by
  rw [stayL_all its_good, its_all]
  decide +kernel
end Go.Proofs.Ytoiedcnhojkpiaa.Q
