/- LzLess: the plain law. -/
import Derived.Test.YtflkjofafgoapaaQx20
import Derived.Test.YtflkjofafgoapaaSize
namespace Go.Proofs.Ytflkjofafgoapaa.Pure
open Go.RowKit Go.Proofs.Ytflkjofafgoapaa.Q Go.Proofs.Ytflkjofafgoapaa.Lz Go.Proofs.YtflkjofafgoapaaW.PrintWords Go.Proofs.YtflkjofafgoapaaW.PrintLast

theorem works_less : garretlaw12_works.f = some true := by
  unfold garretlaw12_works.f lz_Unpack.f
  decide +kernel

theorem toList_loop (s : ByteArray) : ∀ (n i : Nat) (r : List UInt8), s.size - i = n → ByteArray.toList.loop s i r = r.reverse ++ s.data.toList.drop i
  | 0, i, r, h => by
    rw [ByteArray.toList.loop, if_neg (by omega), List.drop_eq_nil_of_le (by rw [data_length]; omega), List.append_nil]
  | n + 1, i, r, h => by
    have hi : i < s.data.toList.length := by rw [data_length]; omega
    have hi2 : i < s.data.size := by rw [← Array.length_toList]; exact hi
    rw [ByteArray.toList.loop, if_pos (by omega), toList_loop s n (i + 1) _ (by omega), List.reverse_cons, List.append_assoc, List.drop_eq_getElem_cons hi]
    have e : s.get! i = s.data.toList[i] := by
      show s.data[i]! = _
      rw [getElem!_pos s.data i hi2]
      simp
    rw [e]
    rfl
theorem toList_data (s : ByteArray) : s.toList = s.data.toList := by
  unfold ByteArray.toList
  rw [toList_loop s s.size 0 [] (by omega)]
  simp

theorem near_max (s : ByteArray) (a : Nat) : ∀ (k d dist long : Nat), long ≤ (nearL s a k d dist long).2 ∧ ∀ e, d ≤ e → e < d + k → alikeN s (a - e) a (s.size - a) 0 ≤ (nearL s a k d dist long).2
  | 0, d, dist, long => ⟨Nat.le_refl _, fun e h1 h2 => by omega⟩
  | k + 1, d, dist, long => by
    rw [nearL]
    by_cases hc : long < alikeN s (a - d) a (s.size - a) 0
    · rw [if_pos hc]
      obtain ⟨g1, g2⟩ := near_max s a k (d + 1) d (alikeN s (a - d) a (s.size - a) 0)
      refine ⟨by omega, fun e h1 h2 => ?_⟩
      by_cases he : e = d
      · rw [he]; exact g1
      · exact g2 e (by omega) (by omega)
    · rw [if_neg hc]
      obtain ⟨g1, g2⟩ := near_max s a k (d + 1) dist long
      refine ⟨g1, fun e h1 h2 => ?_⟩
      by_cases he : e = d
      · rw [he]; omega
      · exact g2 e (by omega) (by omega)

theorem best_ge (s : ByteArray) (a : Nat) (c : Option Nat) : (nearL s a (min 64 a) 1 0 0).2 ≤ (bestN s a c).2 := by
  unfold bestN
  cases c with
  | none => exact Nat.le_refl _
  | some f =>
    simp only
    split
    · rename_i h
      simp only
      omega
    · exact Nat.le_refl _

/-- A text that repeats itself from p on. -/
def Per (s : ByteArray) (p : Nat) : Prop := ∀ i, p ≤ i → i < s.size → bt s ((i - p : Nat) : Int) = bt s (i : Int)

theorem take_full (s : ByteArray) (p a : Nat) (hp : 1 ≤ p) (hp2 : p ≤ 64) (h : Per s p) (ha : p ≤ a) (hs : a + 4 < s.size) : (takeN s a).2 = s.size - 1 - a := by
  have e2 : (takeN s a).2 = min (bestN s a (lastN s a a)).2 (s.size - 1 - a) := rfl
  have h1 := (near_max s a (min 64 a) 1 0 0).2 p hp (by omega)
  have h2 := best_ge s a (lastN s a a)
  rw [alike_all s (a - p) a (s.size - a) 0 (fun j _ hj => by
    have := h (a + j) (by omega) (by omega)
    rwa [show a + j - p = a - p + j from by omega] at this)] at h1
  omega

theorem cost_end (L : Nat) (eL : Nat) (h : L < 15 ∧ eL = 0 ∨ 15 ≤ L ∧ eL = (L - 15) / 255 + 1) (hL : L ≤ 72) : eL ≤ 1 := by omega
theorem cost_big (M eM : Nat) (h2 : M - 4 < 15 ∧ eM = 0 ∨ 15 ≤ M - 4 ∧ eM = (M - 4 - 15) / 255 + 1) : eM ≤ M / 255 + 1 := by omega
theorem cost_small (L M eL eM : Nat) (h : L < 15 ∧ eL = 0 ∨ 15 ≤ L ∧ eL = (L - 15) / 255 + 1) (hL : L ≤ 72) (h2 : M - 4 < 15 ∧ eM = 0 ∨ 15 ≤ M - 4 ∧ eM = (M - 4 - 15) / 255 + 1) (hM : M ≤ 72) (h4 : 4 ≤ M) : 3 + eL + eM ≤ M := by omega
theorem div_sum (a b : Nat) : a / 255 + b / 255 ≤ (a + b) / 255 := by omega

theorem seq_last (s : ByteArray) (kept : Nat) (h : kept ≤ s.size) : (encB [sqOf (s.extract kept s.size, 0, 0)]).length = 1 + (s.size - kept) + (numB (s.size - kept)).length := by
  show (encB [((s.extract kept s.size).data.toList, 0, 0)]).length = _
  rw [encB_cons, encB_nil, List.append_nil, seqB_len0, data_length, extract_len s kept s.size (Nat.le_refl _) h]

theorem cost_after (s : ByteArray) (p a kept : Nat) (hp : 1 ≤ p) (hp2 : p ≤ 64) (h : Per s p) (ha : p ≤ a) (hk : kept ≤ a) (hs : a ≤ s.size) (h68 : a - kept ≤ 68) :
    (encB (seqsS s a kept)).length ≤ (a - kept) + 7 + (s.size - a) / 255 := by
  unfold seqsS
  by_cases hl : a + 4 < s.size
  · have hf := take_full s p a hp hp2 h ha hl
    have h4 : 4 ≤ (takeN s a).2 := by omega
    obtain ⟨t1, _⟩ := take_same s a h4
    have hlen : (s.extract kept a).data.toList.length = a - kept := by rw [data_length, extract_len s kept a hs hk]
    have e1 := seqB_len (s.extract kept a).data.toList (takeN s a).1 (takeN s a).2 t1
    rw [hlen] at e1
    rw [packS_take hl h4, List.map_cons, encB_cons, List.length_append, packS_end (by omega), List.map_cons, List.map_nil, seq_last s _ (by omega)]
    have c1 := cost_end (a - kept) _ (numB_len _) (by omega)
    have c2 := cost_big (takeN s a).2 _ (numB_len _)
    have c3 := numB_len (s.size - (a + (takeN s a).2))
    have e3 : (seqB (sqOf (s.extract kept a, (takeN s a).1, (takeN s a).2))).length = (seqB ((s.extract kept a).data.toList, (takeN s a).1, (takeN s a).2)).length := rfl
    rw [e3, e1]
    have c4 : (takeN s a).2 / 255 ≤ (s.size - a) / 255 := Nat.div_le_div_right (by omega)
    have c5 : s.size - (a + (takeN s a).2) = 1 := by omega
    rw [c5] at c3 ⊢
    omega
  · rw [packS_end hl, List.map_cons, List.map_nil, seq_last s kept (by omega)]
    have c1 := cost_end (s.size - kept) _ (numB_len _) (by omega)
    omega

theorem cost_ahead (s : ByteArray) (p a kept : Nat) (hp : 1 ≤ p) (hp2 : p ≤ 64) (h : Per s p) (ha : a < p) (hk : kept ≤ a) (hs : a ≤ s.size) :
    (encB (seqsS s a kept)).length ≤ (p - kept) + 15 + (s.size - a) / 255 := by
  generalize hn : s.size - a = n
  induction n using Nat.strongRecOn generalizing a kept with
  | ind n ih =>
    rw [← hn]
    by_cases hl : a + 4 < s.size
    · by_cases h4 : 4 ≤ (takeN s a).2
      · obtain ⟨t1, t2, t3, _⟩ := take_same s a h4
        have hlen : (s.extract kept a).data.toList.length = a - kept := by rw [data_length, extract_len s kept a hs hk]
        have e1 := seqB_len (s.extract kept a).data.toList (takeN s a).1 (takeN s a).2 t1
        rw [hlen] at e1
        have e3 : (seqB (sqOf (s.extract kept a, (takeN s a).1, (takeN s a).2))).length = (seqB ((s.extract kept a).data.toList, (takeN s a).1, (takeN s a).2)).length := rfl
        have e4 : (encB (seqsS s a kept)).length = (seqB (sqOf (s.extract kept a, (takeN s a).1, (takeN s a).2))).length + (encB (seqsS s (a + (takeN s a).2) (a + (takeN s a).2))).length := by
          unfold seqsS
          rw [packS_take hl h4, List.map_cons, encB_cons, List.length_append]
        rw [e4, e3, e1]
        by_cases hb : a + (takeN s a).2 < p
        · have g := ih (s.size - (a + (takeN s a).2)) (by omega) (a + (takeN s a).2) (a + (takeN s a).2) hb (Nat.le_refl _) (by omega) rfl
          have c1 := cost_small (a - kept) (takeN s a).2 _ _ (numB_len _) (by omega) (numB_len _) (by omega) h4
          have c4 : (s.size - (a + (takeN s a).2)) / 255 ≤ (s.size - a) / 255 := Nat.div_le_div_right (by omega)
          omega
        · have g := cost_after s p (a + (takeN s a).2) (a + (takeN s a).2) hp hp2 h (by omega) (Nat.le_refl _) (by omega) (by omega)
          have c1 := cost_end (a - kept) _ (numB_len _) (by omega)
          have c2 := cost_big (takeN s a).2 _ (numB_len _)
          have c3 := div_sum (takeN s a).2 (s.size - (a + (takeN s a).2))
          rw [show (takeN s a).2 + (s.size - (a + (takeN s a).2)) = s.size - a from by omega] at c3
          omega
      · have e4 : seqsS s a kept = seqsS s (a + 1) kept := by unfold seqsS; rw [packS_step hl h4]
        rw [e4]
        have c4 : (s.size - (a + 1)) / 255 ≤ (s.size - a) / 255 := Nat.div_le_div_right (by omega)
        by_cases hb : a + 1 < p
        · have g := ih (s.size - (a + 1)) (by omega) (a + 1) kept hb (by omega) (by omega) rfl
          omega
        · have g := cost_after s p (a + 1) kept hp hp2 h (by omega) (by omega) (by omega) (by omega)
          omega
    · unfold seqsS
      rw [packS_end hl, List.map_cons, List.map_nil, seq_last s kept (by omega)]
      have c1 := cost_end (s.size - kept) _ (numB_len _) (by omega)
      omega

theorem less_bound (s : ByteArray) (p : Nat) (hp : 1 ≤ p) (hp2 : p ≤ 64) (h : Per s p) (hs : s.size ≤ 5000) : (packOf s).size ≤ p + 40 + s.size / 200 := by
  rw [packOf_eq s (by omega), mk_sz]
  have := cost_ahead s p 0 0 hp hp2 h (by omega) (Nat.le_refl _) (by omega)
  omega

/-! ### The text that repeats a part -/
def perL (x : ByteArray) (n : Nat) : List Int := (List.range n).map fun i => bt x ((i % x.size : Nat) : Int)
theorem perL_len (x : ByteArray) (n : Nat) : (perL x n).length = n := by simp [perL]
theorem perL_succ (x : ByteArray) (n : Nat) : perL x (n + 1) = perL x n ++ [bt x ((n % x.size : Nat) : Int)] := by simp [perL, List.range_succ]
theorem per_size (x : ByteArray) (n : Nat) : (strOfNums (perL x n)).size = n := by rw [← data_length]; simp [strOfNums, perL]
theorem per_bt (x : ByteArray) (n i : Nat) (h : i < n) : bt (strOfNums (perL x n)) (i : Int) = bt x ((i % x.size : Nat) : Int) := by
  have h2 : i < (strOfNums (perL x n)).size := by rw [per_size]; exact h
  rw [bt_getD _ _ h2]
  have hr := bt_range x ((i % x.size : Nat) : Int)
  simp only [strOfNums, perL, List.map_map, List.getD_eq_getElem?_getD, List.getElem?_map, List.getElem?_range h, Option.map_some, Option.getD_some, Function.comp_def]
  generalize bt x ((i % x.size : Nat) : Int) = v at hr ⊢
  simp
  omega
theorem per_per (x : ByteArray) (n : Nat) (hx : 0 < x.size) : Per (strOfNums (perL x n)) x.size := by
  intro i h1 h2
  rw [per_size] at h2
  rw [per_bt x n i h2, per_bt x n (i - x.size) (by omega), ← Nat.mod_eq_sub_mod h1]

theorem less_end (x : ByteArray) (n k : Nat) (hx : 0 < x.size) (hx2 : x.size ≤ 64) (hn : n < 5000) : garretlaw12_LzLess.l0 (k + 1) x (n : Int) (perL x n) (n : Int) (n : Int) = some true := by
  rw [garretlaw12_LzLess.l0, if_neg (by omega)]
  have hs : (strOfNums (perL x n)).size = n := per_size x n
  have hb := less_bound (strOfNums (perL x n)) x.size hx hx2 (per_per x n hx) (by omega)
  have hu := pack_unpack (strOfNums (perL x n)) (by omega)
  have hp : lz_Pack.f (strOfNums (perL x n)) = some (packOf (strOfNums (perL x n)), 0) := by unfold lz_Pack.f; rw [if_neg (by omega), if_pos (by omega)]
  rw [hs] at hb hu
  rw [hp]
  simp only [Option.bind_some]
  rw [unpack_lz _ (by omega), hu]
  simp only [Option.bind_some]
  rw [if_pos trivial, if_pos trivial, if_pos trivial]
  have e1 : Int.tdiv (n : Int) 200 = ((n / 200 : Nat) : Int) := by rw [Int.tdiv_eq_ediv_of_nonneg (by omega)]; omega
  rw [e1, wr ((n / 200 : Nat) : Int) (by omega) (by omega), wr ((x.size : Int) + 40) (by omega) (by omega), wr _ (by omega) (by omega)]
  rw [decide_eq_true (by omega)]

theorem less_fill (x : ByteArray) (n : Nat) (hx : 0 < x.size) (hx2 : x.size ≤ 64) (hn : n < 5000) : ∀ (d i k : Nat), i + d = n → garretlaw12_LzLess.l0 (k + d + 1) x (n : Int) (perL x i ++ List.replicate d 0) (n : Int) (i : Int) = some true
  | 0, i, k, h => by
    obtain rfl : i = n := by omega
    rw [List.replicate_zero, List.append_nil]
    exact less_end x i (k + 0) hx hx2 hn
  | d + 1, i, k, h => by
    have e0 : Int.tmod (i : Int) (x.size : Int) = ((i % x.size : Nat) : Int) := by rw [Int.tmod_eq_emod_of_nonneg (by omega)]; omega
    have e1 : i % x.size < x.size := Nat.mod_lt _ hx
    have e2 : (perL x i ++ List.replicate (d + 1) 0).length = n := by rw [List.length_append, perL_len, List.length_replicate]; omega
    have e3 : (perL x i ++ List.replicate (d + 1) 0).set i (bt x ((i % x.size : Nat) : Int)) = perL x (i + 1) ++ List.replicate d 0 := by
      rw [perL_succ, List.set_append_right _ _ (by rw [perL_len]; omega), perL_len, Nat.sub_self, List.replicate_succ, List.set_cons_zero, List.append_assoc]
      rfl
    have e4 : wrap64 ((i : Int) + 1) = ((i + 1 : Nat) : Int) := by rw [wr _ (by omega) (by omega)]; omega
    rw [show k + (d + 1) + 1 = (k + d + 1) + 1 from by omega, garretlaw12_LzLess.l0, if_pos (by omega), if_neg (by omega), e0, if_pos (by omega), if_pos (by omega), if_pos (by omega), if_pos (by omega), Int.toNat_natCast, e3, e4]
    exact less_fill x n hx hx2 hn d (i + 1) k (by omega)

theorem among_less (a : Int) : ∃ t : Nat, garretbook_Among.f a 5000 = some (t : Int) ∧ t < 5000 := by
  unfold garretbook_Among.f
  rw [if_neg (by omega)]
  have h1 := Int.tmod_lt_of_pos a (show (0 : Int) < 5000 by omega)
  have h0 : -(5000 : Int) < Int.tmod a 5000 := by
    have := Int.tmod_lt_of_pos (-a) (show (0 : Int) < 5000 by omega)
    rw [Int.neg_tmod] at this
    omega
  generalize Int.tmod a 5000 = x at h0 h1
  rw [wr _ (by omega) (by omega), Int.tmod_eq_emod_of_nonneg (by omega)]
  exact ⟨((x + 5000) % 5000).toNat, by congr 1; omega, by omega⟩

theorem LzLess : garretlaw12_LzLess.Pure := by
  intro x n _ _
  obtain ⟨t, ht, htl⟩ := among_less n
  refine ⟨0 + t + 1 + 1, ?_⟩
  unfold garretlaw12_LzLess.f
  rw [works_less]
  simp only [Option.bind_some]
  rw [if_pos trivial]
  by_cases h0 : x.toList = ([] : List UInt8)
  · rw [if_pos h0, garretlaw12_LzLess.j0, if_pos rfl]
  rw [if_neg h0]
  have hx : 0 < x.size := by
    rw [← data_length]
    rcases hd : x.data.toList with _ | ⟨y, r⟩
    · exact absurd (by rw [toList_data, hd]) h0
    · simp
  by_cases h : (x.size : Int) > 64
  · rw [decide_eq_true h, garretlaw12_LzLess.j0, if_pos rfl]
  rw [decide_eq_false h, garretlaw12_LzLess.j0, if_neg (by simp), ht]
  simp only [Option.bind_some]
  rw [if_pos (by omega), if_pos (by omega), Int.toNat_natCast, List.length_replicate]
  have := less_fill x t hx (by omega) htl t 0 0 (by omega)
  simpa [perL] using this

end Go.Proofs.Ytflkjofafgoapaa.Pure
