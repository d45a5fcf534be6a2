/- LzBack: the plain law. -/
import Derived.Test.YtflkjofafgoapaaQx19
import Derived.Test.YtflkjofafgoapaaSize
namespace Go.Proofs.Ytflkjofafgoapaa.Pure
open Go.RowKit Go.Proofs.Ytflkjofafgoapaa.Q Go.Proofs.Ytflkjofafgoapaa.Lz Go.Proofs.YtflkjofafgoapaaW.PrintWords Go.Proofs.YtflkjofafgoapaaW.PrintLast

theorem works_back : garretlaw12_works.f = some true := by
  unfold garretlaw12_works.f lz_Unpack.f
  decide +kernel

theorem toList_loop (s : ByteArray) : ∀ (n i : Nat) (r : List UInt8), s.size - i = n → ByteArray.toList.loop s i r = r.reverse ++ s.data.toList.drop i
  | 0, i, r, h => by
    rw [ByteArray.toList.loop, if_neg (by omega), List.drop_eq_nil_of_le (by rw [data_length]; omega), List.append_nil]
  | n + 1, i, r, h => by
    have hi : i < s.data.toList.length := by rw [data_length]; omega
    have hi2 : i < s.data.size := by rw [← Array.length_toList]; exact hi
    rw [ByteArray.toList.loop, if_pos (by omega), toList_loop s n (i + 1) _ (by omega), List.reverse_cons, List.append_assoc, List.drop_eq_getElem_cons hi]
    have e : s.get! i = s.data.toList[i] := by
      show s.data[i]! = _
      rw [getElem!_pos s.data i hi2]
      simp
    rw [e]
    rfl
theorem toList_data (s : ByteArray) : s.toList = s.data.toList := by
  unfold ByteArray.toList
  rw [toList_loop s s.size 0 [] (by omega)]
  simp

theorem toList_size (s : ByteArray) : s.toList.length = s.size := by rw [toList_data, data_length]

/-! ### What is cut short -/
theorem ext_short : ∀ (m a i : Nat), i < (extB m).length → pExt a ((extB m).take i) = none := by
  intro m
  induction m using Nat.strongRecOn with
  | ind m ih =>
    intro a i hi
    rw [extB.eq_def] at hi ⊢
    cases i with
    | zero => rw [List.take_zero, pExt]
    | succ i =>
      by_cases h : 255 ≤ m
      · rw [dif_pos h] at hi ⊢
        rw [List.take_succ_cons, pExt, if_neg (by rw [by8_nat 255 (by omega)]; omega)]
        exact ih (m - 255) (by omega) _ i (by simp at hi; omega)
      · rw [dif_neg h] at hi
        simp at hi

theorem num_short (n i : Nat) (hi : i < (numB n).length) : pNum (min n 15) ((numB n).take i) = none := by
  unfold numB at hi ⊢
  by_cases h : n < 15
  · rw [if_pos h] at hi; simp at hi
  · rw [if_neg h] at hi ⊢
    unfold pNum
    rw [if_neg (by omega)]
    exact ext_short _ _ _ hi

/-- A number cut short, or what stands behind it. -/
theorem num_cut (n i : Nat) (r : List UInt8) : (i < (numB n).length ∧ pNum (min n 15) ((numB n ++ r).take i) = none) ∨ ∃ j, i = (numB n).length + j ∧ pNum (min n 15) ((numB n ++ r).take i) = some (n, r.take j) := by
  by_cases h : i < (numB n).length
  · refine .inl ⟨h, ?_⟩
    rw [List.take_append_of_le_length (by omega)]
    exact num_short n i h
  · refine .inr ⟨i - (numB n).length, by omega, ?_⟩
    rw [List.take_append, List.take_of_length_le (by omega), pNum_numB]

def Less (o : Option (List Sq)) (t : Nat) : Prop := ∀ q, o = some q → total q < t
theorem less_none (t : Nat) : Less none t := fun _ h => by cases h

theorem cut_less : ∀ (q : List Sq) (n k j : Nat), Good n q → j < (encB q).length → Less (parse k n ((encB q).take j)) (total q)
  | [], _, _, _, h, _ => h.elim
  | (l, d, m) :: rest, n, k, j, h, hj => by
    cases k with
    | zero => rw [parse]; exact less_none _
    | succ k =>
      cases j with
      | zero => rw [List.take_zero]; simp only [parse]; exact less_none _
      | succ j =>
        have e1 : (by8 (tokB l.length d m)).toNat = tokB l.length d m := by8_nat _ (tokB_le _ _ _)
        by_cases hd : 0 < d
        · have ht : total ((l, d, m) :: rest) = l.length + m + total rest := rfl
          have hm : 4 ≤ m ∧ (rest ≠ [] → Good (n + l.length + m) rest) ∧ rest ≠ [] := by
            cases rest with
            | nil => have := h.1; omega
            | cons y r => exact ⟨h.2.2.2.1, fun _ => h.2.2.2.2, by simp⟩
          obtain ⟨h4, hG, hne⟩ := hm
          have e2 : encB ((l, d, m) :: rest) = by8 (tokB l.length d m) :: (numB l.length ++ (l ++ (by8 (d % 256) :: by8 (d / 256) :: (numB (m - 4) ++ encB rest)))) := by
            rw [encB_cons]; simp only [seqB, if_pos hd, List.cons_append, List.append_assoc]
          rw [e2] at hj ⊢
          rw [List.take_succ_cons]
          simp only [parse, e1, tokB_hi, tokB_lo _ _ _ hd]
          rcases num_cut l.length j (l ++ (by8 (d % 256) :: by8 (d / 256) :: (numB (m - 4) ++ encB rest))) with ⟨_, hp⟩ | ⟨i, hi, hp⟩
          · rw [hp]; exact less_none _
          · rw [hp]
            simp only
            by_cases hL : i < l.length
            · rw [if_pos (by rw [List.length_take]; omega)]; exact less_none _
            · rw [if_neg (by rw [List.length_take, List.length_append]; omega), List.take_append, List.take_of_length_le (by omega)]
              simp only [List.drop_left, List.take_left]
              obtain ⟨i2, hi2⟩ : ∃ i2, i - l.length = i2 := ⟨_, rfl⟩
              rw [hi2]
              match i2, hi2 with
              | 0, _ =>
                rw [List.take_zero]
                simp only
                split
                · intro q hq
                  simp only [Option.some.injEq] at hq
                  subst hq
                  rw [ht]
                  simp only [total]
                  omega
                · exact less_none _
              | 1, _ => exact less_none _
              | i2 + 2, hi2 =>
                rw [List.take_succ_cons, List.take_succ_cons]
                simp only
                rcases num_cut (m - 4) i2 (encB rest) with ⟨_, hp⟩ | ⟨i3, hi3, hp⟩
                · rw [hp]; exact less_none _
                · rw [hp]
                  simp only
                  split
                  · exact less_none _
                  · split
                    · exact less_none _
                    · intro q hq
                      simp only [Option.map_eq_some_iff] at hq
                      obtain ⟨q2, hq2, rfl⟩ := hq
                      rw [show m - 4 + 4 = m from by omega] at hq2 ⊢
                      have hlen : i3 < (encB rest).length := by
                        simp only [List.length_cons, List.length_append] at hj
                        omega
                      have := cut_less rest (n + l.length + m) k i3 (hG hne) hlen q2 hq2
                      rw [ht]
                      simp only [total]
                      omega
        · have hr : rest = [] ∧ d = 0 ∧ m = 0 := by
            cases rest with
            | nil => exact ⟨rfl, h.1, h.2⟩
            | cons y r => exact absurd h.1 hd
          obtain ⟨rfl, rfl, rfl⟩ := hr
          have e2 : encB [(l, 0, 0)] = by8 (tokB l.length 0 0) :: (numB l.length ++ l) := by
            rw [encB_cons, encB_nil, List.append_nil]; simp [seqB]
          rw [e2] at hj ⊢
          rw [List.take_succ_cons]
          simp only [parse, e1, tokB_hi, tokB_lo0]
          rcases num_cut l.length j l with ⟨_, hp⟩ | ⟨i, hi, hp⟩
          · rw [hp]; exact less_none _
          · rw [hp]
            simp only
            have hL : i < l.length := by simp only [List.length_cons, List.length_append] at hj; omega
            rw [if_pos (by rw [List.length_take]; omega)]; exact less_none _

/-- A byte behind a block. -/
theorem tail_none : ∀ (q : List Sq) (n k : Nat) (c : UInt8), Good n q → parse k n (encB q ++ [c]) = none
  | [], _, _, _, h => h.elim
  | _ :: _, _, 0, _, _ => by rw [parse]
  | [(l, d, m)], n, k + 1, c, h => by
    obtain ⟨rfl, rfl⟩ := h
    have e1 : (by8 (tokB l.length 0 0)).toNat = tokB l.length 0 0 := by8_nat _ (tokB_le _ _ _)
    have e2 : encB [(l, 0, 0)] ++ [c] = by8 (tokB l.length 0 0) :: (numB l.length ++ (l ++ [c])) := by
      rw [encB_cons, encB_nil, List.append_nil]; simp [seqB]
    rw [e2]
    simp only [parse, e1, tokB_hi, pNum_numB]
    rw [if_neg (by simp)]
    simp only [List.drop_left]
  | (l, d, m) :: y :: r, n, k + 1, c, h => by
    obtain ⟨h1, h2, h3, h4, h5⟩ := h
    rw [encB_cons, List.append_assoc, parse_more k n l d m _ h1 h2 h3 h4, tail_none (y :: r) _ k c h5]
    rfl

theorem unp_cut (s : ByteArray) (hs : s.size ≤ 10000) (t : Nat) (ht : t < (packOf s).size) : (unpackOf ((packOf s).extract 0 t) (s.size : Int)).2 = 120 := by
  have hg := (pack_good s hs 0 0 (Nat.le_refl _) (Nat.zero_le _)).1
  have hl : ((packOf s).extract 0 t).data.toList = (encB (seqsS s 0 0)).take t := by
    rw [extract_list, packOf_eq s hs]; simp [mk]
  have ht2 : t < (encB (seqsS s 0 0)).length := by rw [packOf_eq s hs, mk_sz] at ht; exact ht
  have hc := cut_less (seqsS s 0 0) 0 ((packOf s).extract 0 t).size t hg ht2
  rw [pack_total s hs] at hc
  unfold unpackOf parseOf
  rw [if_neg (by omega), if_neg (by omega), hl]
  cases hp : parse ((packOf s).extract 0 t).size 0 ((encB (seqsS s 0 0)).take t) with
  | none => rfl
  | some q =>
    have := hc q hp
    simp only
    rw [if_neg (by omega)]

theorem unp_tail (s : ByteArray) (hs : s.size ≤ 10000) (c : Int) : (unpackOf (packOf s ++ strOfNums [c]) (s.size : Int)).2 = 120 := by
  have hg := (pack_good s hs 0 0 (Nat.le_refl _) (Nat.zero_le _)).1
  have hl : ∃ c8 : UInt8, (packOf s ++ strOfNums [c]).data.toList = encB (seqsS s 0 0) ++ [c8] := by
    have h1 : (strOfNums [c]).data.toList.length = 1 := by simp [strOfNums]
    match hh : (strOfNums [c]).data.toList, h1 with
    | [x], _ =>
      refine ⟨x, ?_⟩
      rw [packOf_eq s hs, ByteArray.data_append, Array.toList_append, hh]
      rfl
  obtain ⟨c8, hl⟩ := hl
  unfold unpackOf parseOf
  rw [if_neg (by omega), if_neg (by omega), hl, tail_none _ _ _ _ hg]

theorem packed_pos (s : ByteArray) (hs : s.size ≤ 10000) : 0 < (packOf s).size := by
  rw [packOf_eq s hs, mk_sz]
  obtain ⟨y, r, e⟩ := seqs_ne s 0 0
  unfold seqsS
  rw [e, List.map_cons, encB_cons, List.length_append]
  have := seqB_pos (sqOf y)
  omega

theorem among_in (a : Int) (n : Nat) (h : 0 < n) (h2 : n ≤ 1000000) : ∃ t : Nat, garretbook_Among.f a (n : Int) = some (t : Int) ∧ t < n := by
  unfold garretbook_Among.f
  rw [if_neg (by omega)]
  have h1 := Int.tmod_lt_of_pos a (show (0 : Int) < (n : Int) by omega)
  have h0 : -(n : Int) < Int.tmod a n := by
    have := Int.tmod_lt_of_pos (-a) (show (0 : Int) < (n : Int) by omega)
    rw [Int.neg_tmod] at this
    omega
  generalize Int.tmod a n = x at h0 h1
  rw [wr _ (by omega) (by omega), Int.tmod_eq_emod_of_nonneg (by omega)]
  have g1 := Int.emod_nonneg (x + n) (show (n : Int) ≠ 0 by omega)
  have g2 := Int.emod_lt_of_pos (x + n) (show (0 : Int) < (n : Int) by omega)
  refine ⟨((x + n) % n).toNat, ?_, by omega⟩
  congr 1
  omega

theorem LzBack : garretlaw12_LzBack.Pure := by
  intro s n c _ _ _
  refine ⟨1, ?_⟩
  unfold garretlaw12_LzBack.f
  rw [works_back]
  simp only [Option.bind_some]
  rw [if_pos trivial]
  by_cases h : (s.size : Int) > 2000
  · rw [if_pos h]
  rw [if_neg h]
  have hs : s.size ≤ 10000 := by omega
  have hp : lz_Pack.f s = some (packOf s, 0) := by unfold lz_Pack.f; rw [if_neg (by omega), if_pos (by omega)]
  have hb := pack_bound s hs
  have hpos := packed_pos s hs
  have hmore : (unpackOf (packOf s) (wrap64 ((s.size : Int) + 1))).2 = 120 := by
    rw [wr _ (by omega) (by omega)]
    unfold unpackOf
    rw [if_neg (by omega), if_neg (by omega), pack_parse s hs]
    simp only
    rw [if_neg (by rw [pack_total s hs]; omega)]
  rw [hp]
  simp only [Option.bind_some]
  rw [unpack_lz _ (by omega), unpack_lz _ (by omega), pack_unpack s hs]
  simp only [Option.bind_some]
  rw [if_pos trivial, if_pos trivial, if_pos trivial, if_pos hmore]
  have hne : ((packOf s).toList == ([] : List UInt8)) = false := by
    have h1 := toList_size (packOf s)
    cases hh : (packOf s).toList with
    | nil => rw [hh] at h1; simp at h1; omega
    | cons x r => rfl
  rw [hne, show (1 : Nat) = 0 + 1 from rfl, garretlaw12_LzBack.j0, if_neg (by simp)]
  obtain ⟨t, ht, htl⟩ := among_in n (packOf s).size hpos (by omega)
  rw [ht]
  simp only [Option.bind_some]
  have hex : ((packOf s).extract 0 t).size ≤ 200000 := by rw [ByteArray.size_extract]; omega
  rw [if_pos (by omega), if_pos (by omega), Int.toNat_natCast, unpack_lz _ hex]
  simp only [Option.bind_some]
  have hsz : (strOfNums [c]).size = 1 := by simp [strOfNums, ByteArray.size]
  have hcat : (packOf s ++ strOfNums [c]).size ≤ 200000 := by rw [ByteArray.size_append, hsz]; omega
  rw [if_neg (by rw [unp_cut s hs t htl]; decide), if_pos (by rw [hsz]; omega), unpack_lz _ hcat]
  simp only [Option.bind_some]
  rw [if_neg (by rw [unp_tail s hs c]; decide)]

end Go.Proofs.Ytflkjofafgoapaa.Pure
