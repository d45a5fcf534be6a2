/- There and back: what is packed opens to the text. -/
import Derived.Test.YtflkjofafgoapaaEnc
namespace Go.Proofs.Ytflkjofafgoapaa.Pure
open Go.RowKit Go.Proofs.Ytflkjofafgoapaa.Q Go.Proofs.Ytflkjofafgoapaa.Lz Go.Proofs.YtflkjofafgoapaaW.PrintWords Go.Proofs.YtflkjofafgoapaaW.PrintLast

theorem alike_spec (s : ByteArray) (fr i : Nat) : ∀ (d n : Nat), n ≤ alikeN s fr i d n ∧ alikeN s fr i d n ≤ n + d ∧ ∀ j, n ≤ j → j < alikeN s fr i d n → bt s ((fr + j : Nat) : Int) = bt s ((i + j : Nat) : Int)
  | 0, n => ⟨by simp [alikeN], by simp [alikeN], fun j h1 h2 => by simp [alikeN] at h2; omega⟩
  | d + 1, n => by
    rw [alikeN]
    by_cases h : bt s ((fr + n : Nat) : Int) = bt s ((i + n : Nat) : Int)
    · rw [if_pos h]
      obtain ⟨h1, h2, h3⟩ := alike_spec s fr i d (n + 1)
      refine ⟨by omega, by omega, fun j g1 g2 => ?_⟩
      by_cases e : j = n
      · rw [e]; exact h
      · exact h3 j (by omega) g2
    · rw [if_neg h]
      exact ⟨Nat.le_refl _, by omega, fun j g1 g2 => by omega⟩

theorem alike_all (s : ByteArray) (fr i : Nat) : ∀ (d n : Nat), (∀ j, n ≤ j → j < n + d → bt s ((fr + j : Nat) : Int) = bt s ((i + j : Nat) : Int)) → alikeN s fr i d n = n + d
  | 0, n, _ => rfl
  | d + 1, n, h => by
    rw [alikeN, if_pos (h n (Nat.le_refl _) (by omega)), alike_all s fr i d (n + 1) (fun j g1 g2 => h j (by omega) (by omega))]
    omega

/-- From D ahead, L bytes are the same. -/
def Same (s : ByteArray) (a D L : Nat) : Prop := L ≤ s.size - a ∧ (0 < L → 0 < D ∧ D ≤ a ∧ ∀ j, j < L → bt s ((a - D + j : Nat) : Int) = bt s ((a + j : Nat) : Int))

theorem near_same (s : ByteArray) (a : Nat) : ∀ (k d dist long : Nat), 1 ≤ d → d + k ≤ a + 1 → Same s a dist long → Same s a (nearL s a k d dist long).1 (nearL s a k d dist long).2
  | 0, _, _, _, _, _, h => h
  | k + 1, d, dist, long, h1, hk, h => by
    rw [nearL]
    by_cases hc : long < alikeN s (a - d) a (s.size - a) 0
    · rw [if_pos hc]
      obtain ⟨g1, g2, g3⟩ := alike_spec s (a - d) a (s.size - a) 0
      exact near_same s a k (d + 1) _ _ (by omega) (by omega) ⟨by omega, fun _ => ⟨by omega, by omega, fun j hj => g3 j (Nat.zero_le _) hj⟩⟩
    · rw [if_neg hc]
      exact near_same s a k (d + 1) _ _ (by omega) (by omega) h

theorem best_same (s : ByteArray) (a : Nat) (c : Option Nat) (hc : ∀ f, c = some f → f < a) : Same s a (bestN s a c).1 (bestN s a c).2 := by
  have hN : Same s a (nearL s a (min 64 a) 1 0 0).1 (nearL s a (min 64 a) 1 0 0).2 := near_same s a _ 1 0 0 (by omega) (by omega) ⟨by omega, by omega⟩
  unfold bestN
  cases c with
  | none => exact hN
  | some f =>
    have hf := hc f rfl
    simp only
    split
    · obtain ⟨g1, g2, g3⟩ := alike_spec s f a (s.size - a) 0
      refine ⟨by simp only; omega, fun h0 => ⟨by simp only; omega, by simp only; omega, fun j hj => ?_⟩⟩
      simp only at hj ⊢
      rw [show a - (a - f) + j = f + j from by omega]
      exact g3 j (Nat.zero_le _) hj
    · exact hN

theorem take_same (s : ByteArray) (a : Nat) (h4 : 4 ≤ (takeN s a).2) : 0 < (takeN s a).1 ∧ (takeN s a).1 ≤ a ∧ a + (takeN s a).2 < s.size ∧ ∀ j, j < (takeN s a).2 → bt s ((a - (takeN s a).1 + j : Nat) : Int) = bt s ((a + j : Nat) : Int) := by
  have hb := best_same s a (lastN s a a) (fun f hf => lastN_lt hf)
  have e1 : (takeN s a).1 = (bestN s a (lastN s a a)).1 := rfl
  have e2 : (takeN s a).2 = min (bestN s a (lastN s a a)).2 (s.size - 1 - a) := rfl
  obtain ⟨h1, h2⟩ := hb
  obtain ⟨g1, g2, g3⟩ := h2 (by omega)
  rw [e1]
  exact ⟨g1, g2, by omega, fun j hj => g3 j (by omega)⟩

theorem bt_getD (s : ByteArray) (i : Nat) (h : i < s.size) : bt s (i : Int) = ((s.data.toList.getD i 0).toNat : Int) := by
  have h2 : i < s.data.toList.length := by rw [data_length]; exact h
  have h3 : i < s.data.size := h
  rw [← bt_at s (i : Int) h, List.getD_eq_getElem?_getD, List.getElem?_eq_getElem h2]
  simp
  rfl

theorem getD_of_bt (s : ByteArray) (i j : Nat) (hi : i < s.size) (hj : j < s.size) (h : bt s (i : Int) = bt s (j : Int)) : s.data.toList.getD i 0 = s.data.toList.getD j 0 := by
  rw [bt_getD s i hi, bt_getD s j hj] at h
  exact UInt8.toNat_inj.1 (by omega)

theorem rep_take (bs : List UInt8) (D : Nat) : ∀ (m a : Nat), 0 < D → D ≤ a → a + m ≤ bs.length → (∀ j, j < m → bs.getD (a - D + j) 0 = bs.getD (a + j) 0) → rep (bs.take a) D m = bs.take (a + m)
  | 0, a, _, _, _, _ => rfl
  | m + 1, a, h1, h2, h3, h4 => by
    have hl : (bs.take a).length = a := by rw [List.length_take]; omega
    have e1 : (bs.take a).getD ((bs.take a).length - D) 0 = bs.getD a 0 := by
      have := h4 0 (by omega)
      simp only [Nat.add_zero] at this
      rw [hl, ← this, List.getD_eq_getElem?_getD, List.getD_eq_getElem?_getD, List.getElem?_take, if_pos (by omega)]
    have e2 : bs.take a ++ [bs.getD a 0] = bs.take (a + 1) := by
      rw [List.take_add_one, List.getElem?_eq_getElem (show a < bs.length by omega), List.getD_eq_getElem?_getD, List.getElem?_eq_getElem (show a < bs.length by omega)]
      rfl
    rw [rep, e1, e2, rep_take bs D m (a + 1) h1 (by omega) (by omega) (fun j hj => by
      have := h4 (j + 1) (by omega)
      rw [show a + 1 - D + j = a - D + (j + 1) from by omega, show a + 1 + j = a + (j + 1) from by omega]; exact this)]
    congr 1; omega

theorem extract_list (s : ByteArray) (i j : Nat) : (s.extract i j).data.toList = (s.data.toList.take j).drop i := by
  rw [ByteArray.data_extract, Array.toList_extract]
  simp [List.extract_eq_take_drop, List.drop_take]

theorem take_extract (s : ByteArray) (kept a : Nat) (h : kept ≤ a) : s.data.toList.take kept ++ (s.extract kept a).data.toList = s.data.toList.take a := by
  rw [extract_list]
  have := List.take_append_drop kept (s.data.toList.take a)
  rwa [List.take_take, show min kept a = kept from by omega] at this

def seqsS (s : ByteArray) (a kept : Nat) : List Sq := (packS s a kept).map sqOf

theorem seqs_ne (s : ByteArray) (a kept : Nat) : ∃ y r, packS s a kept = y :: r := by
  generalize hn : s.size - a = n
  induction n using Nat.strongRecOn generalizing a kept with
  | ind n ih =>
    by_cases h : a + 4 < s.size
    · by_cases h4 : 4 ≤ (takeN s a).2
      · rw [packS_take h h4]; exact ⟨_, _, rfl⟩
      · rw [packS_step h h4]; exact ih (s.size - (a + 1)) (by omega) (a + 1) kept rfl
    · rw [packS_end h]; exact ⟨_, _, rfl⟩

theorem pack_good (s : ByteArray) (hs : s.size ≤ 10000) (a kept : Nat) (hk : kept ≤ a) (ha : a ≤ s.size) : Good kept (seqsS s a kept) ∧ openFrom (s.data.toList.take kept) (seqsS s a kept) = s.data.toList := by
  generalize hn : s.size - a = n
  induction n using Nat.strongRecOn generalizing a kept with
  | ind n ih =>
    unfold seqsS
    by_cases h : a + 4 < s.size
    · by_cases h4 : 4 ≤ (takeN s a).2
      · obtain ⟨t1, t2, t3, t4⟩ := take_same s a h4
        obtain ⟨g1, g2⟩ := ih (s.size - (a + (takeN s a).2)) (by omega) (a + (takeN s a).2) (a + (takeN s a).2) (Nat.le_refl _) (by omega) rfl
        rw [packS_take h h4, List.map_cons]
        have hlen : (s.extract kept a).data.toList.length = a - kept := by rw [data_length, extract_len s kept a ha hk]
        constructor
        · obtain ⟨y, r, e⟩ := seqs_ne s (a + (takeN s a).2) (a + (takeN s a).2)
          unfold seqsS at g1
          rw [e] at g1 ⊢
          refine ⟨t1, ?_, ?_, h4, ?_⟩
          · show (takeN s a).1 ≤ kept + (s.extract kept a).data.toList.length
            rw [hlen]; omega
          · show (takeN s a).1 < 65536
            omega
          · show Good (kept + (s.extract kept a).data.toList.length + (takeN s a).2) _
            rw [hlen, show kept + (a - kept) = a from by omega]
            exact g1
        · show openFrom (rep (s.data.toList.take kept ++ (s.extract kept a).data.toList) (takeN s a).1 (takeN s a).2) _ = _
          rw [take_extract s kept a hk, rep_take s.data.toList (takeN s a).1 (takeN s a).2 a t1 t2 (by rw [data_length]; omega) (fun j hj => getD_of_bt s _ _ (by omega) (by omega) (t4 j hj))]
          exact g2
      · rw [packS_step h h4]
        exact ih (s.size - (a + 1)) (by omega) (a + 1) kept (by omega) (by omega) rfl
    · rw [packS_end h]
      constructor
      · exact ⟨rfl, rfl⟩
      · show rep (s.data.toList.take kept ++ (s.extract kept s.size).data.toList) 0 0 = _
        rw [take_extract s kept s.size (by omega)]
        show s.data.toList.take s.size = _
        rw [List.take_of_length_le (by rw [data_length]; omega)]

theorem good_dist : ∀ (n : Nat) (q : List (ByteArray × Nat × Nat)), Good n (q.map sqOf) → ∀ x ∈ q, x.2.1 < 65536
  | _, [], h, _, _ => h.elim
  | _, [(l, d, m)], h, x, hx => by
    obtain ⟨h1, _⟩ := h
    simp at hx; subst hx
    show d < 65536
    have : d = 0 := h1
    omega
  | n, (l, d, m) :: y :: r, h, x, hx => by
    obtain ⟨h1, h2, h3, h4, h5⟩ := h
    rcases List.mem_cons.1 hx with rfl | hx
    · exact h3
    · exact good_dist _ (y :: r) h5 x hx

theorem packOf_eq (s : ByteArray) (hs : s.size ≤ 10000) : packOf s = mk (encB (seqsS s 0 0)) := by
  have h := (pack_good s hs 0 0 (Nat.le_refl _) (Nat.zero_le _)).1
  unfold packOf
  rw [← nm_enc _ (good_dist 0 _ h), nm_str]
  rfl

theorem pack_parse (s : ByteArray) (hs : s.size ≤ 10000) : parseOf (packOf s) = some (seqsS s 0 0) := by
  rw [packOf_eq s hs]
  exact parseOf_enc _ (pack_good s hs 0 0 (Nat.le_refl _) (Nat.zero_le _)).1

theorem pack_open (s : ByteArray) (hs : s.size ≤ 10000) : openL (seqsS s 0 0) = s.data.toList :=
  (pack_good s hs 0 0 (Nat.le_refl _) (Nat.zero_le _)).2

theorem pack_total (s : ByteArray) (hs : s.size ≤ 10000) : total (seqsS s 0 0) = s.size := by
  rw [← length_openL, pack_open s hs, data_length]

/-- What is packed is unpacked as it was. -/
theorem pack_unpack (s : ByteArray) (hs : s.size ≤ 10000) : unpackOf (packOf s) (s.size : Int) = (s, 0) := by
  unfold unpackOf
  rw [if_neg (by omega), if_neg (by omega), pack_parse s hs]
  simp only
  rw [if_pos (by rw [pack_total s hs]), pack_open s hs, mk_toList]

end Go.Proofs.Ytflkjofafgoapaa.Pure
