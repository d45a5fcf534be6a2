/- How long a packed text is. -/
import Derived.Test.YtflkjofafgoapaaRound
namespace Go.Proofs.Ytflkjofafgoapaa.Pure
open Go.RowKit Go.Proofs.Ytflkjofafgoapaa.Q Go.Proofs.Ytflkjofafgoapaa.Lz Go.Proofs.YtflkjofafgoapaaW.PrintWords Go.Proofs.YtflkjofafgoapaaW.PrintLast

theorem extB_len : ∀ m, (extB m).length = m / 255 + 1 := by
  intro m
  induction m using Nat.strongRecOn with
  | ind m ih =>
    rw [extB.eq_def]
    by_cases h : 255 ≤ m
    · rw [dif_pos h, List.length_cons, ih (m - 255) (by omega)]; omega
    · rw [dif_neg h]; simp; omega
theorem numB_len (n : Nat) : n < 15 ∧ (numB n).length = 0 ∨ 15 ≤ n ∧ (numB n).length = (n - 15) / 255 + 1 := by
  unfold numB
  by_cases h : n < 15
  · rw [if_pos h]; exact .inl ⟨h, rfl⟩
  · rw [if_neg h, extB_len]; exact .inr ⟨by omega, rfl⟩

theorem seqB_len (l : List UInt8) (d m : Nat) (h : 0 < d) : (seqB (l, d, m)).length = 3 + l.length + (numB l.length).length + (numB (m - 4)).length := by
  simp only [seqB, if_pos h, List.length_cons, List.length_append]; omega
theorem seqB_len0 (l : List UInt8) : (seqB (l, 0, 0)).length = 1 + l.length + (numB l.length).length := by
  simp only [seqB, Nat.lt_irrefl, if_false, List.length_cons, List.length_append, List.length_nil]; omega

theorem arith_more (L M R eL eM : Nat) (h1 : L < 15 ∧ eL = 0 ∨ 15 ≤ L ∧ eL = (L - 15) / 255 + 1) (h2 : M - 4 < 15 ∧ eM = 0 ∨ 15 ≤ M - 4 ∧ eM = (M - 4 - 15) / 255 + 1) (h4 : 4 ≤ M) :
    3 + L + eL + eM + (R + R / 255 + 16) ≤ (L + M + R) + (L + M + R) / 255 + 16 := by omega
theorem arith_end (L eL : Nat) (h1 : L < 15 ∧ eL = 0 ∨ 15 ≤ L ∧ eL = (L - 15) / 255 + 1) : 1 + L + eL ≤ L + L / 255 + 16 := by omega

theorem enc_bound (s : ByteArray) (a kept : Nat) (hk : kept ≤ a) (ha : a ≤ s.size) : (encB (seqsS s a kept)).length ≤ (s.size - kept) + (s.size - kept) / 255 + 16 := by
  generalize hn : s.size - a = n
  induction n using Nat.strongRecOn generalizing a kept with
  | ind n ih =>
    unfold seqsS
    by_cases h : a + 4 < s.size
    · by_cases h4 : 4 ≤ (takeN s a).2
      · obtain ⟨t1, t2, t3, t4⟩ := take_same s a h4
        have g1 := ih (s.size - (a + (takeN s a).2)) (by omega) (a + (takeN s a).2) (a + (takeN s a).2) (Nat.le_refl _) (by omega) rfl
        rw [packS_take h h4, List.map_cons, encB_cons, List.length_append]
        have hlen : (s.extract kept a).data.toList.length = a - kept := by rw [data_length, extract_len s kept a ha hk]
        have e1 := seqB_len (s.extract kept a).data.toList (takeN s a).1 (takeN s a).2 t1
        rw [hlen] at e1
        have e2 := arith_more (a - kept) (takeN s a).2 (s.size - (a + (takeN s a).2)) _ _ (numB_len (a - kept)) (numB_len ((takeN s a).2 - 4)) h4
        rw [← e1, show a - kept + (takeN s a).2 + (s.size - (a + (takeN s a).2)) = s.size - kept from by omega] at e2
        exact Nat.le_trans (Nat.add_le_add_left g1 _) e2
      · rw [packS_step h h4]
        exact ih (s.size - (a + 1)) (by omega) (a + 1) kept (by omega) (by omega) rfl
    · rw [packS_end h]
      show (encB [((s.extract kept s.size).data.toList, 0, 0)]).length ≤ _
      rw [encB_cons, encB_nil, List.append_nil, seqB_len0, data_length, extract_len s kept s.size (Nat.le_refl _) (by omega)]
      exact arith_end _ _ (numB_len _)

theorem pack_bound (s : ByteArray) (hs : s.size ≤ 10000) : (packOf s).size ≤ s.size + s.size / 255 + 16 := by
  rw [packOf_eq s hs, mk_sz]
  have := enc_bound s 0 0 (Nat.le_refl _) (Nat.zero_le _)
  simpa using this


end Go.Proofs.Ytflkjofafgoapaa.Pure
