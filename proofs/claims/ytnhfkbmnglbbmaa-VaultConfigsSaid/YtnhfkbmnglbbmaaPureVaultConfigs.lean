/- The plain law of VaultConfigs: Check, Encode and Decode answer as the document's do. -/
import Derived.Test.YtnhfkbmnglbbmaaQx7
import Derived.Test.YtnhfkbmnglbbmaaQx13
import Derived.Test.YtnhfkbmnglbbmaaQx30
import Derived.Test.YtnhfkbmnglbbmaaHDecode
namespace Go.Proofs.Ytnhfkbmnglbbmaa.Pure
open Go.RowKit Go.Proofs.YtnhfkbmnglbbmaaW.PrintWords Go.Proofs.YtnhfkbmnglbbmaaW.PrintLast Go.Proofs.YtnhfkbmnglbbmaaW.PrintMore
open Go.Proofs.Ytnhfkbmnglbbmaa.Q

/-! ### Check -/
theorem gear_same (a b c : Int) : gear_Check.f a b c = garretref11_Check.f a b c := by
  unfold gear_Check.f garretref11_Check.f
  repeat' split
  all_goals first | rfl | omega
theorem gear_code (a b c : Int) : gear_Check.f a b c = some 0 ∨ gear_Check.f a b c = some 1 := by
  unfold gear_Check.f
  repeat' split
  all_goals first | exact .inl rfl | exact .inr rfl
theorem object_code (a b : Int) : object_Check.f a b = some 0 ∨ object_Check.f a b = some 1 := by
  unfold object_Check.f
  repeat' split
  all_goals first | exact .inl rfl | exact .inr rfl
theorem check_same (a0 a1 a2 a3 a4 a5 : Int) : ∃ t, vault_Check.f a0 a1 a2 a3 a4 a5 = some t ∧ garretref24_Check.f a0 a1 a2 a3 a4 a5 = some t := by
  have e0 : garretref10_Check.f a0 a1 = object_Check.f a0 a1 := rfl
  have e1 := gear_same a2 a3 a4
  unfold vault_Check.f garretref24_Check.f vault_Config_kit.f
  rw [e0, ← e1]
  rcases object_code a0 a1 with h0 | h0 <;> rcases gear_code a2 a3 a4 with h1 | h1 <;> simp only [h0, h1, Option.bind_some, mx]
  · by_cases c : a5 < 64
    · exact ⟨1, by simp [c], by simp [c]⟩
    · by_cases d : a5 > 65536
      · exact ⟨1, by simp [c, d], by simp [c, d]⟩
      · exact ⟨0, by simp [c, d], by simp [c, d]⟩
  · exact ⟨1, by simp, by simp⟩
  · exact ⟨1, by simp, by simp⟩
  · exact ⟨1, by simp, by simp⟩

/-! ### A short number, written -/
theorem or128 (x : Int) : Go.bits .or .u8 (x % 256) 128 = (128 + x % 128) % 256 := by
  have h : ∀ n : Fin 256, Go.bits .or .u8 ((n.val : Nat) : Int) 128 = (128 + ((n.val : Nat) : Int) % 128) % 256 := by decide +kernel
  have h1 := h ⟨(x % 256).toNat, by omega⟩
  simp only at h1
  rw [show (((x % 256).toNat : Nat) : Int) = x % 256 from by omega] at h1
  rw [h1]
  omega
theorem wrap_id (n : Int) (h0 : -9223372036854775808 ≤ n) (h1 : n < 9223372036854775808) : wrap64 n = n := by unfold wrap64; omega
theorem small_same : ∀ (k : Nat) (x : Int) (l : List Int), 0 ≤ x → x < 9223372036854775808 → num_Short.l0 k x l = (garretref01_Small.l0 k x l).map (fun r => (r, 0))
  | 0, _, _, _, _ => rfl
  | k + 1, x, l, h0, h1 => by
    unfold num_Short.l0 garretref01_Small.l0
    have e1 : wrap64 (Int.tdiv x 128) = x / 128 := by rw [Int.tdiv_eq_ediv_of_nonneg h0]; exact wrap_id _ (by omega) (by omega)
    have e2 : (wrap64 (128 + Int.tmod x 128)) % 256 = Go.bits .or .u8 (x % 256) 128 := by
      rw [or128, Int.tmod_eq_emod_of_nonneg h0, wrap_id _ (by omega) (by omega)]
    rw [e1, e2]
    by_cases c : x ≥ 128
    · rw [if_pos c, if_pos c]
      by_cases d : l.length < 140737488355328
      · rw [if_pos d, if_pos d]
        exact small_same k _ _ (by omega) (by omega)
      · rw [if_neg d, if_neg d]; rfl
    · rw [if_neg c, if_neg c]
      by_cases d : l.length < 140737488355328
      · rw [if_pos d, if_pos d]; rfl
      · rw [if_neg d, if_neg d]; rfl
theorem strSize (l : List Int) : (strOfNums l).size = l.length := by simp only [strOfNums, ByteArray.size, List.size_toArray, List.length_map]
theorem small_some (x : Int) (h0 : 0 ≤ x) (h1 : x ≤ 65536) : ∃ r, garretref01_Small.f 4 x = some r ∧ r.size ≤ 4 := by
  unfold garretref01_Small.f
  have e1 : wrap64 (Int.tdiv x 128) = x / 128 := by rw [Int.tdiv_eq_ediv_of_nonneg h0]; exact wrap_id _ (by omega) (by omega)
  have e2 : wrap64 (Int.tdiv (x / 128) 128) = x / 128 / 128 := by rw [Int.tdiv_eq_ediv_of_nonneg (by omega)]; exact wrap_id _ (by omega) (by omega)
  by_cases c0 : x ≥ 128
  · by_cases c1 : x / 128 ≥ 128
    · by_cases c2 : x / 128 / 128 ≥ 128
      · omega
      · exact ⟨strOfNums ([] ++ [wrap64 (128 + x.tmod 128) % 256] ++ [wrap64 (128 + (x / 128).tmod 128) % 256] ++ [x / 128 / 128 % 256]), by
          simp only [garretref01_Small.l0, if_pos c0, e1, if_pos c1, e2, if_neg c2, List.length_nil, List.length_append, List.length_cons, Nat.reduceAdd, Nat.reduceLT, if_true], by rw [strSize]; simp only [List.length_nil, List.length_append, List.length_cons]; omega⟩
    · exact ⟨strOfNums ([] ++ [wrap64 (128 + x.tmod 128) % 256] ++ [x / 128 % 256]), by
          simp only [garretref01_Small.l0, if_pos c0, e1, if_neg c1, List.length_nil, List.length_append, List.length_cons, Nat.reduceAdd, Nat.reduceLT, if_true], by rw [strSize]; simp only [List.length_nil, List.length_append, List.length_cons]; omega⟩
  · exact ⟨strOfNums ([] ++ [x % 256]), by simp only [garretref01_Small.l0, if_neg c0, List.length_nil, Nat.reduceLT, if_true], by rw [strSize]; simp only [List.length_nil, List.length_append, List.length_cons]; omega⟩
theorem short_small (x : Int) (h0 : 0 ≤ x) (h1 : x < 9223372036854775808) (k : Nat) (r : ByteArray) (h : garretref01_Small.f k x = some r) : num_Short.f k x = some (r, 0) := by
  unfold num_Short.f
  rw [if_neg (by omega), small_same k x [] h0 h1]
  unfold garretref01_Small.f at h
  rw [h]; rfl

/-! ### Encode -/
theorem checked (a0 a1 a2 a3 a4 a5 : Int) (h : garretref24_Check.f a0 a1 a2 a3 a4 a5 = some 0) : (0 ≤ a2 ∧ a2 ≤ 65536) ∧ (0 ≤ a3 ∧ a3 ≤ 65536) ∧ (0 ≤ a4 ∧ a4 ≤ 65536) ∧ (0 ≤ a5 ∧ a5 ≤ 65536) := by
  unfold garretref24_Check.f at h
  obtain ⟨t, _, h⟩ := Option.bind_eq_some_iff.mp h
  split at h
  · obtain ⟨u, hu, h⟩ := Option.bind_eq_some_iff.mp h
    split at h
    · rename_i hu0
      subst hu0
      unfold garretref11_Check.f at hu
      repeat' split at hu
      all_goals first | (simp at hu; done) | skip
      repeat' split at h
      all_goals first | (simp at h; done) | skip
      omega
    · simp at h
  · simp at h
theorem rd4 (a b c d : Int) : rd [a, b, c, d] 0 = a ∧ rd [a, b, c, d] 1 = b ∧ rd [a, b, c, d] 2 = c ∧ rd [a, b, c, d] 3 = d := ⟨rfl, rfl, rfl, rfl⟩
theorem encode_same (a0 a1 a2 a3 a4 a5 : Int) : ∃ r, vault_Encode.f 9 a0 a1 a2 a3 a4 a5 = some r ∧ garretref24_Encode.f 4 a0 a1 a2 a3 a4 a5 = some r := by
  obtain ⟨t, hv, hr⟩ := check_same a0 a1 a2 a3 a4 a5
  by_cases ht : t = 0
  · subst ht
    obtain ⟨⟨l2, u2⟩, ⟨l3, u3⟩, ⟨l4, u4⟩, ⟨l5, u5⟩⟩ := checked _ _ _ _ _ _ hr
    obtain ⟨t2, s2, z2⟩ := small_some a2 l2 u2
    obtain ⟨t3, s3, z3⟩ := small_some a3 l3 u3
    obtain ⟨t4, s4, z4⟩ := small_some a4 l4 u4
    obtain ⟨t5, s5, z5⟩ := small_some a5 l5 u5
    have up : ∀ x r, garretref01_Small.f 4 x = some r → ∀ n, garretref01_Small.f (4 + n) x = some r := fun x r h n => by
      induction n with
      | zero => exact h
      | succ n ih => exact garretref01_Small.mono x (4 + n) r ih
    have v2 := short_small a2 l2 (by omega) 8 t2 (up _ _ s2 4)
    have v3 := short_small a3 l3 (by omega) 7 t3 (up _ _ s3 3)
    have v4 := short_small a4 l4 (by omega) 6 t4 (up _ _ s4 2)
    have v5 := short_small a5 l5 (by omega) 5 t5 (up _ _ s5 1)
    have hy : (strOfNums [a0 % 256, a1 % 256]).size = 2 := by simp [strOfNums, ByteArray.size]
    have hm : (⟨#[71, 82, 84, 67, 1]⟩ : ByteArray).size = 5 := rfl
    have w1 : wrap64 (0 + 1) = 1 := wrap_id _ (by omega) (by omega)
    have w2 : wrap64 (1 + 1) = 2 := wrap_id _ (by omega) (by omega)
    have w3 : wrap64 (2 + 1) = 3 := wrap_id _ (by omega) (by omega)
    have w4 : wrap64 (3 + 1) = 4 := wrap_id _ (by omega) (by omega)
    obtain ⟨r0, r1, r2, r3⟩ := rd4 a2 a3 a4 a5
    refine ⟨(((((⟨#[71, 82, 84, 67, 1]⟩ : ByteArray) ++ strOfNums [a0 % 256, a1 % 256]) ++ t2 ++ t3 ++ t4 ++ t5)), 0), ?_, ?_⟩
    · unfold vault_Encode.f
      rw [hv]
      simp only [Option.bind_some, if_true]
      rw [if_pos (by omega)]
      simp only [vault_Encode.l0, List.length_cons, List.length_nil, r0, r1, r2, r3, v2, v3, v4, v5, w1, w2, w3, w4, Option.bind_some, ByteArray.size_append, hy, hm]
      rw [if_pos (by decide), if_pos (by decide), if_pos (by decide), if_pos (by omega), if_pos (by decide), if_pos (by decide), if_pos (by decide), if_pos (by omega), if_pos (by decide), if_pos (by decide), if_pos (by decide), if_pos (by omega), if_pos (by decide), if_pos (by decide), if_pos (by decide), if_pos (by omega), if_neg (by decide)]
    · unfold garretref24_Encode.f
      rw [hr]
      simp only [Option.bind_some, if_true]
      unfold garretref24_Text.f
      simp only [Option.bind_some, s2, s3, s4, s5, ByteArray.size_append, hy, hm]
      rw [if_pos (by omega), if_pos (by omega), if_pos (by omega), if_pos (by omega), if_pos (by omega)]
      rfl
  · refine ⟨(⟨#[]⟩, t), ?_, ?_⟩
    · unfold vault_Encode.f
      rw [hv]
      simp only [Option.bind_some, if_neg ht]
    · unfold garretref24_Encode.f
      rw [hr]
      simp only [Option.bind_some, if_neg ht]
theorem works_true : garretlaw24_works.f 9 = some true := by decide +kernel

/-! ### Decode -/
theorem bt_cut (S : ByteArray) (A i : Nat) (h : A + i < S.size) : bt (S.extract A S.size) (i : Int) = bt S ((A + i : Nat) : Int) := by
  unfold bt
  simp only [Int.toNat_natCast]
  rw [dif_pos (by simp only [ByteArray.size_extract]; omega), dif_pos h]
  simp only [ByteArray.getElem_extract]
theorem size_cut (S : ByteArray) (A : Nat) (h : A ≤ S.size) : (S.extract A S.size).size = S.size - A := by simp only [ByteArray.size_extract]; omega
theorem cut_cut (S : ByteArray) (A n : Nat) (h : A + n ≤ S.size) : (S.extract A S.size).extract n (S.extract A S.size).size = S.extract (A + n) S.size := by
  rw [size_cut S A (by omega)]
  simp only [ByteArray.extract_extract]
  congr 1
  omega
theorem orComm (k : IntKind) (a b : Int) : Go.bits .or k a b = Go.bits .or k b a := by
  unfold Go.bits
  simp only [BitVec.or_comm]
theorem wraps63 (n : Int) (h0 : 0 ≤ n) (h1 : n < 2 ^ 63) : IntKind.i64.wrap n = n := by rw [IntKind.wrap_i64]; omega
theorem andNot128 (c : Int) (h0 : 0 ≤ c) (h1 : c ≤ 255) : Go.bits .andNot .i64 c 128 = c % 128 := by
  have h : ∀ n : Fin 256, Go.bits .andNot .i64 ((n.val : Nat) : Int) 128 = ((n.val : Nat) : Int) % 128 := by decide +kernel
  have h2 := h ⟨c.toNat, by omega⟩
  simp only at h2
  rwa [show ((c.toNat : Nat) : Int) = c from by omega] at h2
theorem shl_eq (x : Int) (i : Nat) (hi : i < 9) (h0 : 0 ≤ x) (h1 : x < 128) : shl .i64 x ((7 * i : Nat) : Int) = x * 2 ^ (7 * i) ∧ x * 2 ^ (7 * i) ≤ 127 * 2 ^ (7 * i) ∧ 0 ≤ x * 2 ^ (7 * i) := by
  have hp : (0 : Int) < 2 ^ (7 * i) := Int.pow_pos (by decide)
  have hm : x * 2 ^ (7 * i) ≤ 127 * 2 ^ (7 * i) := Int.mul_le_mul_of_nonneg_right (by omega) (Int.le_of_lt hp)
  have h0' : 0 ≤ x * 2 ^ (7 * i) := Int.mul_nonneg h0 (Int.le_of_lt hp)
  refine ⟨?_, hm, h0'⟩
  unfold shl
  rw [Int.toNat_natCast, Nat.min_eq_left (show 7 * i ≤ IntKind.i64.bits from by show 7 * i ≤ 64; omega)]
  refine wraps63 _ h0' (Int.lt_of_le_of_lt hm ?_)
  have hp2 : (2 : Int) ^ (7 * i) ≤ 2 ^ 56 := by
    have : (2 : Nat) ^ (7 * i) ≤ 2 ^ 56 := Nat.pow_le_pow_right (by decide) (by omega)
    exact_mod_cast this
  omega
theorem j1_eq (k : Nat) (m x i : Int) (b : Bool) (S : ByteArray) (a e : Int) : garretref01_Reader_Short.j1 (k + 1) m x i b S a e = if b = true then some (0, S, a, 3) else if x > m then some (0, S, a, 2) else some (x, S, wrap64 (a + wrap64 (i + 1)), e) := by simp only [garretref01_Reader_Short.j1]
theorem bt_one (S : ByteArray) (A : Nat) (h : A + 1 ≤ S.size) : bt (S.extract A (A + 1)) 0 = bt S (A : Int) := by
  unfold bt
  have h1 : (0 : Int).toNat < (S.extract A (A + 1)).size := by simp only [ByteArray.size_extract]; show 0 < _; omega
  have h2 : ((A : Nat) : Int).toNat < S.size := by omega
  rw [dif_pos h1, dif_pos h2]
  simp only [ByteArray.getElem_extract, Int.toNat_natCast, Int.toNat_zero, Nat.add_zero]
theorem cut_one (S : ByteArray) (A : Nat) (h : A + 1 ≤ S.size) : (S.extract A S.size).extract 0 1 = S.extract A (A + 1) := by
  simp only [ByteArray.extract_extract]
  congr 1
  omega
/-- One byte more: both ways of adding it are one. -/
theorem more_same (n c : Int) (i : Nat) (hi : i < 9) (n0 : 0 ≤ n) (n1 : n < 2 ^ (7 * i)) (c0 : 0 ≤ c) (c1 : c ≤ 255) :
    Go.bits .or .i64 n (shl .i64 (Go.bits .andNot .i64 (wrap64 c) 128) (wrap64 (7 * (i : Int)))) = n + c % 128 * 2 ^ (7 * i) ∧
      wrap64 (n + shl .i64 (Int.tmod (wrap64 c) 128) (wrap64 (7 * (i : Int)))) = n + c % 128 * 2 ^ (7 * i) ∧ 0 ≤ n + c % 128 * 2 ^ (7 * i) ∧ n + c % 128 * 2 ^ (7 * i) < 2 ^ (7 * (i + 1)) ∧ n + c % 128 * 2 ^ (7 * i) < 2 ^ 63 := by
  have w1 : wrap64 c = c := wrap_id _ (by omega) (by omega)
  have w2 : wrap64 (7 * (i : Int)) = ((7 * i : Nat) : Int) := by rw [wrap_id _ (by omega) (by omega)]; omega
  obtain ⟨e, hm, h0⟩ := shl_eq (c % 128) i hi (by omega) (by omega)
  rw [w1, w2, andNot128 c c0 c1, Int.tmod_eq_emod_of_nonneg c0, e]
  have hp : (2 : Int) ^ (7 * (i + 1)) = 128 * 2 ^ (7 * i) := by
    rw [show 7 * (i + 1) = 7 * i + 7 from by omega, Int.pow_add, Int.mul_comm]; rfl
  have hp2 : (2 : Int) ^ (7 * (i + 1)) ≤ 2 ^ 63 := by
    have : (2 : Nat) ^ (7 * (i + 1)) ≤ 2 ^ 63 := Nat.pow_le_pow_right (by decide) (by omega)
    exact_mod_cast this
  have hp3 : (2 : Int) ^ 63 = 9223372036854775808 := by decide
  generalize hP : (2 : Int) ^ (7 * i) = P at *
  generalize hV : c % 128 * P = V at *
  have hlt : n + V < 128 * P := by omega
  have h63 : n + V < 9223372036854775808 := by omega
  have hz : V % P = 0 := by rw [← hV]; exact Int.mul_emod_left _ _
  refine ⟨?_, wrap_id _ (by omega) (by omega), by omega, by omega, by omega⟩
  rw [orComm, Int.add_comm]
  exact bits_join .i64 63 (by decide) wraps63 (7 * i) V n h0 (by rw [hP]; exact hz) (by omega) n0 (by rw [hP]; exact n1) (by omega)
/-- What a short number ends as, for a reader of the document at A. -/
def endS (S : ByteArray) (A : Nat) (most : Int) (r : Int × Int × Int) : Int × ByteArray × Int × Int :=
  if r.2.2 = 0 then if r.1 > most then (0, S, (A : Int), 2) else (r.1, S, (A : Int) + r.2.1, 0) else (0, S, (A : Int), r.2.2)
theorem short_loops (S : ByteArray) (A : Nat) (most : Int) (hA : A ≤ S.size) (hS : S.size ≤ 10000) : ∀ (j i : Nat) (n : Int), i + j = 9 → A + i ≤ S.size → 0 ≤ n → n < 2 ^ (7 * i) →
    ∃ r : Int × Int × Int, num_short.l0 (j + 1) (S.extract A S.size) n (mn ((S.extract A S.size).size : Int) 9) (i : Int) = some r ∧
      garretref01_Reader_Short.l0 (j + 2) most n (i : Int) S (A : Int) 0 = some (endS S A most r) ∧ (r.2.2 = 0 → 0 ≤ r.2.1 ∧ (A : Int) + r.2.1 ≤ S.size) := by
  intro j
  induction j with
  | zero =>
    intro i n hi hAi n0 n1
    have hi9 : i = 9 := by omega
    subst hi9
    refine ⟨(0, 0, 3), ?_, ?_, by simp⟩
    · unfold num_short.l0
      rw [size_cut S A hA]
      rw [if_neg (by unfold mn; split <;> omega), if_neg (by omega)]
    · unfold garretref01_Reader_Short.l0
      rw [if_neg (by decide)]
      simp [endS]
  | succ j ih =>
    intro i n hi hAi n0 n1
    have wi : wrap64 ((A : Int) + (i : Int)) = ((A + i : Nat) : Int) := by rw [wrap_id _ (by omega) (by omega)]; omega
    have wj : wrap64 ((i : Int) + 1) = ((i + 1 : Nat) : Int) := by rw [wrap_id _ (by omega) (by omega)]; omega
    have w7 : wrap64 (7 * (i : Int)) = ((7 * i : Nat) : Int) := by rw [wrap_id _ (by omega) (by omega)]; omega
    by_cases hin : A + i < S.size
    · have hc := bt_range S ((A + i : Nat) : Int)
      obtain ⟨m1, m2, m3, m4, m5⟩ := more_same n (bt S ((A + i : Nat) : Int)) i (by omega) n0 n1 hc.1 hc.2
      have wc : wrap64 (bt S ((A + i : Nat) : Int)) = bt S ((A + i : Nat) : Int) := wrap_id _ (by omega) (by omega)
      have hN : num_short.l0 (j + 1 + 1) (S.extract A S.size) n (mn ((S.extract A S.size).size : Int) 9) (i : Int) = (if bt S ((A + i : Nat) : Int) ≥ 128 then num_short.l0 (j + 1) (S.extract A S.size) (n + bt S ((A + i : Nat) : Int) % 128 * 2 ^ (7 * i)) (mn ((S.extract A S.size).size : Int) 9) ((i + 1 : Nat) : Int) else (if bt S ((A + i : Nat) : Int) = 0 then (if (i : Int) > 0 then some (0, 0, 3) else some (n + bt S ((A + i : Nat) : Int) % 128 * 2 ^ (7 * i), ((i + 1 : Nat) : Int), 0)) else some (n + bt S ((A + i : Nat) : Int) % 128 * 2 ^ (7 * i), ((i + 1 : Nat) : Int), 0))) := by
        conv => lhs; unfold num_short.l0
        rw [if_pos (by rw [size_cut S A hA]; unfold mn; split <;> omega), if_pos (by omega), if_pos (by rw [size_cut S A hA]; omega), if_pos (by rw [w7]; omega), bt_cut S A i hin, m1, wj, wc]
      have hR : garretref01_Reader_Short.l0 (j + 1 + 2) most n (i : Int) S (A : Int) 0 = (if bt S ((A + i : Nat) : Int) < 128 then (if bt S ((A + i : Nat) : Int) = 0 then garretref01_Reader_Short.j1 (j + 2) most (n + bt S ((A + i : Nat) : Int) % 128 * 2 ^ (7 * i)) (i : Int) (decide ((i : Int) > 0)) S (A : Int) 0 else garretref01_Reader_Short.j1 (j + 2) most (n + bt S ((A + i : Nat) : Int) % 128 * 2 ^ (7 * i)) (i : Int) false S (A : Int) 0) else garretref01_Reader_Short.l0 (j + 2) most (n + bt S ((A + i : Nat) : Int) % 128 * 2 ^ (7 * i)) ((i + 1 : Nat) : Int) S (A : Int) 0) := by
        conv => lhs; unfold garretref01_Reader_Short.l0
        rw [if_pos (show (i : Int) < 9 by omega), wi, if_neg (by omega), if_pos (by omega), if_pos (by omega), if_pos (by rw [w7]; omega), m2, wc, wj]
      rw [hN, hR]
      clear hN hR m1 m2
      by_cases h128 : bt S ((A + i : Nat) : Int) ≥ 128
      · rw [if_pos h128, if_neg (by omega)]
        exact ih (i + 1) _ (by omega) (by omega) m3 m4
      · rw [if_neg h128, if_pos (show bt S ((A + i : Nat) : Int) < 128 by omega)]
        by_cases h0 : bt S ((A + i : Nat) : Int) = 0
        · rw [if_pos h0, if_pos h0]
          by_cases hi0 : (i : Int) > 0
          · rw [if_pos hi0]
            refine ⟨_, rfl, ?_, by simp⟩
            unfold garretref01_Reader_Short.j1
            rw [decide_eq_true hi0]
            simp [endS]
          · rw [if_neg hi0]
            refine ⟨_, rfl, ?_, fun _ => ⟨by simp only; omega, by simp only; omega⟩⟩
            rw [j1_eq, decide_eq_false hi0, if_neg (by decide)]
            unfold endS
            simp only [if_true]
            split
            · rfl
            · rw [wj, wrap_id _ (by omega) (by omega)]
        · rw [if_neg h0, if_neg h0]
          refine ⟨_, rfl, ?_, fun _ => ⟨by simp only; omega, by simp only; omega⟩⟩
          rw [j1_eq, if_neg (by decide)]
          unfold endS
          simp only [if_true]
          split
          · rfl
          · rw [wj, wrap_id _ (by omega) (by omega)]
    · refine ⟨(0, 0, 10), ?_, ?_, by simp⟩
      · unfold num_short.l0
        rw [size_cut S A hA]
        rw [if_neg (by unfold mn; split <;> omega), if_pos (by omega)]
      · unfold garretref01_Reader_Short.l0
        rw [if_pos (by omega), wi, if_pos (by omega)]
        simp [endS]
/-- A reader of the program and one of the document that stand at one place. -/
theorem short_step (S : ByteArray) (hS : S.size ≤ 10000) (A : Nat) (hA : A ≤ S.size) (e : Int) :
    ∃ (n : Int) (A' : Nat) (e' : Int), A' ≤ S.size ∧ num_Reader_Short.f 10 (S.extract A S.size) e 65536 = some (n, S.extract A' S.size, e') ∧ garretref01_Reader_Short.f 11 S (A : Int) e 65536 = some (n, S, (A' : Int), e') := by
  obtain ⟨⟨n, long, c⟩, h1, h2, h3⟩ := short_loops S A 65536 hA hS 9 0 0 rfl (by omega) (by omega) (by decide)
  simp only at h3
  unfold num_Reader_Short.f garretref01_Reader_Short.f
  have h1' : num_short.f 10 (S.extract A S.size) = some (n, long, c) := h1
  rw [h1']
  simp only [Option.bind_some]
  by_cases he : e = 0
  · subst he
    rw [if_pos rfl]
    replace h2 : garretref01_Reader_Short.l0 11 65536 0 0 S (A : Int) 0 = some (endS S A 65536 (n, long, c)) := h2
    rw [h2]
    by_cases hc : c = 0
    · subst hc
      obtain ⟨l0, l1⟩ := h3 rfl
      by_cases hn : n > 65536
      · refine ⟨0, A, 2, hA, ?_, by simp [endS, hn]⟩
        rw [if_pos rfl, decide_eq_true hn]
        simp [num_Reader_Short.j0, num_Reader_Fail.f]
      · refine ⟨n, A + long.toNat, 0, by omega, ?_, by simp [endS, hn]; omega⟩
        rw [if_pos rfl, decide_eq_false hn]
        simp [num_Reader_Short.j0, num_Reader_Fail.f, l0]
        exact ⟨by omega, by rw [← size_cut S A hA]; exact cut_cut S A long.toNat (by omega)⟩
    · refine ⟨0, A, c, hA, ?_, by simp [endS, hc]⟩
      rw [if_neg hc]
      simp [num_Reader_Short.j0, num_Reader_Fail.f, hc]
  · refine ⟨0, A, e, hA, ?_, by rw [if_neg he]⟩
    by_cases hc : c = 0
    · rw [if_pos hc]
      cases decide (n > 65536) <;> simp [num_Reader_Short.j0, num_Reader_Fail.f, he]
    · rw [if_neg hc]
      simp [num_Reader_Short.j0, num_Reader_Fail.f, he]
theorem num_one (x : ByteArray) (h : x.size ≤ 1) : garretref01_Num.f 10 x = some (if x.size = 0 then 0 else bt x 0) := by
  unfold garretref01_Num.f
  unfold garretref01_Num.l0
  by_cases h0 : x.size = 0
  · rw [if_neg (by omega), if_pos h0]
  · have hb := bt_range x 0
    rw [if_pos (by omega), if_pos (by omega), if_neg h0]
    unfold garretref01_Num.l0
    rw [if_neg (by rw [wrap_id _ (by omega) (by omega)]; omega)]
    rw [wrap_id (0 * 256) (by omega) (by omega), wrap_id (bt x 0) (by omega) (by omega), wrap_id _ (by omega) (by omega)]
    congr 1; omega
theorem fixed_step (S : ByteArray) (hS : S.size ≤ 10000) (A : Nat) (hA : A ≤ S.size) (e : Int) :
    ∃ (n : Int) (A' : Nat) (e' : Int), A' ≤ S.size ∧ num_Reader_Fixed.f (S.extract A S.size) e 1 = some (n, S.extract A' S.size, e') ∧ garretref01_Reader_Fixed.f 11 S (A : Int) e 1 = some (n, S, (A' : Int), e') := by
  have hz : (⟨#[]⟩ : ByteArray).size = 0 := rfl
  unfold num_Reader_Fixed.f garretref01_Reader_Fixed.f
  rw [if_pos rfl]
  have j0 : ∀ e, garretref01_Reader_Fixed.j0 11 1 false S (A : Int) e = ((garretref01_Reader_Bytes.f S (A : Int) e 1).bind fun b => ((garretref01_Num.f 10 b.1).bind fun t => some (t, b.2.1, b.2.2.1, b.2.2.2))) := fun _ => rfl
  by_cases he : e = 0
  · subst he
    rw [if_pos rfl, if_neg (by decide), show decide ((1 : Int) > 7) = false from rfl, j0]
    by_cases h1 : A + 1 ≤ S.size
    · refine ⟨bt S (A : Int), A + 1, 0, h1, ?_, ?_⟩
      · have hb : num_Reader_Bytes.f (S.extract A S.size) 0 1 = some ((S.extract A S.size).extract 0 1, (S.extract A S.size).extract 1 (S.extract A S.size).size, 0) := by
          unfold num_Reader_Bytes.f num_Reader_Left.f
          rw [if_neg (by decide)]
          simp only [Option.bind_some]
          rw [if_neg (by rw [size_cut S A hA]; omega), if_pos True.intro, if_pos (by decide), if_pos (by rw [size_cut S A hA]; omega)]
          rfl
        rw [hb]
        simp only [Option.bind_some]
        have hs : ((S.extract A S.size).extract 0 1).size = 1 := by simp only [ByteArray.size_extract]; omega
        rw [if_pos (by omega), if_neg (by omega), cut_cut S A 1 h1]
        rw [cut_one S A h1, bt_one S A h1]
      · have w1 : wrap64 ((A : Int) + 1) = ((A + 1 : Nat) : Int) := by rw [wrap_id _ (by omega) (by omega)]; omega
        have w2 : wrap64 (((A + 1 : Nat) : Int) - 1) = (A : Int) := by rw [wrap_id _ (by omega) (by omega)]; omega
        have w3 : wrap64 ((S.size : Int) - (A : Int)) = (S.size : Int) - A := wrap_id _ (by omega) (by omega)
        have hb : garretref01_Reader_Bytes.f S (A : Int) 0 1 = some (S.extract A (A + 1), S, ((A + 1 : Nat) : Int), 0) := by
          unfold garretref01_Reader_Bytes.f garretref01_Reader_Left.f
          rw [if_pos rfl, if_neg (by decide)]
          simp only [Option.bind_some, w1, w2, w3]
          rw [if_neg (by omega), if_pos (by omega), if_pos (by omega), if_pos (by omega)]
          simp only [Int.toNat_natCast]
        rw [hb]
        simp only [Option.bind_some]
        have hs : (S.extract A (A + 1)).size = 1 := by simp only [ByteArray.size_extract]; omega
        rw [num_one _ (by omega), if_neg (by omega)]
        simp only [Option.bind_some]
        rw [bt_one S A h1]
    · refine ⟨0, A, 10, hA, ?_, ?_⟩
      · have hb : num_Reader_Bytes.f (S.extract A S.size) 0 1 = some (⟨#[]⟩, S.extract A S.size, 10) := by
          unfold num_Reader_Bytes.f num_Reader_Left.f num_Reader_Fail.f
          rw [if_neg (by decide)]
          simp only [Option.bind_some]
          rw [if_pos (by rw [size_cut S A hA]; omega)]
          rfl
        rw [hb]
        simp only [Option.bind_some]
        rw [hz, if_pos (by omega), if_pos rfl]
      · have w3 : wrap64 ((S.size : Int) - (A : Int)) = (S.size : Int) - A := wrap_id _ (by omega) (by omega)
        have hb : garretref01_Reader_Bytes.f S (A : Int) 0 1 = some (⟨#[]⟩, S, (A : Int), 10) := by
          unfold garretref01_Reader_Bytes.f garretref01_Reader_Left.f
          rw [if_pos rfl, if_neg (by decide)]
          simp only [Option.bind_some, w3]
          rw [if_pos (by omega)]
        rw [hb]
        simp only [Option.bind_some]
        rw [num_one _ (by rw [hz]; omega), hz]
        rfl
  · refine ⟨0, A, e, hA, ?_, ?_⟩
    · have hb : num_Reader_Bytes.f (S.extract A S.size) e 1 = some (⟨#[]⟩, S.extract A S.size, e) := by
        unfold num_Reader_Bytes.f num_Reader_Left.f num_Reader_Fail.f
        rw [if_neg (by decide)]
        simp only [Option.bind_some, if_neg he]
        split <;> rfl
      rw [hb]
      simp only [Option.bind_some]
      rw [hz, if_pos (by omega), if_pos rfl]
    · rw [if_neg he, j0]
      have hb : garretref01_Reader_Bytes.f S (A : Int) e 1 = some (⟨#[]⟩, S, (A : Int), e) := by
        unfold garretref01_Reader_Bytes.f
        rw [if_neg he]
      rw [hb]
      simp only [Option.bind_some]
      rw [num_one _ (by rw [hz]; omega), hz]
      rfl
theorem end_step (S : ByteArray) (hS : S.size ≤ 10000) (A : Nat) (hA : A ≤ S.size) (e : Int) :
    ∃ (c : Int) (x : ByteArray × Int) (y : ByteArray × Int × Int), num_Reader_End.f (S.extract A S.size) e = some (c, x) ∧ garretref01_Reader_End.f S (A : Int) e = some (c, y) := by
  have w3 : wrap64 ((S.size : Int) - (A : Int)) = (S.size : Int) - A := wrap_id _ (by omega) (by omega)
  unfold num_Reader_End.f garretref01_Reader_End.f num_Reader_Left.f garretref01_Reader_Left.f
  simp only [Option.bind_some, w3]
  rw [size_cut S A hA]
  by_cases h : S.size - A > 0
  · rw [if_pos (by omega), if_pos (by omega)]
    unfold num_Reader_Fail.f garretref01_Reader_Fail.f
    by_cases he : e = 0
    · exact ⟨3, _, _, by rw [if_pos he]; rfl, by rw [if_pos he]; rfl⟩
    · exact ⟨e, _, _, by rw [if_neg he]; rfl, by rw [if_neg he]; rfl⟩
  · rw [if_neg (by omega), if_neg (by omega)]
    exact ⟨e, _, _, rfl, rfl⟩
theorem decode_same (s : ByteArray) (h : s.size ≤ 10000) : ∃ r, vault_Decode.f 10 s = some r ∧ garretref24_Decode.f 12 s = some r := by
  by_cases h5 : s.size < 5
  · refine ⟨(0, 0, 0, 0, 0, 0, 3), ?_, ?_⟩
    · have hb : num_Reader_Bytes.f s 0 5 = some (⟨#[]⟩, s, 10) := by
        unfold num_Reader_Bytes.f num_Reader_Left.f num_Reader_Fail.f
        rw [if_neg (by decide)]
        simp only [Option.bind_some]
        rw [if_pos (by omega)]
        rfl
      unfold vault_Decode.f
      rw [hb]
      simp only [Option.bind_some]
      rw [if_pos (by decide +kernel)]
    · unfold garretref24_Decode.f
      rw [if_pos (by omega)]
      rfl
  · have hb : num_Reader_Bytes.f s 0 5 = some (s.extract 0 5, s.extract 5 s.size, 0) := by
      unfold num_Reader_Bytes.f num_Reader_Left.f
      rw [if_neg (by decide)]
      simp only [Option.bind_some]
      rw [if_neg (by omega), if_pos True.intro, if_pos (by decide), if_pos (by omega)]
      rfl
    unfold vault_Decode.f garretref24_Decode.f
    rw [hb, if_neg (by omega), if_pos (by decide), if_pos (by omega)]
    simp only [Option.bind_some]
    by_cases hm : (!(s.extract 0 5).toList == [71, 82, 84, 67, 1]) = true
    · refine ⟨(0, 0, 0, 0, 0, 0, 3), by rw [if_pos hm], ?_⟩
      have hj : garretref24_Decode.j0 12 s ((s.extract 0 5).toList != [71, 82, 84, 67, 1]) = some (0, 0, 0, 0, 0, 0, 3) := by
        rw [show ((s.extract 0 5).toList != [71, 82, 84, 67, 1]) = true from hm]
        simp only [garretref24_Decode.j0, if_true]
      exact hj
    · rw [if_neg hm]
      rw [show ((s.extract 0 5).toList != [71, 82, 84, 67, 1]) = false from Bool.eq_false_iff.mpr hm]
      simp only [garretref24_Decode.j0, Bool.false_eq_true, if_false]
      obtain ⟨a0, A0, e0, l0, p0, q0⟩ := fixed_step s h 5 (by omega) 0
      obtain ⟨a1, A1, e1, l1, p1, q1⟩ := fixed_step s h A0 l0 e0
      obtain ⟨a2, A2, e2, l2, p2, q2⟩ := short_step s h A1 l1 e1
      obtain ⟨a3, A3, e3, l3, p3, q3⟩ := short_step s h A2 l2 e2
      obtain ⟨a4, A4, e4, l4, p4, q4⟩ := short_step s h A3 l3 e3
      obtain ⟨a5, A5, e5, l5, p5, q5⟩ := short_step s h A4 l4 e4
      obtain ⟨c, x, y, p6, q6⟩ := end_step s h A5 l5 e5
      obtain ⟨t, v1, v2⟩ := check_same a0 a1 a2 a3 a4 a5
      replace q0 : garretref01_Reader_Fixed.f 11 s 5 0 1 = some (a0, s, (A0 : Int), e0) := q0
      rw [p0, q0]
      simp only [Option.bind_some, p1, q1, dec4, dec3, dec2, dec1, dec0, p2, q2, p3, q3, p4, q4, p5, q5, p6, q6, v1, v2]
      by_cases hc : c = 0
      · by_cases ht : t = 0
        · exact ⟨_, by rw [if_pos hc, if_pos ht], by rw [if_pos hc, if_pos ht]⟩
        · exact ⟨_, by rw [if_pos hc, if_neg ht], by rw [if_pos hc, if_neg ht]⟩
      · exact ⟨_, by rw [if_neg hc], by rw [if_neg hc]⟩
end Go.Proofs.Ytnhfkbmnglbbmaa.Pure
