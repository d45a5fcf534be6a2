/- Of the proof about maint: several texts, joined. -/
import Derived.Test.YtpdkgpmcmebefaaGreatDoorMG
import Derived.Test.YtpdkgpmcmebefaaGreatDoorMB
import Derived.Test.YtpdkgpmcmebefaaGreatDoorHGt
set_option maxHeartbeats 16000000
set_option maxRecDepth 100000
set_option linter.unusedVariables false
set_option linter.unusedSimpArgs false
namespace Go.Proofs.YtpdkgpmcmebefaaGreatDoor.Q
open Go.RowKit Go.Proofs.YtpdkgpmcmebefaaGreatDoorW.PrintWords Go.Proofs.YtpdkgpmcmebefaaGreatDoorW.PrintLast Go.Proofs.YtpdkgpmcmebefaaGreatDoorW.PrintMore
theorem bt_at (s : ByteArray) (i : Nat) (h : i < s.size) : bt s (i : Int) = ((s.data.toList.getD i 0).toNat : Int) := by
 unfold bt
 have h2 : i < s.data.toList.length := by rw [Array.length_toList]; exact h
 rw [dif_pos (by simpa using h), List.getD_eq_getElem?_getD, List.getElem?_eq_getElem h2]
 rfl
theorem size_nil (s : ByteArray) : s.toList = ([] : List UInt8) ↔ s.size = 0 := by
 rw [toList_data, ← List.length_eq_zero_iff, Array.length_toList]; rfl
theorem rword_loop (s : ByteArray) (most : Int) (hz : (s.size : Int) < 9223372036854775808) : ∀ (n i : Nat), i + n = s.size → (∀ j : Nat, j < i → okB (s.data.toList.getD j 0) = true) →
  r20_word.l0 (n + 1) s most (i : Int) = some (wordP s most)
 | 0, i, hi, hg => by
  rw [r20_word.l0, if_neg (by omega), wordP_all (fun j hj => hg j (by omega))]
  by_cases h : s.size = 0
  ·rw [if_pos ((size_nil s).2 h), decide_eq_false (by omega)]; rfl
  ·rw [if_neg (fun q => h ((size_nil s).1 q)), decide_eq_true h, Bool.true_and]
 | n + 1, i, hi, hg => by
  have hb := bt_at s i (by omega)
  rw [r20_word.l0, if_pos (by omega), if_pos (by omega), hb]
  by_cases h1 : ((s.data.toList.getD i 0).toNat : Int) ≤ 32
  ·rw [if_pos h1, wordP_bad i (by omega) (by unfold okB; rw [decide_eq_false (by omega)]; rfl)]
  ·rw [if_neg h1]
   by_cases h2 : ((s.data.toList.getD i 0).toNat : Int) ≥ 127
   ·rw [if_pos h2, wordP_bad i (by omega) (by unfold okB; rw [decide_eq_true (by omega), decide_eq_false (by omega)]; rfl)]
   ·rw [if_neg h2, wrap_id (by omega)]
    have ih := rword_loop s most hz n (i + 1) (by omega) (fun j hj => by
     by_cases q : j < i
     ·exact hg j q
     ·obtain rfl : j = i := by omega
      unfold okB; rw [decide_eq_true (by omega), decide_eq_true (by omega)]; rfl)
    rw [show ((i + 1 : Nat) : Int) = (i : Int) + 1 from by omega] at ih
    exact ih
theorem rword (s : ByteArray) (most : Int) (hz : (s.size : Int) < 9223372036854775808) (K : Nat) (hK : s.size + 1 ≤ K) : r20_word.f K s most = some (wordP s most) := by
 unfold r20_word.f
 have h := rword_loop s most hz s.size 0 (by omega) (fun j hj => by omega)
 exact LeO.le (f := fun k => r20_word.l0 k s most 0) (fun k => r20_word.mono_l k _ _ _) hK _ h
theorem index_neg : ∀ (l : List UInt8) (b : UInt8), Lib.indexByte l b < 0 ↔ b ∉ l
 | [], b => by simp [Lib.indexByte]
 | x :: r, b => by
  have ih := index_neg r b
  have hge := Lib.indexByte_ge r b
  unfold Lib.indexByte
  by_cases h : x = b
  ·subst h; simp
  ·rw [if_neg (by simpa using h)]
   by_cases hr : Lib.indexByte r b = -1
   ·rw [if_pos (by simpa using hr)]
    have := ih.1 (by omega)
    simp only [List.mem_cons, not_or]
    exact ⟨fun _ => ⟨fun q => h q.symm, this⟩, fun _ => by omega⟩
   ·rw [if_neg (by simpa using hr)]
    have hn : ¬ b ∉ r := fun q => by have := ih.2 q; omega
    simp only [List.mem_cons, not_or]
    exact ⟨fun q => by omega, fun q => absurd q.2 hn⟩
def noZS (b : UInt8) : Bool := !(b == 0) && !(b == 47)
theorem rname_loop (s : ByteArray) (hz : (s.size : Int) < 9223372036854775808) : ∀ (n i : Nat), i + n = s.size →
  r17_IsName.l0 (n + 1) s (i : Int) = some ((s.data.toList.drop i).all noZS)
 | 0, i, hi => by
  rw [r17_IsName.l0, if_neg (by omega), List.drop_eq_nil_of_le (by rw [Array.length_toList]; show s.size ≤ i; omega)]; rfl
 | n + 1, i, hi => by
  have hb := bt_at s i (by omega)
  have h2 : i < s.data.toList.length := by rw [Array.length_toList]; show i < s.size; omega
  have ih := rname_loop s hz n (i + 1) (by omega)
  rw [r17_IsName.l0, if_pos (by omega), if_pos (by omega), hb, List.drop_eq_getElem_cons h2, List.all_cons]
  have hg : s.data.toList.getD i 0 = s.data.toList[i] := by rw [List.getD_eq_getElem?_getD, List.getElem?_eq_getElem h2]; rfl
  rw [hg]
  generalize s.data.toList[i] = b
  by_cases h1 : (b.toNat : Int) = 0
  ·have : b = 0 := UInt8.toNat_inj.mp (by simpa using h1)
   subst this
   rw [if_pos (by rfl)]; rfl
  ·rw [if_neg h1]
   have n1 : (b == 0) = false := beq_eq_false_iff_ne.2 (fun q => h1 (by rw [q]; rfl))
   by_cases h3 : (b.toNat : Int) = 47
   ·have : b = 47 := UInt8.toNat_inj.mp (show b.toNat = 47 by omega)
    subst this
    rw [if_pos (by rfl)]; rfl
   ·have n2 : (b == 47) = false := beq_eq_false_iff_ne.2 (fun q => h3 (by rw [q]; rfl))
    rw [if_neg h3, wrap_id (by omega), show (i : Int) + 1 = ((i + 1 : Nat) : Int) from by omega, ih]
    unfold noZS
    rw [n1, n2]; rfl
theorem noZS_all (l : List UInt8) : l.all noZS = (decide (Lib.indexByte l 0 < 0) && decide (Lib.indexByte l 47 < 0)) := by
 rw [Bool.eq_iff_iff, Bool.and_eq_true, decide_eq_true_iff, decide_eq_true_iff, index_neg, index_neg, List.all_eq_true]
 unfold noZS
 constructor
 ·intro h
  exact ⟨fun q => by simpa using h _ q, fun q => by simpa using h _ q⟩
 ·intro ⟨h1, h2⟩ b hb
  have n1 : (b == 0) = false := beq_eq_false_iff_ne.2 (fun q => h1 (q ▸ hb))
  have n2 : (b == 47) = false := beq_eq_false_iff_ne.2 (fun q => h2 (q ▸ hb))
  rw [n1, n2]; rfl
theorem rname (s : ByteArray) (hz : (s.size : Int) < 9223372036854775808) (K : Nat) (hK : s.size + 2 ≤ K) : r17_IsName.f K s = some (nameP s) := by
 obtain ⟨K, rfl⟩ : ∃ j, K = j + 1 := ⟨K - 1, by omega⟩
 unfold r17_IsName.f nameP
 by_cases h1 : s.toList = ([] : List UInt8)
 ·rw [if_pos h1, h1]; rfl
 rw [if_neg h1]
 have e1 : s.toList.isEmpty = false := by rw [List.isEmpty_eq_false_iff]; exact h1
 rw [e1]
 by_cases h4 : (s.size : Int) > 64
 ·rw [if_pos h4, decide_eq_false (by omega)]; simp [r17_IsName.j0]
 rw [if_neg h4, decide_eq_true (show (s.size : Int) ≤ 64 by omega)]
 by_cases h2 : s.toList = ([46] : List UInt8)
 ·rw [if_pos h2, h2]; rfl
 rw [if_neg h2, beq_eq_false_iff_ne.2 h2, r17_IsName.j0]
 by_cases h3 : s.toList = ([46, 46] : List UInt8)
 ·rw [h3]; rfl
 rw [beq_eq_false_iff_ne.2 h3, if_neg (by simp)]
 have hl := rname_loop s hz s.size 0 (by omega)
 have hm := LeO.le (f := fun k => r17_IsName.l0 k s 0) (fun k => (r17_IsName.mono_l k).2 _ _) (show s.size + 1 ≤ K by omega) _ hl
 rw [hm, List.drop_zero, noZS_all]
 simp only [Bool.not_false, Bool.true_and, ixz, ixs]
 (rfl)
theorem toList_len (s : ByteArray) : s.toList.length = s.size := by rw [toList_data, Array.length_toList]; rfl
theorem toList_extract (a : ByteArray) (f i : Nat) : (a.extract f i).toList = (a.toList.drop f).take (i - f) := by
 rw [toList_data, toList_data, ByteArray.data_extract, Array.toList_extract, List.extract_eq_take_drop]
theorem bt_get (a : ByteArray) (i : Nat) (h : i < a.size) : bt a (i : Int) = ((a.toList[i]'(by rw [toList_len]; exact h)).toNat : Int) := by
 unfold bt
 rw [dif_pos (by simpa using h)]
 congr 2
 simp only [Int.toNat_natCast, toList_data]
 simp [ByteArray.getElem_eq_getElem_data]
def sp : List UInt8 → List (List UInt8)
 | [] => [[]]
 | c :: r => if c = 47 then [] :: sp r else match sp r with | [] => [[c]] | h :: t => (c :: h) :: t
def spw (p s : List UInt8) : List (List UInt8) := match sp s with | [] => [p] | h :: t => (p ++ h) :: t
theorem sp_ne (s : List UInt8) : sp s ≠ [] := by
 cases s with
 | nil => simp [sp]
 | cons c r => unfold sp; split; simp; split <;> simp
theorem spw_nil (s : List UInt8) : spw [] s = sp s := by
 unfold spw; split
 ·rename_i h; exact absurd h (sp_ne s)
 ·rename_i h; rw [h]; rfl
theorem spw_slash (p s : List UInt8) : spw p (47 :: s) = p :: sp s := by
 unfold spw; rw [sp]; simp
theorem spw_other (p s : List UInt8) (c : UInt8) (h : c ≠ 47) : spw p (c :: s) = spw (p ++ [c]) s := by
 unfold spw; rw [sp, if_neg h]
 cases hs : sp s with
 | nil => exact absurd hs (sp_ne s)
 | cons a t => simp
theorem spw_end (p : List UInt8) : spw p [] = [p] := by unfold spw; simp [sp]
def names (s : List UInt8) : List (List UInt8) := if s = [] then [] else sp s
theorem wrapN {i : Nat} (h : i < 100000000) : wrap64 ((i : Int) + 1) = ((i + 1 : Nat) : Int) := by unfold wrap64; omega
theorem ext_all (a : ByteArray) (f i : Nat) (hf : f ≤ i) (h : i < a.size) : (a.extract f (i + 1)).toList = (a.extract f i).toList ++ [a.toList[i]'(by rw [toList_len]; exact h)] := by
 rw [toList_extract, toList_extract, show i + 1 - f = (i - f) + 1 from by omega, List.take_add_one, List.getElem?_drop]
 rw [show f + (i - f) = i from by omega, List.getElem?_eq_getElem (by rw [toList_len]; exact h)]
 rfl
theorem ext_nil (a : ByteArray) (i : Nat) : (a.extract i i).toList = [] := by
 rw [toList_extract]; simp
theorem parts_l (a : ByteArray) (hs : a.size ≤ 1048576) : ∀ d i f (out : List ByteArray), i + d = a.size → f ≤ i → out.length ≤ i →
  ∃ ps, r17_Parts.l0 (d + 2) a out (f : Int) (i : Int) = some (out ++ ps) ∧ ps.map ByteArray.toList = spw (a.extract f i).toList (a.toList.drop i)
 | 0, i, f, out, h, hf, ho => by
  refine ⟨[a.extract f i], ?_, ?_⟩
  ·rw [r17_Parts.l0, if_pos (by omega), if_pos (by omega), if_pos (by omega), if_pos (by omega), if_pos (by omega), wrapN (by omega), r17_Parts.l0, if_neg (by omega)]
   simp
  ·rw [List.drop_eq_nil_of_le (by rw [toList_len]; omega), spw_end]; rfl
 | d + 1, i, f, out, h, hf, ho => by
  have hi : i < a.size := by omega
  have hd : a.toList.drop i = a.toList[i]'(by rw [toList_len]; exact hi) :: a.toList.drop (i + 1) := List.drop_eq_getElem_cons _
  by_cases hc : a.toList[i]'(by rw [toList_len]; exact hi) = 47
  ·obtain ⟨ps, h1, h2⟩ := parts_l a hs d (i + 1) (i + 1) (out ++ [a.extract f i]) (by omega) (Nat.le_refl _) (by simp; omega)
   refine ⟨a.extract f i :: ps, ?_, ?_⟩
   ·rw [r17_Parts.l0, if_pos (by omega), if_neg (by omega), if_pos (by omega), if_pos (by omega), bt_get a i hi, if_pos (by rw [hc]; rfl), if_pos (by omega), if_pos (by omega), if_pos (by omega), wrapN (by omega)]
    simpa using h1
   ·rw [hd, hc, spw_slash, List.map_cons, h2, ext_nil, spw_nil]
  ·obtain ⟨ps, h1, h2⟩ := parts_l a hs d (i + 1) f out (by omega) (by omega) (by omega)
   refine ⟨ps, ?_, ?_⟩
   ·rw [r17_Parts.l0, if_pos (by omega), if_neg (by omega), if_pos (by omega), if_pos (by omega), bt_get a i hi, if_neg, wrapN (by omega)]
    ·exact h1
    ·intro hh; apply hc
     have : (a.toList[i]'(by rw [toList_len]; exact hi)).toNat = 47 := by omega
     exact UInt8.toNat_inj.1 this
   ·rw [hd, spw_other _ _ _ hc, h2, ext_all a f i hf hi]
theorem parts_f (a : ByteArray) (hs : a.size ≤ 1048576) (k : Nat) (hk : 1048578 ≤ k) : ∃ ps, r17_Parts.f k a = some ps ∧ ps.map ByteArray.toList = names a.toList := by
 by_cases h : a.toList = []
 ·exact ⟨[], by unfold r17_Parts.f; rw [if_pos h], by unfold names; rw [if_pos h]; rfl⟩
 ·obtain ⟨ps, h1, h2⟩ := parts_l a hs a.size 0 0 [] (by omega) (Nat.le_refl _) (Nat.zero_le _)
  refine ⟨ps, ?_, ?_⟩
  ·refine LeO.le (r17_Parts.mono a) (show a.size + 2 ≤ k by omega) _ ?_
   unfold r17_Parts.f; rw [if_neg h]; simpa using h1
  ·unfold names; rw [if_neg h, h2, ext_nil, List.drop_zero, spw_nil]
theorem rd9_at {l : List ByteArray} {i : Nat} {x : ByteArray} (h : l[i]? = some x) : rdOf ByteArray.empty l (i : Int) = x := by
 unfold rdOf; rw [Int.toNat_natCast, List.getD_eq_getElem?_getD, h]; rfl
theorem sp_no : ∀ l : List UInt8, Lib.indexByte l 47 = -1 → sp l = [l]
 | [], _ => rfl
 | b :: r, h => by
  unfold Lib.indexByte at h
  by_cases hb : b = 47
  ·rw [hb] at h; simp at h
  ·rw [if_neg (by simpa using hb)] at h
   by_cases hr : Lib.indexByte r 47 = -1
   ·rw [sp, if_neg hb, sp_no r hr]
   ·rw [if_neg (by simpa using hr)] at h
    have := Lib.indexByte_ge r 47
    omega
theorem sp_at : ∀ (l : List UInt8) (i : Nat), Lib.indexByte l 47 = (i : Int) → sp l = l.take i :: sp (l.drop (i + 1)) ∧ Lib.countByte l 47 = Lib.countByte (l.drop (i + 1)) 47 + 1
 | [], i, h => by unfold Lib.indexByte at h; omega
 | b :: r, i, h => by
  unfold Lib.indexByte at h
  by_cases hb : b = 47
  ·subst hb
   rw [if_pos (by rfl)] at h
   obtain rfl : i = 0 := by omega
   exact ⟨by rw [sp, if_pos rfl]; rfl, by unfold Lib.countByte; simp⟩
  ·rw [if_neg (by simpa using hb)] at h
   by_cases hr : Lib.indexByte r 47 = -1
   ·rw [if_pos (by simpa using hr)] at h
    omega
   ·rw [if_neg (by simpa using hr)] at h
    cases i with
    | zero => have := Lib.indexByte_ge r 47; omega
    | succ i =>
     obtain ⟨h1, h2⟩ := sp_at r i (by omega)
     refine ⟨?_, ?_⟩
     ·rw [sp, if_neg hb, h1]; simp
     ·have : Lib.countByte (b :: r) 47 = Lib.countByte r 47 := by unfold Lib.countByte; rw [List.count_cons_of_ne hb]
      rw [this, h2]; simp
theorem splitN_sp : ∀ (n : Nat) (s : ByteArray), cts s ≤ n → (splitN n s).map ByteArray.toList = sp s.toList
 | 0, s, h => by
  have hc : cts s = 0 := by omega
  have hi : Lib.indexByte s.data.toList 47 = -1 := by
   have hg := Lib.indexByte_ge s.data.toList 47
   by_cases h0 : Lib.indexByte s.data.toList 47 = -1
   ·exact h0
   ·have := (sp_at s.data.toList (Lib.indexByte s.data.toList 47).toNat (by omega)).2
    unfold cts at hc; omega
  rw [splitN, toList_data, sp_no _ hi]
  simp [toList_data]
 | n + 1, s, h => by
  have hg := Lib.indexByte_ge s.data.toList 47
  by_cases h0 : ixs s < 0
  ·have hi : Lib.indexByte s.data.toList 47 = -1 := by unfold ixs at h0; omega
   rw [splitN, if_pos h0, toList_data, sp_no _ hi]
   simp [toList_data]
  ·rw [splitN, if_neg h0, List.map_cons]
   obtain ⟨h1, h2⟩ := sp_at s.data.toList (ixs s).toNat (by unfold ixs at h0 ⊢; omega)
   have hl : (s.extract ((ixs s).toNat + 1) s.size).toList = s.toList.drop ((ixs s).toNat + 1) := by
    rw [toList_extract, List.take_of_length_le]
    rw [List.length_drop, toList_len]; omega
   rw [splitN_sp n _ (by unfold cts at h ⊢; rw [← toList_data, hl, toList_data]; omega), hl, toList_extract, toList_data, h1]
   simp
theorem partsOf_names (s : ByteArray) : (partsOf s).map ByteArray.toList = names s.toList := by
 unfold partsOf names
 by_cases h : s.size = 0
 ·rw [if_pos h, if_pos (List.length_eq_zero_iff.1 (by rw [toList_len]; exact h))]; rfl
 ·rw [if_neg h, if_neg (fun hh => h (by rw [← toList_len, hh]; rfl)), splitN_sp _ _ (Nat.le_refl _)]
theorem map_toList_inj : ∀ l m : List ByteArray, l.map ByteArray.toList = m.map ByteArray.toList → l = m
 | [], [], _ => rfl
 | [], _ :: _, h => by simp at h
 | _ :: _, [], h => by simp at h
 | x :: l, y :: m, h => by
  simp only [List.map_cons, List.cons.injEq] at h
  rw [eq_of_toList h.1, map_toList_inj l m h.2]
theorem rparts (a : ByteArray) (hs : a.size ≤ 1048576) (k : Nat) (hk : 1048578 ≤ k) : r17_Parts.f k a = some (partsOf a) := by
 obtain ⟨ps, h1, h2⟩ := parts_f a hs k hk
 rw [h1, map_toList_inj ps (partsOf a) (h2.trans (partsOf_names a).symm)]
theorem ris_loop (l : List ByteArray) (hl : l.length ≤ 2000) (hz : ∀ s ∈ l, (s.size : Int) < 9223372036854775808) (K : Nat) (hK : ∀ s ∈ l, s.size + 2 ≤ K) : ∀ (n i : Nat), i + n = l.length →
  r17_Is.l0 (K + n + 1) l (i : Int) = some ((l.drop i).all nameP)
 | 0, i, hi => by
  rw [r17_Is.l0, if_neg (by omega), List.drop_eq_nil_of_le (by omega)]; rfl
 | n + 1, i, hi => by
  have h2 : i < l.length := by omega
  have ih := ris_loop l hl hz K hK n (i + 1) (by omega)
  have e : rdOf ByteArray.empty l (i : Int) = l[i] := rd9_at (List.getElem?_eq_getElem h2)
  have hm : l[i] ∈ l := List.getElem_mem h2
  rw [r17_Is.l0, if_pos (by omega), if_pos (by omega), e, rname l[i] (hz _ hm) (K + (n + 1)) (by have := hK _ hm; omega), Option.bind_some, List.drop_eq_getElem_cons h2, List.all_cons]
  cases hn : nameP l[i] with
  | true =>
   rw [if_pos rfl, wrap_id (by omega), show (i : Int) + 1 = ((i + 1 : Nat) : Int) from by omega, show K + (n + 1) = K + n + 1 from by omega, ih]; rfl
  | false => rw [if_neg (by simp)]; rfl
theorem sumS_mem {l : List ByteArray} {s : ByteArray} (h : s ∈ l) : (s.size : Int) + 1 ≤ sumS l := by
 induction l with
 | nil => simp at h
 | cons a l ih =>
  rw [sumS_cons]
  rcases List.mem_cons.1 h with rfl | h
  ·have := sumS_nn l; omega
  ·have := ih h; omega
theorem ris (a : ByteArray) (hs : a.size ≤ 300) (k : Nat) (hk : 1050000 ≤ k) : r17_Is.f k a = some (pathP a) := by
 have hsum := parts_sum a
 have hlen := parts_len a
 have hz : ∀ s ∈ partsOf a, s.size ≤ 300 := fun s h => by have := sumS_mem h; omega
 unfold r17_Is.f pathP
 rw [rparts a (by omega) k (by omega), Option.bind_some]
 generalize partsOf a = l at hsum hlen hz
 obtain ⟨k, rfl⟩ : ∃ j, k = j + 1 := ⟨k - 1, by omega⟩
 by_cases h1 : (l.length : Int) < 1
 ·rw [if_pos h1, decide_eq_false (by omega), Bool.and_false]; rfl
 rw [if_neg h1, if_neg (by omega), decide_eq_false (show ¬ ((a.size : Int) > 65536) by omega), r17_Is.j0, if_neg (by simp), decide_eq_true (show 0 < l.length by omega), Bool.and_true]
 have h := ris_loop l (by omega) (fun s h => by have := hz s h; omega) 1000 (fun s h => by have := hz s h; omega) l.length 0 (by omega)
 rw [List.drop_zero] at h
 exact LeO.le (f := fun k => r17_Is.l0 k l 0) (fun k => (r17_Is.mono_l k).2 _ _) (show 1000 + l.length + 1 ≤ k by omega) _ h
theorem less_irr (a : List UInt8) : Op.bytesLess a a = false := by
 have h := bytesLess_swap a a
 rw [beq_self_eq_true, Bool.or_true] at h
 exact h.symm
theorem rless_loop (l m : List ByteArray) (hl : l.length ≤ 2000) : ∀ (n i : Nat), i + n = l.length → i ≤ m.length →
  r17_Less.l0 (2 * n + 2) l m (i : Int) = some (decide (cmpL (l.drop i) (m.drop i) < 0))
 | 0, i, hi, hm => by
  rw [r17_Less.l0, if_neg (by omega), r17_Less.j1, if_neg (by simp), List.drop_eq_nil_of_le (by omega)]
  by_cases q : i < m.length
  ·rw [List.drop_eq_getElem_cons q, decide_eq_true (by omega)]; rfl
  ·rw [List.drop_eq_nil_of_le (by omega : m.length ≤ i), decide_eq_false (by omega)]; rfl
 | n + 1, i, hi, hm => by
  have h2 : i < l.length := by omega
  rw [show 2 * (n + 1) + 2 = (2 * n + 2) + 1 + 1 from by omega, r17_Less.l0, if_pos (by omega)]
  by_cases q : i < m.length
  ·have e1 : rdOf ByteArray.empty l (i : Int) = l[i] := rd9_at (List.getElem?_eq_getElem h2)
   have e2 : rdOf ByteArray.empty m (i : Int) = m[i] := rd9_at (List.getElem?_eq_getElem q)
   have ih := rless_loop l m hl n (i + 1) (by omega) (by omega)
   rw [decide_eq_true (by omega), r17_Less.j1, if_pos rfl, if_pos (by omega), if_pos (by omega), if_pos (by omega), e1, e2, List.drop_eq_getElem_cons h2, List.drop_eq_getElem_cons q, cmpL]
   generalize l[i] = a
   generalize m[i] = b
   by_cases h : a.toList = b.toList
   ·have hc : cmpS a b = 0 := by unfold cmpS; rw [h, less_irr]; simp
    rw [if_pos h, hc, if_pos rfl, wrap_id (by omega), show (i : Int) + 1 = ((i + 1 : Nat) : Int) from by omega]
    exact ih
   ·rw [if_neg h]
    unfold cmpS
    rw [beq_eq_false_iff_ne.2 h]
    cases Op.bytesLess a.toList b.toList <;> simp
  ·rw [decide_eq_false (by omega), r17_Less.j1, if_neg (by simp), List.drop_eq_getElem_cons h2, List.drop_eq_nil_of_le (by omega : m.length ≤ i), decide_eq_false (by omega)]
   rfl
theorem rless (a b : ByteArray) (ha : a.size ≤ 300) (hb : b.size ≤ 300) (k : Nat) (hk : 1050000 ≤ k) : r17_Less.f k a b = some (lessP a b) := by
 have s1 := parts_sum a
 have n1 := parts_len a
 unfold r17_Less.f lessP
 rw [rparts a (by omega) k (by omega), Option.bind_some, rparts b (by omega) k (by omega), Option.bind_some]
 have h := rless_loop (partsOf a) (partsOf b) (by omega) (partsOf a).length 0 (by omega) (by omega)
 rw [List.drop_zero, List.drop_zero] at h
 exact LeO.le (f := fun k => r17_Less.l0 k (partsOf a) (partsOf b) 0) (fun k => (r17_Less.mono_l k).1 _ _ _) (show 2 * (partsOf a).length + 2 ≤ k by omega) _ h
def idsOk (a4 a5 : ByteArray) : Bool := ((a4.size : Int) == 32) && (a5.toList.isEmpty || ((a5.size : Int) == 32))
theorem rcheck1 (a0 : Int) (a1 : ByteArray) (l2 l3 : List ByteArray) (a4 a5 : ByteArray) (hl : l3.length ≤ 2000) (hz : ∀ s ∈ l3, (s.size : Int) < 9223372036854775808) (K : Nat) (hK : ∀ s ∈ l3, s.size + 1 ≤ K) : ∀ (n i : Nat), i + n = l3.length →
  r20_Check.l1 (K + n + 1) (i : Int) a0 a1 l2 l3 a4 a5 = some (if ((List.range' i n).all (okAt (fun s => wordP s 32) lessS l3) && idsOk a4 a5) = true then 0 else 200)
 | 0, i, hi => by
  rw [r20_Check.l1, if_neg (by omega)]
  unfold idsOk
  by_cases h4 : (a4.size : Int) = 32
  ·rw [if_pos h4, beq_iff_eq.2 h4]
   by_cases h5 : a5.toList = ([] : List UInt8)
   ·rw [if_pos h5, h5]; rfl
   ·rw [if_neg h5]
    have e : a5.toList.isEmpty = false := by rw [List.isEmpty_eq_false_iff]; exact h5
    rw [e]
    by_cases h6 : (a5.size : Int) = 32
    ·rw [if_pos h6, beq_iff_eq.2 h6]; rfl
    ·rw [if_neg h6, beq_eq_false_iff_ne.2 h6]; rfl
  ·rw [if_neg h4, beq_eq_false_iff_ne.2 h4]; rfl
 | n + 1, i, hi => by
  have h2 : i < l3.length := by omega
  have ih := rcheck1 a0 a1 l2 l3 a4 a5 hl hz K hK n (i + 1) (by omega)
  have hm : rdOf ByteArray.empty l3 (i : Int) ∈ l3 := rd_mem (by omega) (by omega)
  rw [r20_Check.l1, if_pos (by omega), if_pos (by omega), rword _ 32 (hz _ hm) (K + (n + 1)) (by have := hK _ hm; omega), Option.bind_some, List.range'_succ, List.all_cons]
  have hw : wrap64 ((i : Int) + 1) = ((i + 1 : Nat) : Int) := by rw [wrap_id (by omega)]; omega
  cases hq : wordP (rdOf ByteArray.empty l3 (i : Int)) 32 with
  | false =>
   rw [if_neg (by simp)]
   have : okAt (fun s => wordP s 32) lessS l3 i = false := by unfold okAt; simp only [hq]; rfl
   rw [this]; rfl
  | true =>
   rw [if_pos rfl]
   by_cases h0 : (i : Int) > 0
   ·have hwm : wrap64 ((i : Int) - 1) = (i : Int) - 1 := wrap_id (by omega)
    rw [if_pos h0, hwm, if_pos (by omega), if_pos (by omega)]
    have e : okAt (fun s => wordP s 32) lessS l3 i = lessS (rdOf ByteArray.empty l3 ((i : Int) - 1)) (rdOf ByteArray.empty l3 (i : Int)) := by
     unfold okAt; simp only [hq]; rw [decide_eq_false (by omega)]; rfl
    rw [e]
    unfold lessS
    cases Op.bytesLess (rdOf ByteArray.empty l3 ((i : Int) - 1)).toList (rdOf ByteArray.empty l3 (i : Int)).toList with
    | true => rw [if_pos rfl, hw, show K + (n + 1) = K + n + 1 from by omega, Bool.true_and]; exact ih
    | false => rw [if_neg (by simp)]; rfl
   ·rw [if_neg h0, hw, show K + (n + 1) = K + n + 1 from by omega]
    have e : okAt (fun s => wordP s 32) lessS l3 i = true := by
     unfold okAt; simp only [hq]; rw [decide_eq_true (by omega)]; rfl
    rw [e, Bool.true_and]; exact ih
theorem rcheck0 (a0 : Int) (a1 : ByteArray) (l2 l3 : List ByteArray) (a4 a5 : ByteArray) (hl2 : l2.length ≤ 2000) (hl : l3.length ≤ 2000) (hz2 : ∀ s ∈ l2, s.size ≤ 300) (hz : ∀ s ∈ l3, (s.size : Int) < 9223372036854775808) (K : Nat) (hK2 : 1060000 ≤ K) (hK : ∀ s ∈ l3, s.size + 3000 ≤ K) : ∀ (n i : Nat), i + n = l2.length →
  r20_Check.l0 (K + n + 1) (i : Int) a0 a1 l2 l3 a4 a5 = some (if ((List.range' i n).all (okAt pathP lessP l2) && ((List.range' 0 l3.length).all (okAt (fun s => wordP s 32) lessS l3) && idsOk a4 a5)) = true then 0 else 200)
 | 0, i, hi => by
  rw [r20_Check.l0, if_neg (by omega)]
  have h := rcheck1 a0 a1 l2 l3 a4 a5 hl hz (K - 2500) (fun s hs => by have := hK s hs; omega) l3.length 0 (by omega)
  exact LeO.le (f := fun k => r20_Check.l1 k 0 a0 a1 l2 l3 a4 a5) (fun k => (r20_Check.mono_l k).2.2 _ _ _ _ _ _ _) (show K - 2500 + l3.length + 1 ≤ K + 0 by omega) _ h
 | n + 1, i, hi => by
  have h2 : i < l2.length := by omega
  have ih := rcheck0 a0 a1 l2 l3 a4 a5 hl2 hl hz2 hz K hK2 hK n (i + 1) (by omega)
  have hm : rdOf ByteArray.empty l2 (i : Int) ∈ l2 := rd_mem (by omega) (by omega)
  rw [r20_Check.l0, if_pos (by omega), if_pos (by omega), ris _ (hz2 _ hm) (K + (n + 1)) (by omega), Option.bind_some, List.range'_succ, List.all_cons]
  have hw : wrap64 ((i : Int) + 1) = ((i + 1 : Nat) : Int) := by rw [wrap_id (by omega)]; omega
  cases hq : pathP (rdOf ByteArray.empty l2 (i : Int)) with
  | false =>
   rw [if_neg (by simp)]
   have : okAt pathP lessP l2 i = false := by unfold okAt; rw [hq]; rfl
   rw [this]; rfl
  | true =>
   rw [if_pos rfl]
   by_cases h0 : (i : Int) > 0
   ·have hwm : wrap64 ((i : Int) - 1) = (i : Int) - 1 := wrap_id (by omega)
    have hm1 : rdOf ByteArray.empty l2 ((i : Int) - 1) ∈ l2 := rd_mem (by omega) (by omega)
    rw [if_pos h0, hwm, if_pos (by omega), if_pos (by omega), rless _ _ (hz2 _ hm1) (hz2 _ hm) (K + (n + 1)) (by omega), Option.bind_some]
    have e : okAt pathP lessP l2 i = lessP (rdOf ByteArray.empty l2 ((i : Int) - 1)) (rdOf ByteArray.empty l2 (i : Int)) := by
     unfold okAt; rw [hq, decide_eq_false (by omega)]; rfl
    rw [e]
    cases lessP (rdOf ByteArray.empty l2 ((i : Int) - 1)) (rdOf ByteArray.empty l2 (i : Int)) with
    | true => rw [if_pos rfl, hw, show K + (n + 1) = K + n + 1 from by omega, Bool.true_and]; exact ih
    | false => rw [if_neg (by simp)]; rfl
   ·rw [if_neg h0, hw, show K + (n + 1) = K + n + 1 from by omega]
    have e : okAt pathP lessP l2 i = true := by
     unfold okAt; rw [hq, decide_eq_true (by omega)]; rfl
    rw [e, Bool.true_and]; exact ih
theorem rcheck (x : S28) (hl2 : x.f2.length ≤ 2000) (hl : x.f3.length ≤ 2000) (h1 : (x.f1.size : Int) < 9223372036854775808) (hz2 : ∀ s ∈ x.f2, s.size ≤ 300) (hz : ∀ s ∈ x.f3, (s.size : Int) < 9223372036854775808) (K : Nat) (hK2 : 1070000 ≤ K) (hK1 : x.f1.size + 1 ≤ K) (hK : ∀ s ∈ x.f3, s.size + 6000 ≤ K) :
  r20_Check.f K x.f0 x.f1 x.f2 x.f3 x.f4 x.f5 = some (if snapP x = true then 0 else 200) := by
 obtain ⟨x0, x1, x2, x3, x4, x5⟩ := x
 simp only at *
 obtain ⟨K, rfl⟩ : ∃ j, K = j + 1 := ⟨K - 1, by omega⟩
 have hbad : r20_Check.j0 (K + 1) true x0 x1 x2 x3 x4 x5 = some 200 := by rw [r20_Check.j0, if_pos rfl]
 unfold r20_Check.f snapP
 by_cases c0 : x0 < 0
 ·rw [if_pos c0, hbad, decide_eq_false (show ¬ 0 ≤ x0 by omega)]; rfl
 rw [if_neg c0, decide_eq_true (show 0 ≤ x0 by omega)]
 by_cases c1 : x0 > 1099511627776
 ·rw [if_pos c1, hbad, decide_eq_false (show ¬ x0 ≤ 1099511627776 by omega)]; rfl
 rw [if_neg c1, decide_eq_true (show x0 ≤ 1099511627776 by omega), rword x1 64 h1 (K + 1) hK1, Option.bind_some]
 cases wordP x1 64 with
 | false => rw [if_neg (by simp), hbad]; rfl
 | true =>
  rw [if_pos rfl]
  unfold risesP
  by_cases c2 : (x2.length : Int) > 64
  ·rw [if_pos c2, hbad, decide_eq_false (show ¬ x2.length ≤ 64 by omega)]; rfl
  rw [if_neg c2, decide_eq_true (show x2.length ≤ 64 by omega)]
  by_cases c3 : (x3.length : Int) > 64
  ·rw [decide_eq_true c3, hbad, decide_eq_false (show ¬ x3.length ≤ 64 by omega)]; simp
  rw [decide_eq_false c3, decide_eq_true (show x3.length ≤ 64 by omega), r20_Check.j0, if_neg (by simp)]
  have h := rcheck0 x0 x1 x2 x3 x4 x5 hl2 hl hz2 hz (K - 2500) (by omega) (fun s hs => by have := hK s hs; omega) x2.length 0 (by omega)
  have h' := LeO.le (f := fun k => r20_Check.l0 k 0 x0 x1 x2 x3 x4 x5) (fun k => (r20_Check.mono_l k).2.1 _ _ _ _ _ _ _) (show K - 2500 + x2.length + 1 ≤ K by omega) _ h
  rw [h', List.range_eq_range', List.range_eq_range']
  unfold idsOk
  simp only [Bool.true_and, Bool.and_assoc]
end Go.Proofs.YtpdkgpmcmebefaaGreatDoor.Q
