/- The plain laws of the packer: what it writes is parsed to its own sequences, and these open to the text. -/
import Derived.Test.YtflkjofafgoapaaHPack
import Derived.Test.YtflkjofafgoapaaRef
namespace Go.Proofs.Ytflkjofafgoapaa.Pure
open Go.RowKit Go.Proofs.Ytflkjofafgoapaa.Q Go.Proofs.Ytflkjofafgoapaa.Lz Go.Proofs.YtflkjofafgoapaaW.PrintWords Go.Proofs.YtflkjofafgoapaaW.PrintLast

/-! ### Bytes -/
def by8 (n : Nat) : UInt8 := UInt8.ofNat n
theorem by8_nat (n : Nat) (h : n < 256) : (by8 n).toNat = n := by simp [by8]; omega

def extB (m : Nat) : List UInt8 := if _h : 255 ≤ m then by8 255 :: extB (m - 255) else [by8 m]
termination_by m
decreasing_by omega
def numB (n : Nat) : List UInt8 := if n < 15 then [] else extB (n - 15)
def tokB (L d M : Nat) : Nat := min L 15 * 16 + if 0 < d then min (M - 4) 15 else 0
def seqB (x : Sq) : List UInt8 :=
  by8 (tokB x.1.length x.2.1 x.2.2) :: (numB x.1.length ++ (x.1 ++ if 0 < x.2.1 then by8 (x.2.1 % 256) :: by8 (x.2.1 / 256) :: numB (x.2.2 - 4) else []))
def encB (l : List Sq) : List UInt8 := l.flatMap seqB
theorem encB_cons (x : Sq) (l : List Sq) : encB (x :: l) = seqB x ++ encB l := by simp [encB]
theorem encB_nil : encB [] = [] := rfl

theorem tokB_le (L d M : Nat) : tokB L d M < 256 := by unfold tokB; split <;> omega
theorem tokB_hi (L d M : Nat) : tokB L d M / 16 = min L 15 := by unfold tokB; split <;> omega
theorem tokB_lo (L d M : Nat) (h : 0 < d) : tokB L d M % 16 = min (M - 4) 15 := by unfold tokB; rw [if_pos h]; omega
theorem tokB_lo0 (L M : Nat) : tokB L 0 M % 16 = 0 := by unfold tokB; rw [if_neg (by omega)]; omega

theorem nm_append (a b : List UInt8) : nm (a ++ b) = nm a ++ nm b := by simp [nm]
theorem nm_cons (a : UInt8) (b : List UInt8) : nm (a :: b) = (a.toNat : Int) :: nm b := by simp [nm]

theorem nm_ext : ∀ m, nm (extB m) = extN m := by
  intro m
  induction m using Nat.strongRecOn with
  | ind m ih =>
    rw [extB.eq_def, extN.eq_def]
    by_cases h : 255 ≤ m
    · rw [dif_pos h, dif_pos h, nm_cons, ih (m - 255) (by omega), by8_nat 255 (by omega)]; rfl
    · rw [dif_neg h, dif_neg h, nm_cons, by8_nat m (by omega)]; rfl
theorem nm_num (n : Nat) : nm (numB n) = encN n := by
  unfold numB encN
  split
  · rfl
  · exact nm_ext _

def sqOf (x : ByteArray × Nat × Nat) : Sq := (x.1.data.toList, x.2.1, x.2.2)

theorem nm_seq (x : ByteArray × Nat × Nat) (h : x.2.1 < 65536) : nm (seqB (sqOf x)) = seqN x.1 x.2.1 x.2.2 := by
  obtain ⟨l, d, m⟩ := x
  simp only at h
  have e1 : nm l.data.toList = bytesOf l := rfl
  unfold seqB seqN sqOf
  simp only [data_length]
  have e2 : tokN l.size d m = tokB l.size d m := rfl
  rw [nm_cons, nm_append, nm_append, by8_nat _ (tokB_le _ _ _), nm_num, e1, e2]
  by_cases hd : 0 < d
  · rw [if_pos hd, if_pos hd, nm_cons, nm_cons, nm_num, by8_nat _ (by omega), by8_nat _ (by omega)]; simp
  · rw [if_neg hd, if_neg hd]; simp [nm]

theorem nm_enc : ∀ l : List (ByteArray × Nat × Nat), (∀ x ∈ l, x.2.1 < 65536) → nm (encB (l.map sqOf)) = encS l
  | [], _ => rfl
  | x :: l, h => by
    rw [List.map_cons, encB_cons, nm_append, nm_seq x (h x (by simp)), nm_enc l (fun y hy => h y (by simp [hy])), encS_cons]

/-! ### What is written is parsed -/
theorem pExt_extB (r : List UInt8) : ∀ (m n : Nat), pExt n (extB m ++ r) = some (n + m, r) := by
  intro m
  induction m using Nat.strongRecOn with
  | ind m ih =>
    intro n
    rw [extB.eq_def]
    by_cases h : 255 ≤ m
    · rw [dif_pos h, List.cons_append, pExt, if_neg (by rw [by8_nat 255 (by omega)]; omega), ih (m - 255) (by omega), show n + 255 + (m - 255) = n + m from by omega]
    · rw [dif_neg h, List.cons_append, List.nil_append, pExt, by8_nat m (by omega), if_pos (by omega)]

theorem pNum_numB (n : Nat) (r : List UInt8) : pNum (min n 15) (numB n ++ r) = some (n, r) := by
  unfold pNum numB
  by_cases h : n < 15
  · rw [if_pos (by omega), if_pos h, show min n 15 = n from by omega]; rfl
  · rw [if_neg (by omega), if_neg h, pExt_extB, show min n 15 + (n - 15) = n from by omega]

/-- Sequences as a block has them. -/
def Good : Nat → List Sq → Prop
  | _, [] => False
  | _, [(_, d, m)] => d = 0 ∧ m = 0
  | n, (l, d, m) :: y :: r => 0 < d ∧ d ≤ n + l.length ∧ d < 65536 ∧ 4 ≤ m ∧ Good (n + l.length + m) (y :: r)

theorem parse_end (k n : Nat) (l : List UInt8) : parse (k + 1) n (seqB (l, 0, 0)) = some [(l, 0, 0)] := by
  have h1 : (by8 (tokB l.length 0 0)).toNat = tokB l.length 0 0 := by8_nat _ (tokB_le _ _ _)
  simp only [seqB, Nat.lt_irrefl, if_false, List.append_nil]
  simp only [parse, h1, tokB_hi, pNum_numB, tokB_lo0]
  simp

theorem parse_more (k n : Nat) (l : List UInt8) (d m : Nat) (r : List UInt8) (h1 : 0 < d) (h2 : d ≤ n + l.length) (h3 : d < 65536) (h4 : 4 ≤ m) :
    parse (k + 1) n (seqB (l, d, m) ++ r) = (parse k (n + l.length + m) r).map ((l, d, m) :: ·) := by
  have e1 : (by8 (tokB l.length d m)).toNat = tokB l.length d m := by8_nat _ (tokB_le _ _ _)
  have e2 : (by8 (d % 256)).toNat = d % 256 := by8_nat _ (by omega)
  have e3 : (by8 (d / 256)).toNat = d / 256 := by8_nat _ (by omega)
  have e4 : d % 256 + 256 * (d / 256) = d := by omega
  simp only [seqB, if_pos h1, List.cons_append, List.append_assoc]
  simp only [parse, e1, tokB_hi, pNum_numB]
  rw [if_neg (by simp)]
  simp only [List.drop_left, List.take_left, tokB_lo _ _ _ h1, pNum_numB, e2, e3, e4]
  rw [if_neg (by omega), if_neg (by omega), show m - 4 + 4 = m from by omega]

theorem parse_enc : ∀ (q : List Sq) (n k : Nat), Good n q → q.length ≤ k → parse k n (encB q) = some q
  | [], _, _, h, _ => h.elim
  | [(l, d, m)], n, k, h, hk => by
    obtain ⟨rfl, rfl⟩ := h
    obtain ⟨k, rfl⟩ : ∃ j, k = j + 1 := ⟨k - 1, by simp at hk; omega⟩
    rw [encB_cons, encB_nil, List.append_nil, parse_end]
  | (l, d, m) :: y :: r, n, k, h, hk => by
    obtain ⟨h1, h2, h3, h4, h5⟩ := h
    obtain ⟨k, rfl⟩ : ∃ j, k = j + 1 := ⟨k - 1, by simp at hk; omega⟩
    rw [encB_cons, parse_more k n l d m _ h1 h2 h3 h4, parse_enc (y :: r) _ k h5 (by simp at hk ⊢; omega)]
    rfl

theorem seqB_pos (x : Sq) : 0 < (seqB x).length := by simp [seqB]
theorem encB_len : ∀ q : List Sq, q.length ≤ (encB q).length
  | [] => by simp
  | x :: q => by have := seqB_pos x; have := encB_len q; rw [encB_cons, List.length_append, List.length_cons]; omega

theorem parseOf_enc (q : List Sq) (h : Good 0 q) : parseOf (mk (encB q)) = some q := by
  unfold parseOf
  rw [mk_sz]
  exact parse_enc q 0 _ h (encB_len q)

end Go.Proofs.Ytflkjofafgoapaa.Pure
