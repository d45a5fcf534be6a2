/- What lz's reader and parse compute, by the plain model. -/
import Derived.Test.YtflkjofafgoapaaQx4
import Derived.Test.YtflkjofafgoapaaSpec
import Derived.Laws.BitsLemmas
namespace Go.Proofs.Ytflkjofafgoapaa.Lz
open Go.RowKit Go.Proofs.Ytflkjofafgoapaa.Q Go.Proofs.YtflkjofafgoapaaW.PrintWords Go.Proofs.YtflkjofafgoapaaW.PrintLast

theorem wr (x : Int) (h0 : -9223372036854775808 ≤ x) (h1 : x ≤ 9223372036854775807) : wrap64 x = x := by unfold wrap64; omega

/-- A text that is read up to a place: what is ahead, what is left. -/
structure At (s : ByteArray) (i : Nat) (bs : List UInt8) : Prop where
  eq : s.data.toList.drop i = bs
  le : i + bs.length = s.size

theorem At.start (s : ByteArray) : At s 0 s.data.toList := ⟨by simp, by simp⟩
theorem At.next {s : ByteArray} {i : Nat} {c : UInt8} {bs : List UInt8} (h : At s i (c :: bs)) : At s (i + 1) bs ∧ bt s (i : Int) = (c.toNat : Int) ∧ i < s.size := by
  have hl := h.le
  simp at hl
  have hi : i < s.size := by omega
  refine ⟨⟨?_, by omega⟩, ?_, hi⟩
  · rw [← List.drop_drop, h.eq]; rfl
  · have e : s.data.toList[i]? = some c := by
      have : (s.data.toList.drop i)[0]? = some c := by rw [h.eq]; rfl
      simpa using this
    have hx : (i : Int).toNat < s.size := by simpa using hi
    rw [bt, dif_pos hx]
    have hc : s[i]'hi = c := by
      have := Array.getElem?_toList (xs := s.data) (i := i)
      rw [e] at this
      have h2 := Array.getElem?_eq_some_iff.1 this.symm
      obtain ⟨_, h3⟩ := h2
      exact h3
    simp only [Int.toNat_natCast]
    rw [hc]
theorem At.skip {s : ByteArray} {i : Nat} {bs : List UInt8} (h : At s i bs) (n : Nat) (hn : n ≤ bs.length) : At s (i + n) (bs.drop n) :=
  ⟨by rw [← h.eq, List.drop_drop], by have := h.le; simp; omega⟩
theorem At.cut {s : ByteArray} {i : Nat} {bs : List UInt8} (h : At s i bs) (n : Nat) : (s.extract i (i + n)).data.toList = bs.take n := by
  rw [← h.eq]
  simp only [ByteArray.data_extract, Array.toList_extract, List.extract_eq_take_drop]
  rw [show i + n - i = n from by omega]
theorem At.nil {s : ByteArray} {i : Nat} (h : At s i []) : i = s.size := by have := h.le; simpa using this

theorem byte_cons {s : ByteArray} {i : Nat} {c : UInt8} {bs : List UInt8} {b : Bool} (h : At s i (c :: bs)) (hs : s.size ≤ 200000) :
    lz_reader_byte.f s i b = some ((c.toNat : Int), s, ((i + 1 : Nat) : Int), b) := by
  obtain ⟨_, hb, hi⟩ := h.next
  have e1 : wrap64 ((i : Int) + 1) = (i : Int) + 1 := wr _ (by omega) (by omega)
  have e2 : wrap64 ((i : Int) + 1 - 1) = (i : Int) := by rw [wr _ (by omega) (by omega)]; omega
  have hc := c.toNat_lt
  unfold lz_reader_byte.f
  rw [if_neg (by omega), e1, e2, if_pos (by omega), if_pos (by omega), hb, wr _ (by omega) (by omega)]
  simp
theorem byte_nil {s : ByteArray} {i : Nat} {b : Bool} (h : At s i []) : lz_reader_byte.f s i b = some (0, s, (i : Int), true) := by
  have := h.nil
  unfold lz_reader_byte.f
  rw [if_pos (by omega)]

theorem number_ext {s : ByteArray} (hs : s.size ≤ 200000) : ∀ (bs : List UInt8) (k i n : Nat), At s i bs → bs.length < k → n + 255 * bs.length ≤ 100000000 →
    ∃ m i' b, lz_reader_number.l0 k n s i false = some (m, s, i', b) ∧
      match pExt n bs with
      | none => b = true
      | some (m', r) => b = false ∧ m = (m' : Int) ∧ ∃ j : Nat, i' = (j : Int) ∧ At s j r := by
  intro bs
  induction bs with
  | nil =>
    intro k i n h hk hn
    obtain ⟨k, rfl⟩ : ∃ m, k = m + 1 := ⟨k - 1, by omega⟩
    refine ⟨n, i, true, ?_, rfl⟩
    simp only [lz_reader_number.l0, byte_nil h, Option.bind_some]
    rw [if_pos (by omega), wr _ (by omega) (by omega)]
    simp
  | cons c r ih =>
    intro k i n h hk hn
    obtain ⟨k, rfl⟩ : ∃ m, k = m + 1 := ⟨k - 1, by omega⟩
    have hc := c.toNat_lt
    have hn' : n + 255 * (r.length + 1) ≤ 100000000 := by simpa using hn
    have e1 : wrap64 ((n : Int) + (c.toNat : Int)) = ((n + c.toNat : Nat) : Int) := by rw [wr _ (by omega) (by omega)]; omega
    simp only [lz_reader_number.l0, byte_cons h hs, Option.bind_some, pExt]
    by_cases hlt : c.toNat < 255
    · refine ⟨_, _, _, by rw [if_pos (by omega)], ?_⟩
      rw [if_pos hlt]
      exact ⟨rfl, e1, i + 1, rfl, h.next.1⟩
    · have hc' : c.toNat = 255 := by omega
      rw [if_neg (by omega), if_neg (by simp), e1, hc', if_neg (by omega)]
      exact ih k (i + 1) (n + 255) h.next.1 (by simp at hk; omega) (by omega)

theorem number_any {s : ByteArray} (hs : s.size ≤ 200000) (bs : List UInt8) (k i n : Nat) (h : At s i bs) (hk : bs.length < k) (hn : n ≤ 15) :
    ∃ m i' b, lz_reader_number.f k s i false n = some (m, s, i', b) ∧
      match pNum n bs with
      | none => b = true
      | some (m', r) => b = false ∧ m = (m' : Int) ∧ ∃ j : Nat, i' = (j : Int) ∧ At s j r := by
  have hl := h.le
  unfold lz_reader_number.f pNum
  by_cases h15 : n < 15
  · rw [if_pos (by omega), if_pos h15]
    exact ⟨_, _, _, rfl, rfl, rfl, i, rfl, h⟩
  · rw [if_neg (by omega), if_neg h15]
    exact number_ext hs bs k i n h hk (by omega)

/-- A reader that is bad stays so. -/
theorem number_bad {s : ByteArray} (hs : s.size ≤ 200000) (bs : List UInt8) (k i n : Nat) (h : At s i bs) (hk : 0 < k) (hn : n ≤ 15) :
    ∃ m i', lz_reader_number.f k s i true n = some (m, s, i', true) := by
  unfold lz_reader_number.f
  by_cases h15 : n < 15
  · rw [if_pos (by omega)]; exact ⟨_, _, rfl⟩
  · rw [if_neg (by omega)]
    obtain ⟨k, rfl⟩ : ∃ m, k = m + 1 := ⟨k - 1, by omega⟩
    cases bs with
    | nil => simp only [lz_reader_number.l0, byte_nil h, Option.bind_some]; exact ⟨_, _, by split <;> simp <;> exact ⟨rfl, rfl⟩⟩
    | cons c r => simp only [lz_reader_number.l0, byte_cons h hs, Option.bind_some]; exact ⟨_, _, by split <;> simp <;> exact ⟨rfl, rfl⟩⟩

theorem literals_bad (s : ByteArray) (i n : Int) : lz_reader_literals.f s i true n = some ((⟨#[]⟩ : ByteArray), s, (i : Int), true) := by
  unfold lz_reader_literals.f
  rw [if_pos rfl]
theorem literals_short {s : ByteArray} {i n : Nat} {bs : List UInt8} (h : At s i bs) (hs : s.size ≤ 200000) (hn : bs.length < n) : lz_reader_literals.f s i false n = some ((⟨#[]⟩ : ByteArray), s, (i : Int), true) := by
  have hl := h.le
  unfold lz_reader_literals.f
  rw [if_neg (by simp), wr _ (by omega) (by omega), if_pos (by omega)]
theorem literals_take {s : ByteArray} {i n : Nat} {bs : List UInt8} (h : At s i bs) (hs : s.size ≤ 200000) (hn : n ≤ bs.length) :
    lz_reader_literals.f s i false n = some (mk (bs.take n), s, ((i + n : Nat) : Int), false) := by
  have hl := h.le
  have e : wrap64 ((i : Int) + (n : Int)) = ((i + n : Nat) : Int) := by rw [wr _ (by omega) (by omega)]; omega
  have e2 : wrap64 (((i + n : Nat) : Int) - (n : Int)) = (i : Int) := by rw [wr _ (by omega) (by omega)]; omega
  unfold lz_reader_literals.f
  rw [if_neg (by simp), wr ((s.size : Int) - i) (by omega) (by omega), if_neg (by omega), e, e2, if_pos (by omega), if_pos (by omega), if_pos (by omega)]
  simp only [Int.toNat_natCast]
  rw [← h.cut n, mk_toList]

theorem and15 (t : Nat) (h : t < 256) : Go.bits .and .i64 (t : Int) 15 = ((t % 16 : Nat) : Int) := by
  have := bits_mask .i64 8 (by decide) (fun n h0 h1 => by rw [IntKind.wrap_i64]; have : (2:Int)^8 = 256 := by decide
                                                          omega) 4 (by decide) (t : Int) (by omega) (by have : (2:Int)^8 = 256 := by decide
                                                                                                        omega)
  simpa using this
theorem or256 (a b : Nat) (ha : a < 256) (hb : b < 256) : Go.bits .or .i64 (a : Int) (wrap64 ((b : Int) * 256)) = ((a + 256 * b : Nat) : Int) := by
  rw [wr _ (by omega) (by omega)]
  have hw : ∀ n : Int, 0 ≤ n → n < 2 ^ 16 → IntKind.i64.wrap n = n := fun n h0 h1 => by
    have : (2:Int)^16 = 65536 := by decide
    rw [IntKind.wrap_i64]; omega
  have hb2 : (b : Int) * 256 = ((256 * b : Nat) : Int) := by omega
  have h16 : (2 : Nat) ^ 16 = 65536 := by decide
  rw [hb2, (bits_nat .i64 16 (by decide) hw a (256 * b) (by omega) (by omega)).2, Nat.or_comm]
  have := Nat.two_pow_add_eq_or_of_lt (i := 8) (b := a) (by simpa using ha) b
  have e8 : (2 : Nat) ^ 8 = 256 := by decide
  rw [e8] at this
  rw [← this]
  congr 1
  omega

def s35 (x : Sq) : S35 := ⟨mk x.1, (x.2.1 : Int), (x.2.2 : Int)⟩

theorem sat (a b : Nat) (hb : b ≤ 100000000000000) : mn (wrap64 (((min a 1048577 : Nat) : Int) + (b : Int))) 1048577 = ((min (a + b) 1048577 : Nat) : Int) := by
  rw [wr _ (by omega) (by omega)]
  unfold mn; omega

theorem wr4 (M : Nat) (h : M + 4 ≤ 100000000) : wrap64 ((M : Int) + 4) = ((M + 4 : Nat) : Int) := by rw [wr _ (by omega) (by omega)]; omega
theorem pNum_small {l : List UInt8} {t m : Nat} {r : List UInt8} (h : pNum (t % 16) l = some (m, r)) (hl : l.length ≤ 200000) : m + 4 ≤ 100000000 ∧ r.length ≤ l.length := by
  have := pNum_le l _ _ _ h
  omega
theorem pNum_small' {l : List UInt8} {t m : Nat} {r : List UInt8} (h : pNum (t / 16) l = some (m, r)) (ht : t < 256) (hl : l.length ≤ 200000) : m ≤ 100000000 ∧ r.length ≤ l.length := by
  have := pNum_le l _ _ _ h
  omega

theorem tot_cons (long L m d : Nat) (q : List Sq) (r : List UInt8) (h : L ≤ r.length) : long + total ((r.take L, d, m) :: q) = long + L + m + total q := by
  have : (r.take L).length = L := by simp [h]
  simp only [total, this]; omega
theorem parse_end {s : ByteArray} {i : Nat} (h : At s i []) (k : Nat) (acc : List S35) (n : Int) : lz_parse.l0 (k + 1) s acc n s i false = some ([], 0, false) := by
  have e0 : lz_reader_number.f k s (i : Int) true (0 / 16) = some (0, s, (i : Int), true) := by unfold lz_reader_number.f; simp
  rw [lz_parse.l0, byte_nil h]
  simp only [Option.bind_some]
  rw [e0]
  simp only [Option.bind_some]
  rw [literals_bad]
  simp only [Option.bind_some, if_pos]

/-- What lz's parse loop comes to from a place on. -/
theorem parse_l0 {s : ByteArray} (hs : s.size ≤ 200000) : ∀ (j k i long : Nat) (bs : List UInt8) (acc : List S35), At s i bs → bs.length < k → bs.length ≤ j → acc.length + bs.length ≤ 200000 →
    ∃ l n ok, lz_parse.l0 k s acc ((min long 1048577 : Nat) : Int) s i false = some (l, n, ok) ∧
      match parse j long bs with
      | none => ok = false
      | some q => ok = true ∧ l = acc ++ q.map s35 ∧ n = ((min (long + total q) 1048577 : Nat) : Int) := by
  intro j
  induction j with
  | zero =>
    intro k i long bs acc h hk hj _
    obtain rfl : bs = [] := List.length_eq_zero_iff.1 (by omega)
    obtain ⟨k, rfl⟩ : ∃ m, k = m + 1 := ⟨k - 1, by omega⟩
    refine ⟨[], 0, false, ?_, by simp only [parse]⟩
    exact parse_end h k _ _
  | succ j ih =>
    intro k i long bs acc h hk hj hacc
    obtain ⟨k, rfl⟩ : ∃ m, k = m + 1 := ⟨k - 1, by omega⟩
    cases bs with
    | nil =>
      refine ⟨[], 0, false, ?_, by simp only [parse]⟩
      exact parse_end h k _ _
    | cons t r =>
      have ht := t.toNat_lt
      have hr := h.next.1
      simp only [List.length_cons] at hk hj hacc
      have hdiv : (t.toNat : Int) / 16 = ((t.toNat / 16 : Nat) : Int) := by omega
      obtain ⟨m, i1, b1, e1, q1⟩ := number_any hs r k (i + 1) (t.toNat / 16) hr (by omega) (by omega)
      rw [lz_parse.l0, byte_cons h hs]
      simp only [Option.bind_some]
      rw [hdiv, e1]
      simp only [Option.bind_some, parse]
      cases hp : pNum (t.toNat / 16) r with
      | none =>
        rw [hp] at q1
        simp only at q1
        subst q1
        simp only [literals_bad, Option.bind_some, if_pos]
        exact ⟨_, _, _, rfl, rfl⟩
      | some x =>
        obtain ⟨L, r1⟩ := x
        rw [hp] at q1
        simp only at q1
        obtain ⟨rfl, rfl, i1', rfl, h1⟩ := q1
        have hle := pNum_small' hp ht (by omega)
        have hsz := h.le
        simp only [List.length_cons] at hsz
        simp only
        by_cases hL : r1.length < L
        · rw [literals_short h1 hs hL, if_pos hL]
          simp only [Option.bind_some, if_pos]
          exact ⟨_, _, _, rfl, rfl⟩
        · have hL' : L ≤ r1.length := by omega
          rw [literals_take h1 hs hL', if_neg hL]
          have h2 := h1.skip L hL'
          have hsz1 := h1.le
          have hmk : ((mk (r1.take L)).size : Int) = (L : Int) := by
            have : (mk (r1.take L)).size = L := by simp [mk, ByteArray.size, hL']
            rw [this]
          simp only [Option.bind_some]
          rw [if_neg (by simp)]
          rw [hmk, sat _ _ (by omega)]
          cases hd : r1.drop L with
          | nil =>
            rw [hd] at h2
            have := h2.nil
            rw [if_pos (by omega), if_pos (by omega), and15 _ ht]
            refine ⟨_, _, _, rfl, ?_⟩
            simp only
            by_cases h0 : t.toNat % 16 = 0
            · rw [if_pos h0]
              refine ⟨by rw [h0]; rfl, by simp [s35], by simp [total]; omega⟩
            · rw [if_neg h0]
              simp only [beq_eq_false_iff_ne, ne_eq]
              omega
          | cons a r2 =>
            rw [hd] at h2
            have hsz2 := h2.le
            simp only [List.length_cons] at hsz2
            rw [if_neg (by omega), byte_cons h2 hs]
            simp only [Option.bind_some]
            have h3 := h2.next.1
            cases r2 with
            | nil =>
              rw [byte_nil h3]
              simp only [Option.bind_some]
              obtain ⟨m, i', e⟩ := number_bad hs [] k (i1' + L + 1) (t.toNat % 16) h3 (by omega) (by omega)
              rw [and15 _ ht, e]
              simp only [Option.bind_some, if_pos]
              exact ⟨_, _, _, rfl, rfl⟩
            | cons b r3 =>
              rw [byte_cons h3 hs]
              simp only [Option.bind_some]
              have h4 := h3.next.1
              have hlen : r3.length + 2 + L = r1.length := by
                have := congrArg List.length hd
                simp at this; omega
              obtain ⟨M, i2, b2, e2, q2⟩ := number_any hs r3 k (i1' + L + 1 + 1) (t.toNat % 16) h4 (by omega) (by omega)
              rw [and15 _ ht, e2]
              simp only [Option.bind_some]
              cases hp2 : pNum (t.toNat % 16) r3 with
              | none =>
                rw [hp2] at q2
                simp only at q2
                subst q2
                rw [if_pos rfl]
                exact ⟨_, _, _, rfl, rfl⟩
              | some y =>
                obtain ⟨M', r4⟩ := y
                rw [hp2] at q2
                simp only at q2
                obtain ⟨rfl, rfl, i2', rfl, h5⟩ := q2
                have hle2 := pNum_small hp2 (by omega)
                have ha := a.toNat_lt
                have hb := b.toNat_lt
                rw [if_neg (by simp), or256 _ _ ha hb]
                simp only
                by_cases hz : a.toNat + 256 * b.toNat = 0
                · rw [if_pos (by omega), if_pos hz]
                  exact ⟨_, _, _, rfl, rfl⟩
                · rw [if_neg (by omega), if_neg hz]
                  by_cases hfar : long + L < a.toNat + 256 * b.toNat
                  · rw [if_pos (by omega), if_pos hfar]
                    exact ⟨_, _, _, rfl, rfl⟩
                  · rw [if_neg (by omega), if_neg hfar, if_pos (by omega)]
                    have eM : wrap64 ((M' : Int) + 4) = ((M' + 4 : Nat) : Int) := wr4 _ hle2.1
                    have hM2 : M' + 4 ≤ 100000000000000 := Nat.le_trans hle2.1 (by decide)
                    rw [eM, sat _ _ hM2]
                    obtain ⟨l, n, ok, e, q⟩ := ih k i2' (long + L + (M' + 4)) r4 (acc ++ [⟨mk (r1.take L), ((a.toNat + 256 * b.toNat : Nat) : Int), ((M' + 4 : Nat) : Int)⟩]) h5 (by clear eM hfar hz; omega) (by clear eM hfar hz; omega) (by clear eM hfar hz; simp; omega)
                    refine ⟨l, n, ok, e, ?_⟩
                    cases hq : parse j (long + L + (M' + 4)) r4 with
                    | none => rw [hq] at q; exact q
                    | some q' =>
                      rw [hq] at q
                      simp only at q
                      obtain ⟨q1, q2, q3⟩ := q
                      refine ⟨q1, ?_, ?_⟩
                      · rw [q2, List.append_assoc]; rfl
                      · rw [q3, tot_cons _ _ _ _ _ _ hL']

theorem parse_total (s : ByteArray) (hs : s.size ≤ 200000) : ∃ l n ok, lz_parse.f (s.size + 1) s = some (l, n, ok) ∧
    match parseOf s with
    | none => ok = false
    | some q => ok = true ∧ l = q.map s35 ∧ n = ((min (total q) 1048577 : Nat) : Int) := by
  have hl : s.data.toList.length = s.size := data_length s
  obtain ⟨l, n, ok, e, q⟩ := parse_l0 hs s.size (s.size + 1) 0 0 s.data.toList [] (At.start s) (by omega) (by omega) (by simp [hl]; omega)
  refine ⟨l, n, ok, ?_, by simpa [parseOf] using q⟩
  unfold lz_parse.f
  simpa using e

end Go.Proofs.Ytflkjofafgoapaa.Lz
