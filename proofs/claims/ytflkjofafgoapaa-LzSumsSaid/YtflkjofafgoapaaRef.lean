/- What the document's own Parse, Open, Unpack and Sequences compute, by the plain model. -/
import Derived.Test.YtflkjofafgoapaaQx9
import Derived.Test.YtflkjofafgoapaaQx11
import Derived.Test.YtflkjofafgoapaaQx10
import Derived.Test.YtflkjofafgoapaaHUnpack
namespace Go.Proofs.Ytflkjofafgoapaa.Lz
open Go.RowKit Go.Proofs.Ytflkjofafgoapaa.Q Go.Proofs.YtflkjofafgoapaaW.PrintWords Go.Proofs.YtflkjofafgoapaaW.PrintLast

theorem wrb (c : UInt8) : wrap64 (c.toNat : Int) = (c.toNat : Int) := by have := c.toNat_lt; exact wr _ (by omega) (by omega)
theorem ref_hi (t : Nat) (h : t < 256) : Int.tdiv (t : Int) 16 % 256 = ((t / 16 : Nat) : Int) := by
  rw [Int.tdiv_eq_ediv_of_nonneg (by omega)]; omega
theorem ref_lo (t : Nat) (h : t < 256) : wrap64 (Int.tmod (t : Int) 16) = ((t % 16 : Nat) : Int) := by
  rw [Int.tmod_eq_emod_of_nonneg (by omega), wr _ (by omega) (by omega)]; omega

theorem more_ext {s : ByteArray} (hs : s.size ≤ 200000) : ∀ (bs : List UInt8) (k i n : Nat), At s i bs → bs.length < k → n + 255 * bs.length ≤ 100000000 →
    match pExt n bs with
    | none => garretref12_more.l0 k s i n = some (0, 0, false)
    | some (m', r) => ∃ j : Nat, garretref12_more.l0 k s i n = some ((m' : Int), (j : Int), true) ∧ At s j r := by
  intro bs
  induction bs with
  | nil =>
    intro k i n h hk hn
    obtain ⟨k, rfl⟩ : ∃ m, k = m + 1 := ⟨k - 1, by omega⟩
    have := h.nil
    simp only [pExt]
    rw [garretref12_more.l0, if_neg (by omega)]
  | cons c r ih =>
    intro k i n h hk hn
    obtain ⟨k, rfl⟩ : ∃ m, k = m + 1 := ⟨k - 1, by omega⟩
    have hc := c.toNat_lt
    simp only [List.length_cons] at hk hn
    obtain ⟨hnx, hb, hi⟩ := h.next
    have e1 : wrap64 ((n : Int) + (c.toNat : Int)) = ((n + c.toNat : Nat) : Int) := by rw [wr _ (by omega) (by omega)]; omega
    have e2 : wrap64 ((i : Int) + 1) = ((i + 1 : Nat) : Int) := by rw [wr _ (by omega) (by omega)]; omega
    simp only [pExt]
    by_cases hlt : c.toNat < 255
    · rw [if_pos hlt]
      refine ⟨i + 1, ?_, hnx⟩
      rw [garretref12_more.l0, if_pos (by omega), if_pos (by omega), hb, wrb, if_pos (by omega), e1, e2]
    · have hc' : c.toNat = 255 := by omega
      rw [if_neg hlt]
      have := ih k (i + 1) (n + 255) hnx (by omega) (by omega)
      rw [garretref12_more.l0, if_pos (by omega), if_pos (by omega), hb, wrb, if_neg (by omega), e1, e2, hc']
      exact this

theorem more_any {s : ByteArray} (hs : s.size ≤ 200000) (bs : List UInt8) (k i n : Nat) (h : At s i bs) (hk : bs.length < k) (hn : n ≤ 15) :
    match pNum n bs with
    | none => garretref12_more.f k s i n = some (0, 0, false)
    | some (m', r) => ∃ j : Nat, garretref12_more.f k s i n = some ((m' : Int), (j : Int), true) ∧ At s j r := by
  have hl := h.le
  unfold garretref12_more.f pNum
  by_cases h15 : n < 15
  · have h' : (n : Int) < 15 := by omega
    rw [if_pos h15, if_pos h']
    exact ⟨i, rfl, h⟩
  · have h' : ¬ (n : Int) < 15 := by omega
    rw [if_neg h15, if_neg h']
    exact more_ext hs bs k i n h hk (by omega)

def s36 (x : Sq) : S36 := ⟨mk x.1, (x.2.1 : Int), (x.2.2 : Int)⟩

theorem satR (a b : Nat) (hb : b ≤ 100000000000000) : mn (wrap64 (((min a 2097152 : Nat) : Int) + (b : Int))) 2097152 = ((min (a + b) 2097152 : Nat) : Int) := by
  rw [wr _ (by omega) (by omega)]
  unfold mn; omega

theorem wr2 (i n : Nat) (h : i + n ≤ 1000000000) : wrap64 ((i : Int) + (n : Int)) = ((i + n : Nat) : Int) := by rw [wr _ (by omega) (by omega)]; omega
theorem wr1 (i : Nat) (h : i ≤ 1000000000) : wrap64 ((i : Int) + 1) = ((i + 1 : Nat) : Int) := by rw [wr _ (by omega) (by omega)]; omega
theorem wr22 (i : Nat) (h : i ≤ 1000000000) : wrap64 ((i : Int) + 2) = ((i + 1 + 1 : Nat) : Int) := by rw [wr _ (by omega) (by omega)]; omega
theorem wsub (i n : Nat) (h : i ≤ 1000000000) (h2 : n ≤ 1000000000) : wrap64 ((i : Int) - (n : Int)) = (i : Int) - (n : Int) := wr _ (by omega) (by omega)
theorem wdist (a b : UInt8) : wrap64 ((wrap64 (a.toNat : Int)) + (wrap64 ((wrap64 (b.toNat : Int)) * 256))) = ((a.toNat + 256 * b.toNat : Nat) : Int) := by
  have ha := a.toNat_lt
  have hb := b.toNat_lt
  rw [wrb, wrb, wr ((b.toNat : Int) * 256) (by omega) (by omega), wr _ (by omega) (by omega)]
  omega

/-- What the document's Parse loop comes to from a place on. -/
theorem ref_l0 {s : ByteArray} (hs : s.size ≤ 200000) : ∀ (j k i long : Nat) (bs : List UInt8) (acc : List S36), At s i bs → bs.length < k → bs.length ≤ j → acc.length + bs.length ≤ 200000 →
    ∃ l n ok, garretref12_Parse.l0 k s acc i ((min long 2097152 : Nat) : Int) = some (l, n, ok) ∧
      match parse j long bs with
      | none => ok = false
      | some q => ok = true ∧ l = acc ++ q.map s36 ∧ n = ((min (long + total q) 2097152 : Nat) : Int) := by
  intro j
  induction j with
  | zero =>
    intro k i long bs acc h hk hj _
    obtain rfl : bs = [] := List.length_eq_zero_iff.1 (by omega)
    obtain ⟨k, rfl⟩ : ∃ m, k = m + 1 := ⟨k - 1, by omega⟩
    have := h.nil
    refine ⟨[], 0, false, ?_, by simp only [parse]⟩
    rw [garretref12_Parse.l0, if_neg (by omega)]
  | succ j ih =>
    intro k i long bs acc h hk hj hacc
    obtain ⟨k, rfl⟩ : ∃ m, k = m + 1 := ⟨k - 1, by omega⟩
    cases bs with
    | nil =>
      have := h.nil
      refine ⟨[], 0, false, ?_, by simp only [parse]⟩
      rw [garretref12_Parse.l0, if_neg (by omega)]
    | cons t r =>
      have ht := t.toNat_lt
      obtain ⟨hr, hb0, hi⟩ := h.next
      simp only [List.length_cons] at hk hj hacc
      have hsz := h.le
      simp only [List.length_cons] at hsz
      have q1 := more_any hs r k (i + 1) (t.toNat / 16) hr (by omega) (by omega)
      rw [garretref12_Parse.l0, if_pos (by omega), if_pos (by omega), hb0, ref_hi _ ht, ref_lo _ ht, wr1 i (by omega)]
      simp only [parse]
      cases hp : pNum (t.toNat / 16) r with
      | none =>
        rw [hp] at q1
        simp only at q1
        rw [q1]
        simp only [Option.bind_some]
        rw [if_neg (by simp)]
        exact ⟨_, _, _, rfl, rfl⟩
      | some x =>
        obtain ⟨L, r1⟩ := x
        rw [hp] at q1
        simp only at q1
        obtain ⟨i1, e1, h1⟩ := q1
        rw [e1]
        have hle := pNum_small' hp ht (by omega)
        have hsz1 := h1.le
        simp only [Option.bind_some]
        rw [if_pos trivial, wsub _ _ (by omega) (by omega)]
        by_cases hL : r1.length < L
        · rw [if_pos (by omega), if_pos hL]
          exact ⟨_, _, _, rfl, rfl⟩
        · have hL' : L ≤ r1.length := by omega
          have h2 := h1.skip L hL'
          rw [if_neg (by omega), if_neg hL, wr2 _ _ (by omega), if_pos (by omega), if_pos (by omega), if_pos (by omega), satR _ _ (by omega)]
          have hcut : s.extract ((i1 : Int)).toNat (((i1 + L : Nat) : Int)).toNat = mk (r1.take L) := by
            simp only [Int.toNat_natCast]
            rw [← h1.cut L, mk_toList]
          rw [hcut]
          cases hd : r1.drop L with
          | nil =>
            rw [hd] at h2
            have := h2.nil
            rw [if_pos (by omega), if_pos (by omega)]
            refine ⟨_, _, _, rfl, ?_⟩
            simp only
            by_cases h0 : t.toNat % 16 = 0
            · rw [if_pos h0]
              refine ⟨by rw [h0]; rfl, by simp [s36], by simp [total]; omega⟩
            · rw [if_neg h0]
              simp only [beq_eq_false_iff_ne, ne_eq]
              omega
          | cons a r2 =>
            rw [hd] at h2
            have hsz2 := h2.le
            simp only [List.length_cons] at hsz2
            obtain ⟨h3, ha0, hi2⟩ := h2.next
            rw [if_neg (by omega), wr22 _ (by omega)]
            cases r2 with
            | nil =>
              have := h3.nil
              rw [if_pos (by omega)]
              exact ⟨_, _, _, rfl, rfl⟩
            | cons b r3 =>
              obtain ⟨h4, hb1, hi3⟩ := h3.next
              have hsz3 := h3.le
              simp only [List.length_cons] at hsz3
              rw [if_neg (by omega), if_pos (by omega), if_pos (by omega), wr1 _ (by omega), if_pos (by omega), if_pos (by omega), ha0, hb1, wdist]
              have hlen : r3.length + 2 + L = r1.length := by
                have := congrArg List.length hd
                simp at this; omega
              have q2 := more_any hs r3 k (i1 + L + 1 + 1) (t.toNat % 16) h4 (by omega) (by omega)
              cases hp2 : pNum (t.toNat % 16) r3 with
              | none =>
                rw [hp2] at q2
                simp only at q2
                rw [q2]
                simp only [Option.bind_some, hp2]
                rw [if_neg (by simp)]
                exact ⟨_, _, _, rfl, rfl⟩
              | some y =>
                obtain ⟨M', r4⟩ := y
                rw [hp2] at q2
                simp only at q2
                obtain ⟨i2, e2, h5⟩ := q2
                rw [e2]
                have hle2 := pNum_small hp2 (by omega)
                have ha := a.toNat_lt
                have hb := b.toNat_lt
                simp only [Option.bind_some, hp2]
                rw [if_pos trivial]
                by_cases hz : a.toNat + 256 * b.toNat = 0
                · rw [if_pos (by omega), if_pos hz]
                  exact ⟨_, _, _, rfl, rfl⟩
                · rw [if_neg (by omega), if_neg hz]
                  by_cases hfar : long + L < a.toNat + 256 * b.toNat
                  · rw [if_pos (by omega), if_pos hfar]
                    exact ⟨_, _, _, rfl, rfl⟩
                  · rw [if_neg (by omega), if_neg hfar, if_pos (by omega)]
                    have eM : wrap64 ((M' : Int) + 4) = ((M' + 4 : Nat) : Int) := wr4 _ hle2.1
                    have hM2 : M' + 4 ≤ 100000000000000 := Nat.le_trans hle2.1 (by decide)
                    rw [eM, satR _ _ hM2]
                    obtain ⟨l, n, ok, e, q⟩ := ih k i2 (long + L + (M' + 4)) r4 (acc ++ [⟨mk (r1.take L), ((a.toNat + 256 * b.toNat : Nat) : Int), ((M' + 4 : Nat) : Int)⟩]) h5 (by clear eM hfar hz; omega) (by clear eM hfar hz; omega) (by clear eM hfar hz; simp; omega)
                    refine ⟨l, n, ok, e, ?_⟩
                    cases hq : parse j (long + L + (M' + 4)) r4 with
                    | none => rw [hq] at q; exact q
                    | some q' =>
                      rw [hq] at q
                      simp only at q
                      obtain ⟨q1, q2, q3⟩ := q
                      refine ⟨q1, ?_, ?_⟩
                      · rw [q2, List.append_assoc]; rfl
                      · rw [q3, tot_cons _ _ _ _ _ _ hL']

theorem ref_total (s : ByteArray) (hs : s.size ≤ 200000) (k : Nat) (hk : s.size < k) : ∃ l n ok, garretref12_Parse.f k s = some (l, n, ok) ∧
    match parseOf s with
    | none => ok = false
    | some q => ok = true ∧ l = q.map s36 ∧ n = ((min (total q) 2097152 : Nat) : Int) := by
  have hl : s.data.toList.length = s.size := data_length s
  obtain ⟨l, n, ok, e, q⟩ := ref_l0 hs s.size k 0 0 s.data.toList [] (At.start s) (by omega) (by omega) (by simp [hl]; omega)
  refine ⟨l, n, ok, ?_, by simpa [parseOf] using q⟩
  unfold garretref12_Parse.f
  simpa using e

/-- Bytes as numbers. -/
def nm (o : List UInt8) : List Int := o.map fun b => (b.toNat : Int)
theorem nm_len (o : List UInt8) : (nm o).length = o.length := by simp [nm]
theorem nm_str (o : List UInt8) : strOfNums (nm o) = mk o := by simp [strOfNums, nm, mk, Function.comp_def]
theorem nm_bytes (l : List UInt8) : bytesOf (mk l) = nm l := by simp [bytesOf, mk, nm]
theorem mk_sz (l : List UInt8) : (mk l).size = l.length := by simp [mk, ByteArray.size]
theorem nm_rd (o : List UInt8) (i : Nat) (h : i < o.length) : rd (nm o) (i : Int) = ((o.getD i 0).toNat : Int) := by
  simp [rd, nm, List.getD, List.getElem?_eq_getElem h]
theorem rd_s36 {q : List Sq} {i : Nat} {x : Sq} {rest : List Sq} (h : q.drop i = x :: rest) : rd_T36 (q.map s36) (i : Int) = s36 x := by
  have h1 : q[i]? = some x := by
    have : (q.drop i)[0]? = some x := by rw [h]; rfl
    simpa using this
  simp [rd_T36, List.getD, h1]

theorem open_l1 (q : List Sq) (i : Nat) (lits : List UInt8) (d M : Nat) (rest : List Sq) (hq : q.drop i = (lits, d, M) :: rest) (hql : q.length ≤ 1000000) (hM : M ≤ 100000000) :
    ∀ (m : Nat) (o : List UInt8) (c k : Nat), c + m = M → (m ≠ 0 → 1 ≤ d ∧ d ≤ o.length) → o.length + m ≤ 100000000 →
      garretref12_Open.l1 (k + m + 1) (q.map s36) (nm o) i c = garretref12_Open.l0 k (q.map s36) (nm (rep o d m)) ((i + 1 : Nat) : Int) := by
  have hi : i < q.length := by
    have := congrArg List.length hq
    simp at this; omega
  have hr := rd_s36 hq
  have e1 : wrap64 ((i : Int) + 1) = ((i + 1 : Nat) : Int) := by rw [wr _ (by omega) (by omega)]; omega
  intro m
  induction m with
  | zero =>
    intro o c k hc _ _
    obtain rfl : c = M := by omega
    rw [garretref12_Open.l1, if_pos (by omega), if_pos (by simp; omega), hr]
    rw [if_neg (show ¬ ((c : Int) < (s36 (lits, d, c)).f2) from by show ¬ ((c : Int) < (c : Int)); omega), e1]
    rfl
  | succ m ih =>
    intro o c k hc hd ho
    obtain ⟨h1, h2⟩ := hd (by omega)
    have e2 : wrap64 ((((nm o).length : Nat) : Int) - (s36 (lits, d, M)).f1) = ((o.length - d : Nat) : Int) := by show wrap64 ((((nm o).length : Nat) : Int) - (d : Int)) = _; rw [nm_len, wr _ (by omega) (by omega)]; omega
    have e3 : wrap64 ((c : Int) + 1) = ((c + 1 : Nat) : Int) := by rw [wr _ (by omega) (by omega)]; omega
    rw [show k + (m + 1) + 1 = (k + m + 1) + 1 from by omega, garretref12_Open.l1, if_pos (by omega), if_pos (by simp; omega), hr]
    have e0 : (c : Int) < (s36 (lits, d, M)).f2 := by show (c : Int) < (M : Int); omega
    have e5 : (0 : Int) ≤ ((o.length - d : Nat) : Int) := by omega
    have e6 : ((o.length - d : Nat) : Int) < ((nm o).length : Int) := by rw [nm_len]; omega
    have e7 : (nm o).length < 140737488355328 := by rw [nm_len]; omega
    rw [if_pos e0, e2, if_pos e5, if_pos e6, if_pos e7, nm_rd _ _ (by omega), e3]
    have e4 : nm o ++ [((o.getD (o.length - d) 0).toNat : Int)] = nm (o ++ [o.getD (o.length - d) 0]) := by simp [nm]
    rw [e4, ih _ (c + 1) k (by omega) (fun _ => ⟨h1, by simp; omega⟩) (by simp; omega)]
    rfl

theorem open_l0 (q : List Sq) (hql : q.length ≤ 1000000) : ∀ (rest : List Sq) (out : List UInt8) (i k : Nat), q.drop i = rest → Fits out.length rest → out.length + total rest ≤ 100000000 → total rest + 2 * rest.length < k →
    garretref12_Open.l0 k (q.map s36) (nm out) i = some (mk (openFrom out rest)) := by
  intro rest
  induction rest with
  | nil =>
    intro out i k hq _ _ hk
    obtain ⟨k, rfl⟩ : ∃ m, k = m + 1 := ⟨k - 1, by omega⟩
    have : q.length ≤ i := List.drop_eq_nil_iff.1 hq
    rw [garretref12_Open.l0, if_neg (by simp; omega), nm_str]
    rfl
  | cons x rest ih =>
    obtain ⟨lits, d, M⟩ := x
    intro out i k hq hf ht hk
    simp only [total, List.length_cons] at ht hk
    have hi : i < q.length := by
      have := congrArg List.length hq
      simp at this; omega
    obtain ⟨k, rfl⟩ : ∃ m, k = m + M + 1 + 1 := ⟨k - M - 2, by omega⟩
    have hf1 := hf.1
    have hf2 := hf.2
    rw [garretref12_Open.l0, if_pos (by simp; omega), if_pos (by omega), rd_s36 hq]
    have f0 : (s36 (lits, d, M)).f0 = mk lits := rfl
    rw [f0, if_pos (by rw [nm_len, mk_sz]; omega), nm_bytes]
    have e4 : nm out ++ nm lits = nm (out ++ lits) := by simp [nm]
    rw [e4]
    have h0 := open_l1 q i lits d M rest hq hql (by omega) M (out ++ lits) 0 k (by omega) (fun h => by have := hf1 h; simp; omega) (by simp; omega)
    rw [show ((0 : Nat) : Int) = 0 from rfl] at h0
    rw [h0]
    have hl : (rep (out ++ lits) d M).length = out.length + lits.length + M := by rw [length_rep]; simp
    rw [ih (rep (out ++ lits) d M) (i + 1) k (by rw [← List.drop_drop, hq]; rfl) (by rw [hl]; exact hf2) (by rw [hl]; omega) (by omega)]
    rfl

theorem open_total (q : List Sq) (hql : q.length ≤ 1000000) (hf : Fits 0 q) (ht : total q ≤ 10000000) (k : Nat) (hk : total q + 2 * q.length < k) : garretref12_Open.f k (q.map s36) = some (mk (openL q)) := by
  unfold garretref12_Open.f
  have := open_l0 q hql q [] 0 k rfl (by simpa using hf) (by simp; omega) hk
  simpa [nm, openL] using this

theorem lz_total (s : ByteArray) (hs : s.size ≤ 200000) (k : Nat) (hk : s.size < k) : ∃ l n ok, lz_parse.f k s = some (l, n, ok) ∧
    match parseOf s with
    | none => ok = false
    | some q => ok = true ∧ l = q.map s35 ∧ n = ((min (total q) 1048577 : Nat) : Int) := by
  have hl : s.data.toList.length = s.size := data_length s
  obtain ⟨l, n, ok, e, q⟩ := parse_l0 hs s.size k 0 0 s.data.toList [] (At.start s) (by omega) (by omega) (by simp [hl]; omega)
  refine ⟨l, n, ok, ?_, ?_⟩
  · unfold lz_parse.f
    simpa using e
  · unfold parseOf
    cases hp : parse s.size 0 s.data.toList with
    | none => rw [hp] at q; exact q
    | some x => rw [hp] at q; simpa using q

/-- What a block's sequences are, and a code: as the program and the document have it. -/
def seqsOf (s : ByteArray) : List Sq × Int :=
  match parseOf s with
  | none => ([], 120)
  | some q => if total q > 1048576 then ([], 2) else (q, 0)

theorem seq_lz (s : ByteArray) (hs : s.size ≤ 200000) (k : Nat) (hk : s.size < k) : lz_Sequences.f k s = some ((seqsOf s).1.map s35, (seqsOf s).2) := by
  obtain ⟨l, n, ok, e, h⟩ := lz_total s hs k hk
  unfold lz_Sequences.f seqsOf
  rw [e]
  simp only [Option.bind_some]
  cases hp : parseOf s with
  | none => rw [hp] at h; simp only at h; subst h; rw [if_neg (by simp)]; rfl
  | some q =>
    rw [hp] at h; simp only at h
    obtain ⟨rfl, rfl, rfl⟩ := h
    rw [if_pos rfl]
    by_cases hq : total q > 1048576
    · rw [if_pos (by omega)]; simp only; rw [if_pos hq]; rfl
    · rw [if_neg (by omega)]; simp only; rw [if_neg hq]

theorem seq_ref (s : ByteArray) (hs : s.size ≤ 200000) (k : Nat) (hk : s.size < k) : garretref12_Sequences.f k s = some ((seqsOf s).1.map s36, (seqsOf s).2) := by
  obtain ⟨l, n, ok, e, h⟩ := ref_total s hs k hk
  unfold garretref12_Sequences.f seqsOf
  rw [e]
  simp only [Option.bind_some]
  cases hp : parseOf s with
  | none => rw [hp] at h; simp only at h; subst h; rw [if_neg (by simp)]; rfl
  | some q =>
    rw [hp] at h; simp only at h
    obtain ⟨rfl, rfl, rfl⟩ := h
    rw [if_pos rfl]
    by_cases hq : total q > 1048576
    · rw [if_pos (by omega)]; simp only; rw [if_pos hq]; rfl
    · rw [if_neg (by omega)]; simp only; rw [if_neg hq]

theorem parseOf_len (s : ByteArray) (q : List Sq) (h : parseOf s = some q) : q.length ≤ s.size := by
  have := parse_len _ _ _ _ h
  rwa [data_length] at this

theorem unpack_ref (s : ByteArray) (hs : s.size ≤ 10000) (n : Int) (k : Nat) (hk : 1100000 ≤ k) : garretref12_Unpack.f k s n = some (unpackOf s n) := by
  obtain ⟨k, rfl⟩ : ∃ m, k = m + 1 := ⟨k - 1, by omega⟩
  obtain ⟨l, m, ok, e, h⟩ := ref_total s (by omega) k (by omega)
  unfold garretref12_Unpack.f unpackOf
  by_cases h0 : n < 0
  · rw [if_pos h0, if_pos h0, garretref12_Unpack.j0, if_pos rfl]
  · rw [if_neg h0, if_neg h0]
    by_cases h1 : n > 1048576
    · have hd : decide (n > 1048576) = true := decide_eq_true h1
      rw [hd, if_pos h1, garretref12_Unpack.j0, if_pos rfl]
    · have hd : decide (n > 1048576) = false := decide_eq_false h1
      rw [hd, if_neg h1, garretref12_Unpack.j0, if_neg (by simp), e]
      simp only [Option.bind_some]
      cases hp : parseOf s with
      | none => rw [hp] at h; simp only at h; subst h; rw [if_neg (by simp)]
      | some q =>
        rw [hp] at h; simp only at h
        obtain ⟨rfl, rfl, rfl⟩ := h
        rw [if_pos rfl]
        have hl := parseOf_len s q hp
        by_cases ht : (total q : Int) = n
        · rw [if_pos (by omega)]
          simp only
          rw [if_pos ht, open_total q (by omega) (parse_fits _ _ _ _ hp) (by omega) k (by omega)]
          rfl
        · rw [if_neg (by omega)]
          simp only
          rw [if_neg ht]

theorem unpack_lz (s : ByteArray) (hs : s.size ≤ 200000) (n : Int) : lz_Unpack.f s n = some (unpackOf s n) := by
  unfold lz_Unpack.f
  rw [if_pos hs]

end Go.Proofs.Ytflkjofafgoapaa.Lz
