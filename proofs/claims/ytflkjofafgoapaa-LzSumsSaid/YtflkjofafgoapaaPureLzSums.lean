/- LzSums: the plain law. -/
import Derived.Test.YtflkjofafgoapaaQx24
import Derived.Test.YtflkjofafgoapaaSize
namespace Go.Proofs.Ytflkjofafgoapaa.Pure
open Go.RowKit Go.Proofs.Ytflkjofafgoapaa.Q Go.Proofs.Ytflkjofafgoapaa.Lz Go.Proofs.YtflkjofafgoapaaW.PrintWords Go.Proofs.YtflkjofafgoapaaW.PrintLast

theorem works_sums : garretlaw12_works.f = some true := by
  unfold garretlaw12_works.f lz_Unpack.f
  decide +kernel

theorem toList_loop (s : ByteArray) : ∀ (n i : Nat) (r : List UInt8), s.size - i = n → ByteArray.toList.loop s i r = r.reverse ++ s.data.toList.drop i
  | 0, i, r, h => by
    rw [ByteArray.toList.loop, if_neg (by omega), List.drop_eq_nil_of_le (by rw [data_length]; omega), List.append_nil]
  | n + 1, i, r, h => by
    have hi : i < s.data.toList.length := by rw [data_length]; omega
    have hi2 : i < s.data.size := by rw [← Array.length_toList]; exact hi
    rw [ByteArray.toList.loop, if_pos (by omega), toList_loop s n (i + 1) _ (by omega), List.reverse_cons, List.append_assoc, List.drop_eq_getElem_cons hi]
    have e : s.get! i = s.data.toList[i] := by
      show s.data[i]! = _
      rw [getElem!_pos s.data i hi2]
      simp
    rw [e]
    rfl
theorem toList_data (s : ByteArray) : s.toList = s.data.toList := by
  unfold ByteArray.toList
  rw [toList_loop s s.size 0 [] (by omega)]
  simp

theorem parse_good : ∀ (k long : Nat) (bs : List UInt8) (l : List Sq), parse k long bs = some l → Good long l := by
  intro k
  induction k with
  | zero => intro long bs l h; simp [parse] at h
  | succ k ih =>
    intro long bs l h
    cases bs with
    | nil => simp [parse] at h
    | cons t r =>
      simp only [parse] at h
      split at h
      · cases h
      · rename_i L r1 e1
        split at h
        · cases h
        · split at h
          · split at h
            · simp at h; subst h; exact ⟨rfl, rfl⟩
            · cases h
          · cases h
          · rename_i hlt a b r3 e2
            split at h
            · cases h
            · rename_i M r4 e3
              split at h
              · cases h
              · split at h
                · cases h
                · simp only [Option.map_eq_some_iff] at h
                  obtain ⟨q, hq, rfl⟩ := h
                  have hl : (r1.take L).length = L := by simp; omega
                  have hg := ih _ _ _ hq
                  cases q with
                  | nil => exact hg.elim
                  | cons y r5 =>
                    have ha := a.toNat_lt
                    have hb := b.toNat_lt
                    refine ⟨by omega, by omega, by omega, by omega, ?_⟩
                    rw [hl]
                    exact hg

theorem rd_s35 {q : List Sq} {i : Nat} {x : Sq} {rest : List Sq} (h : q.drop i = x :: rest) : rd_T35 (q.map s35) (i : Int) = s35 x := by
  have h1 : q[i]? = some x := by
    have : (q.drop i)[0]? = some x := by rw [h]; rfl
    simpa using this
  simp [rd_T35, List.getD, h1]

section
variable (x5 x8 : ByteArray) (x35 : List ByteArray) (x36 x37 : Int) (q : List Sq)

/-- The bytes that a sequence repeats. -/
theorem sums_l2 (i d M : Nat) (lt : ByteArray) (hM : M ≤ 131072) : ∀ (m c : Nat) (o : List UInt8) (k : Nat), c + m = M → (m ≠ 0 → 1 ≤ d ∧ d ≤ o.length) → o.length + m ≤ 100000000 →
    garretlaw12_LzSums.l2 (k + m + 1) x5 x8 (q.map s35) (nm o) x35 x36 x37 (q.map s35) (q.length : Int) (i : Int) (M : Int) (c : Int) lt (d : Int) (M : Int) =
      if ((nm (rep o d m)).length : Int) > 131072 then some true else garretlaw12_LzSums.l1 k x5 x8 (q.map s35) (nm (rep o d m)) x35 x36 x37 (q.map s35) (q.length : Int) (wrap64 ((i : Int) + 1)) := by
  intro m
  induction m with
  | zero =>
    intro c o k hc _ _
    rw [garretlaw12_LzSums.l2, if_neg (by omega)]
    rfl
  | succ m ih =>
    intro c o k hc hd ho
    obtain ⟨d1, d2⟩ := hd (by omega)
    have e1 : wrap64 (((nm o).length : Int) - (d : Int)) = ((o.length - d : Nat) : Int) := by rw [nm_len, wr _ (by omega) (by omega)]; omega
    have e2 : wrap64 ((c : Int) + 1) = ((c + 1 : Nat) : Int) := by rw [wr _ (by omega) (by omega)]; omega
    have e3 : nm o ++ [rd (nm o) ((o.length - d : Nat) : Int)] = nm (o ++ [o.getD (o.length - d) 0]) := by
      rw [nm_rd o _ (by omega)]; simp [nm]
    rw [show k + (m + 1) + 1 = (k + m + 1) + 1 from by omega, garretlaw12_LzSums.l2, if_pos (by omega), e1, if_pos (by omega), if_pos (by rw [nm_len]; omega), if_pos (by rw [nm_len]; omega), e3, e2]
    rw [ih (c + 1) _ k (by omega) (fun _ => by simp; omega) (by simp; omega)]
    rfl

theorem sums_l1 (K0 : Nat) (H0 : ∀ k, K0 ≤ k → garretlaw12_LzSums.l0 k x5 x35 x36 (wrap64 (x37 + 1)) = some true) (hq : parseOf x8 = some q) (h8 : x8.size ≤ 200000) (ht : total q ≤ 1048576) (hql : q.length ≤ 100000) :
    ∀ (rest : List Sq) (i : Nat) (out : List UInt8) (k : Nat), q.drop i = rest → (rest = [] ∨ Good out.length rest) → out.length + total rest = total q → openFrom out rest = openL q → total rest + 3 * rest.length + 1 + K0 ≤ k →
      garretlaw12_LzSums.l1 k x5 x8 (q.map s35) (nm out) x35 x36 x37 (q.map s35) (q.length : Int) (i : Int) = some true
  | [], i, out, k, hd, _, htot, hop, hk => by
    obtain ⟨k, rfl⟩ : ∃ j, k = j + 1 := ⟨k - 1, by omega⟩
    have hi : q.length ≤ i := List.drop_eq_nil_iff.1 hd
    have hu : unpackOf x8 ((nm out).length : Int) = (mk out, 0) := by
      unfold unpackOf
      have e : out = openL q := hop
      simp only [total] at htot
      rw [nm_len, if_neg (by omega), if_neg (by omega), hq]
      simp only
      rw [if_pos (by omega), ← e]
    rw [garretlaw12_LzSums.l1, if_neg (by omega), unpack_lz x8 h8, hu]
    simp only [Option.bind_some]
    rw [if_pos trivial, nm_str, if_pos rfl]
    exact H0 k (by simp at hk; omega)
  | (l, d, m) :: r, i, out, k, hd, hg, htot, hop, hk => by
    have hg2 : Good out.length ((l, d, m) :: r) := by rcases hg with h | h; cases h; exact h
    have htt : total ((l, d, m) :: r) = l.length + m + total r := rfl
    have hi : i < q.length := by
      by_cases h : i < q.length
      · exact h
      · rw [List.drop_eq_nil_of_le (by omega)] at hd; cases hd
    have hdr : q.drop (i + 1) = r := by rw [← List.drop_drop, hd]; rfl
    have hlast : (r = [] ↔ i + 1 = q.length) := by
      constructor
      · intro h
        rw [h] at hdr
        have := List.drop_eq_nil_iff.1 hdr
        omega
      · intro h
        rw [← hdr, h, List.drop_length]
    obtain ⟨k, rfl⟩ : ∃ j, k = j + 1 + 1 + m + 1 := ⟨k - m - 3, by simp at hk; omega⟩
    have hrd := rd_s35 hd
    have ew : wrap64 (((q.map s35).length : Int) - 1) = ((q.length - 1 : Nat) : Int) := by rw [List.length_map, wr _ (by omega) (by omega)]; omega
    have ey : nm out ++ bytesOf (mk l) = nm (out ++ l) := by rw [nm_bytes, nm_append]
    have el : (nm (out ++ l)).length = out.length + l.length := by rw [nm_len, List.length_append]
    have hsp : (d = 0 ∧ m = 0 ∧ r = []) ∨ (0 < d ∧ d ≤ out.length + l.length ∧ 4 ≤ m ∧ r ≠ [] ∧ Good (out.length + l.length + m) r) := by
      cases r with
      | nil => exact .inl ⟨hg2.1, hg2.2, rfl⟩
      | cons y r5 => exact .inr ⟨hg2.1, hg2.2.1, hg2.2.2.2.1, by simp, hg2.2.2.2.2⟩
    have hb1 : (((d : Int) == 0) != ((i : Int) == ((q.length - 1 : Nat) : Int))) = false := by
      rcases hsp with ⟨h1, _, h3⟩ | ⟨h1, _, _, h3, _⟩
      · have := hlast.1 h3
        have e1 : ((d : Int) == 0) = true := by rw [beq_iff_eq]; omega
        have e2 : ((i : Int) == ((q.length - 1 : Nat) : Int)) = true := by rw [beq_iff_eq]; omega
        rw [e1, e2]; rfl
      · have e1 : ((d : Int) == 0) = false := by rw [beq_eq_false_iff_ne]; omega
        have hne : ¬ i + 1 = q.length := fun h => h3 (hlast.2 h)
        have e2 : ((i : Int) == ((q.length - 1 : Nat) : Int)) = false := by rw [beq_eq_false_iff_ne]; omega
        rw [e1, e2]; rfl
    have hb2 : (((m : Int) == 0) != ((d : Int) == 0)) = false := by
      rcases hsp with ⟨h1, h2, h3⟩ | ⟨h1, _, h2, h3, _⟩
      · rw [h1, h2]; rfl
      · have e1 : ((d : Int) == 0) = false := by rw [beq_eq_false_iff_ne]; omega
        have e2 : ((m : Int) == 0) = false := by rw [beq_eq_false_iff_ne]; omega
        rw [e1, e2]; rfl
    rw [garretlaw12_LzSums.l1, if_pos (by omega), if_pos (by omega), if_pos (by rw [List.length_map]; omega), hrd]
    rw [show (s35 (l, d, m)).f0 = mk l from rfl, show (s35 (l, d, m)).f1 = (d : Int) from rfl, show (s35 (l, d, m)).f2 = (m : Int) from rfl]
    have hroom : (nm out).length + (mk l).size < 140737488355328 := by rw [nm_len, mk_sz]; omega
    rw [if_pos hroom, ey]
    simp only [Option.bind_some]
    rw [ew, hb1, if_neg (by decide), hb2, if_neg (by decide), if_neg (by omega), if_neg (by rw [el]; rcases hsp with h | h <;> omega)]
    rw [show k + 1 + 1 + m = (k + 1 + m) + 1 from by omega, garretlaw12_LzSums.j3]
    by_cases hbig : (m : Int) > 131072
    · rw [decide_eq_true hbig, if_pos rfl]
    rw [decide_eq_false hbig, if_neg (by decide)]
    rw [show k + 1 + m = k + m + 1 from by omega]
    have hl2 := sums_l2 x5 x8 x35 x36 x37 q i d m (mk l) (by omega) m 0 (out ++ l) k (by omega) (fun h => by rw [List.length_append]; rcases hsp with h2 | h2 <;> omega) (by rw [List.length_append]; omega)
    rw [show ((0 : Nat) : Int) = 0 from rfl] at hl2
    rw [hl2]
    by_cases hlong : ((nm (rep (out ++ l) d m)).length : Int) > 131072
    · rw [if_pos hlong]
    rw [if_neg hlong]
    have ei : wrap64 ((i : Int) + 1) = ((i + 1 : Nat) : Int) := by rw [wr _ (by omega) (by omega)]; omega
    rw [ei]
    have hlen : (rep (out ++ l) d m).length = out.length + l.length + m := by rw [length_rep, List.length_append]
    refine sums_l1 K0 H0 hq h8 ht hql r (i + 1) (rep (out ++ l) d m) k hdr ?_ ?_ hop ?_
    · rcases hsp with h | h
      · exact .inl h.2.2
      · exact .inr (by rw [hlen]; exact h.2.2.2.2)
    · rw [hlen]; omega
    · simp only [List.length_cons] at hk; omega

end

/-- One text of the two. -/
theorem sums_one (x5 x8 : ByteArray) (x35 : List ByteArray) (x36 : Int) (i : Nat) (K0 k : Nat) (h8 : x8.size ≤ 100000) (hk : K0 + 2000000 ≤ k) (hi : (i : Int) < x36) (hi2 : i < x35.length) (hx : rdOf ByteArray.empty x35 (i : Int) = x8)
    (H0 : ∀ k, K0 ≤ k → garretlaw12_LzSums.l0 k x5 x35 x36 (wrap64 ((i : Int) + 1)) = some true) (hne : (seqsOf x8).2 ≠ 0 → x8.toList ≠ x5.toList) :
    garretlaw12_LzSums.l0 k x5 x35 x36 (i : Int) = some true := by
  obtain ⟨k, rfl⟩ : ∃ j, k = j + 1 := ⟨k - 1, by omega⟩
  rw [garretlaw12_LzSums.l0, if_pos hi, if_pos (by omega), if_pos (by omega), hx, seq_lz x8 (by omega) k (by omega)]
  simp only [Option.bind_some]
  by_cases h : (seqsOf x8).2 = 0
  · rw [if_pos h]
    unfold seqsOf at h ⊢
    cases hp : parseOf x8 with
    | none => rw [hp] at h; simp at h
    | some q =>
      rw [hp] at h
      simp only at h ⊢
      by_cases ht : total q > 1048576
      · rw [if_pos ht] at h; simp at h
      · rw [if_neg ht]
        simp only
        have hql := parseOf_len x8 q hp
        rw [List.length_map]
        have hg := parse_good _ _ _ _ hp
        exact sums_l1 x5 x8 x35 x36 (i : Int) q K0 H0 hp (by omega) (by omega) (by omega) q 0 [] k rfl (.inr hg) (by simp) rfl (by omega)
  · rw [if_neg h, if_neg (hne h)]
    exact H0 k (by omega)

theorem sums_main (s r : ByteArray) (hs : s.size ≤ 1000) (hr : r.size ≤ 1000) (k : Nat) (hk : 5000000 ≤ k) : garretlaw12_LzSums.j0 (k + 1) s r false = some true := by
  have hp : lz_Pack.f s = some (packOf s, 0) := by unfold lz_Pack.f; rw [if_neg (by omega), if_pos (by omega)]
  have hb := pack_bound s (by omega)
  have hseq : (seqsOf (packOf s)).2 = 0 := by
    unfold seqsOf
    rw [pack_parse s (by omega)]
    simp only
    rw [if_neg (by rw [pack_total s (by omega)]; omega)]
  rw [garretlaw12_LzSums.j0, if_neg (by decide), hp]
  simp only [Option.bind_some]
  rw [if_pos trivial]
  simp only [List.length_cons, List.length_nil]
  have h2 : ∀ k, 1 ≤ k → garretlaw12_LzSums.l0 k (packOf s) [packOf s, r] 2 (wrap64 (((1 : Nat) : Int) + 1)) = some true := by
    intro k hk
    obtain ⟨k, rfl⟩ : ∃ j, k = j + 1 := ⟨k - 1, by omega⟩
    have ew : wrap64 (((1 : Nat) : Int) + 1) = 2 := by rw [wr _ (by omega) (by omega)]; rfl
    rw [ew, garretlaw12_LzSums.l0, if_neg (by decide)]
  have h1 : ∀ k, 2500000 ≤ k → garretlaw12_LzSums.l0 k (packOf s) [packOf s, r] 2 (wrap64 (((0 : Nat) : Int) + 1)) = some true := by
    intro k hk
    have ew : wrap64 (((0 : Nat) : Int) + 1) = ((1 : Nat) : Int) := by rw [wr _ (by omega) (by omega)]; rfl
    rw [ew]
    exact sums_one (packOf s) r [packOf s, r] 2 1 1 k (by omega) (by omega) (by decide) (by simp) rfl h2 (fun h he => h (by
      have e : r = packOf s := by
        have h1 := toList_data r
        have h2 := toList_data (packOf s)
        rw [h1, h2] at he
        rw [← mk_toList r, ← mk_toList (packOf s), he]
      rw [e]; exact hseq))
  exact sums_one (packOf s) (packOf s) [packOf s, r] 2 0 2500000 k (by omega) (by omega) (by decide) (by simp) rfl h1 (fun h => absurd hseq h)

theorem LzSums : garretlaw12_LzSums.Pure := by
  intro s r _ _
  refine ⟨6000000, ?_⟩
  unfold garretlaw12_LzSums.f
  rw [works_sums]
  simp only [Option.bind_some]
  rw [if_pos trivial]
  by_cases h : (s.size : Int) > 1000
  · rw [if_pos h, show (6000000 : Nat) = 5999999 + 1 from rfl, garretlaw12_LzSums.j0, if_pos rfl]
  rw [if_neg h, show (6000000 : Nat) = 5999999 + 1 from rfl]
  by_cases h2 : (r.size : Int) > 1000
  · rw [decide_eq_true h2, garretlaw12_LzSums.j0, if_pos rfl]
  · rw [decide_eq_false h2]
    exact sums_main s r (by omega) (by omega) 5999999 (by omega)

end Go.Proofs.Ytflkjofafgoapaa.Pure
