/- The law LzUnpacks holds: for every text and every number, lz.Unpack and lz.Sequences answer as the document's own definitions do, and what a block unpacks to is what its sequences open to. No condition. -/
import Derived.Test.YtflkjofafgoapaaQx12
import Derived.Test.YtflkjofafgoapaaRef
namespace Go.Proofs.Ytflkjofafgoapaa.Pure
open Go.RowKit Go.Proofs.Ytflkjofafgoapaa.Q Go.Proofs.YtflkjofafgoapaaW.PrintWords Go.Proofs.YtflkjofafgoapaaW.PrintLast
open Go.Proofs.Ytflkjofafgoapaa.Lz

theorem works_true : garretlaw12_works.f = some true := by
  unfold garretlaw12_works.f lz_Unpack.f
  decide +kernel

theorem same_all (x0 : ByteArray) (x5 : List S36) (x6 : Int) (x7 : Bool) (q : List Sq) (hq : q.length ≤ 100000) : ∀ (d i k : Nat), i + d = q.length →
    garretlaw12_LzUnpacks.l0 (k + d + 1) x0 x5 x6 x7 (q.map s35) (q.map s36) i = garretlaw12_LzUnpacks.l0 (k + 1) x0 x5 x6 x7 (q.map s35) (q.map s36) (q.length : Nat) := by
  intro d
  induction d with
  | zero => intro i k h; rw [show i = q.length from by omega]
  | succ d ih =>
    intro i k h
    have hi : i < q.length := by omega
    have e1 : wrap64 ((i : Int) + 1) = ((i + 1 : Nat) : Int) := by rw [wr _ (by omega) (by omega)]; omega
    have hd : q.drop i = q[i] :: q.drop (i + 1) := List.drop_eq_getElem_cons hi
    have h5 : rd_T35 (q.map s35) (i : Int) = s35 q[i] := by simp [rd_T35, List.getD, hi]
    have h6 : rd_T36 (q.map s36) (i : Int) = s36 q[i] := by simp [rd_T36, List.getD, hi]
    rw [show k + (d + 1) + 1 = (k + d + 1) + 1 from by omega, garretlaw12_LzUnpacks.l0, h5, h6]
    rw [if_pos (by simp; omega), if_pos (by omega), if_pos (by simp; omega), if_pos (show (s35 q[i]).f0.toList = (s36 q[i]).f0.toList from rfl), if_pos (show (s35 q[i]).f1 = (s36 q[i]).f1 from rfl), if_pos (show (s35 q[i]).f2 = (s36 q[i]).f2 from rfl), e1]
    exact ih (i + 1) k (by omega)

theorem LzUnpacks : garretlaw12_LzUnpacks.Pure := by
  intro s n _ _
  refine ⟨2000000, ?_⟩
  unfold garretlaw12_LzUnpacks.f
  by_cases hs : (s.size : Int) > 2000
  · rw [if_pos hs, works_true]; rfl
  rw [if_neg hs]
  have hsz : s.size ≤ 2000 := by omega
  obtain ⟨l, m, ok, e, h⟩ := ref_total s (by omega) 2000000 (by omega)
  rw [e]
  simp only [Option.bind_some]
  have key : ∀ b : Bool, (b = true → ok = true ∧ m > 100000) → garretlaw12_LzUnpacks.j0 2000000 s n l m ok b = some true := by
    intro b hb
    rw [show (2000000 : Nat) = 1999999 + 1 from rfl, garretlaw12_LzUnpacks.j0]
    cases b with
    | true => rw [if_pos rfl, works_true]; rfl
    | false =>
      rw [if_neg (by simp), unpack_lz s (by omega), unpack_ref s (by omega) n _ (by omega), seq_lz s (by omega) _ (by omega), seq_ref s (by omega) _ (by omega)]
      simp only [Option.bind_some]
      rw [if_pos trivial, if_pos trivial, if_pos trivial, if_pos (by simp)]
      have hlen : (seqsOf s).1.length ≤ l.length ∧ (seqsOf s).1.length ≤ 2000 := by
        unfold seqsOf
        cases hp : parseOf s with
        | none => simp
        | some q =>
          rw [hp] at h
          simp only at h
          obtain ⟨_, rfl, _⟩ := h
          have := parseOf_len s q hp
          simp only
          split <;> simp <;> omega
      rw [if_neg (by simp; omega)]
      rw [show (1999999 : Nat) = 1999998 + 1 from rfl, garretlaw12_LzUnpacks.j1, if_neg (by simp)]
      have hall := same_all s l m ok (seqsOf s).1 (by omega) (seqsOf s).1.length 0 (1999998 - (seqsOf s).1.length - 1) (by omega)
      rw [show 1999998 - (seqsOf s).1.length - 1 + (seqsOf s).1.length + 1 = 1999998 from by omega] at hall
      rw [show ((0 : Nat) : Int) = 0 from rfl] at hall
      rw [hall]
      obtain ⟨k, hk⟩ : ∃ k, 1999998 - (seqsOf s).1.length - 1 = k + 1 := ⟨1999998 - (seqsOf s).1.length - 2, by omega⟩
      have hkk : 1900000 ≤ k := by omega
      rw [hk, garretlaw12_LzUnpacks.l0, if_neg (by simp)]
      cases ok with
      | false => rw [if_neg (by simp), garretlaw12_LzUnpacks.j3, if_neg (by simp), works_true]; rfl
      | true =>
        rw [if_pos rfl, garretlaw12_LzUnpacks.j3]
        by_cases hm : m ≤ 100000
        · rw [decide_eq_true hm, if_pos rfl, unpack_lz s (by omega)]
          cases hp : parseOf s with
          | none => rw [hp] at h; simp at h
          | some q =>
            rw [hp] at h
            simp only at h
            obtain ⟨_, rfl, hmm⟩ := h
            have hl := parseOf_len s q hp
            have hu : unpackOf s m = (mk (openL q), 0) := by
              unfold unpackOf
              rw [if_neg (by omega), if_neg (by omega), hp]
              simp only
              rw [if_pos (by omega)]
            rw [hu]
            simp only [Option.bind_some]
            rw [if_pos trivial, open_total q (by omega) (parse_fits _ _ _ _ hp) (by omega) k (by omega)]
            simp only [Option.bind_some]
            rw [if_pos trivial, works_true]
            rfl
        · rw [decide_eq_false hm, if_neg (by simp), works_true]; rfl
  by_cases h1 : ok = true
  · rw [if_pos h1]
    by_cases h2 : m > 100000
    · rw [if_pos h2]; exact key _ (fun _ => ⟨h1, h2⟩)
    · rw [if_neg h2]; exact key _ (fun h => by simp at h)
  · rw [if_neg h1]; exact key _ (fun h => by simp at h)

end Go.Proofs.Ytflkjofafgoapaa.Pure
