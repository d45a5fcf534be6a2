/- lz.Pack, walked by hand: what it writes is the plain packer's sequences. -/
import Derived.Test.YtflkjofafgoapaaHPack2
namespace Go.Proofs.Ytflkjofafgoapaa.Q
open Go.RowKit Go.Proofs.YtflkjofafgoapaaW.PrintWords Go.Proofs.YtflkjofafgoapaaW.PrintLast Go.Proofs.YtflkjofafgoapaaW.PrintMore
open Go.Maps

theorem grown_of_below {w w' : World} (h : Below w.heap.size w w') : w.grownBy w' none := ⟨h.os, h.tape, h.output, h.size, fun k hk _ => h.block k hk⟩

theorem IsW.grown {w w' : World} {base h : Nat} {xs : List Int} {row : Option Nat} (hw : IsW w base h xs) (hg : w.grownBy w' row) (hr : ∀ k, row = some k → ∃ es c, w.heap[k]? = some (.map es c)) : IsW w' base h xs := by
  obtain ⟨v, h1, h2⟩ := hw
  refine ⟨v, blk_grown h1 hg (fun e => ?_), h2.kept hg ?_⟩
  · obtain ⟨es, c, h3⟩ := hr h e.symm
    rw [h1] at h3
    cases h3
  · by_cases e : v.ownBlock = row
    · rcases hv : v.ownBlock with _ | k
      · exact .inl rfl
      · obtain ⟨cells, h4⟩ := own_typed h2 k hv
        obtain ⟨es, c, h3⟩ := hr k (by rw [← e, hv])
        rw [h4] at h3
        cases h3
    · exact .inr e

/-- What holds between two rounds of the packer. -/
structure J (base g B h : Nat) (s : ByteArray) (w w' : World) (q : Nat) (out : List Int) : Prop where
  hp : IsP w' g s B
  hm : w'.ownsMap Try.prog 61 (plainElem Try.prog 3) B q (tabD s q)
  hw : IsW w' base h out
  kb : Below base w w'

section
variable {base g B h : Nat} {s : ByteArray} {w w' w'' : World} {q : Nat} {out out' : List Int}

theorem J.below (j : J base g B h s w w' q out) (hB : Below w'.heap.size w' w'') (hb : base ≤ w'.heap.size) : J base g B h s w w'' q out :=
  ⟨j.hp.below hB, own_after j.hm hB rfl, j.hw.grown (grown_of_below hB) (fun _ e => by cases e), j.kb.trans (hB.mono hb)⟩

theorem J.drewN (j : J base g B h s w w' q out) (n : Nat) : J base g B h s w (w'.drewN n) q out :=
  ⟨j.hp, j.hm, j.hw, pw_below_drewN j.kb n⟩

theorem J.drew (j : J base g B h s w w' q out) : J base g B h s w w'.drew q out :=
  ⟨j.hp, j.hm, j.hw, below_drew1 j.kb⟩

theorem J.seq (j : J base g B h s w w' q out) (hw : IsW w'' base h out') (hk : KW base w' w'') : J base g B h s w w'' q out' := by
  obtain ⟨es, clock, hb, F, hn, hD⟩ := j.hm
  exact ⟨hk.keep _ _ j.hp (fun _ _ e => by cases e) (fun _ _ e => by cases e), ⟨es, clock, hk.keep _ _ hb (fun _ _ e => by cases e) (fun _ _ e => by cases e), F, hn, hD⟩, hw, j.kb.trans hk.below⟩

theorem J.upd (j : J base g B h s w w' q out) (hm : w''.ownsMap Try.prog 61 (plainElem Try.prog 3) B (q + 1) (tabD s (q + 1))) (hg : w'.grownBy w'' (some B)) (hbB : base ≤ B) (hb : base ≤ w'.heap.size) : J base g B h s w w'' (q + 1) out := by
  obtain ⟨es, clock, hb0, F, hn, hD⟩ := j.hm
  refine ⟨blk_grown j.hp hg (fun e => ?_), hm, j.hw.grown hg (fun k e => ?_), j.kb.grown hg hb (fun k e => ?_)⟩
  · have e2 : g = B := by injection e
    subst e2
    have := j.hp
    unfold IsP at this
    rw [hb0] at this
    cases this
  · have e2 : B = k := by injection e
    subst e2
    exact ⟨es, clock, hb0⟩
  · have e2 : B = k := by injection e
    omega

end

/-- The table's update, as the walk takes it. -/
theorem put_four {w : World} {B : Nat} {s : ByteArray} {a : Nat} (h : w.ownsMap Try.prog 61 (plainElem Try.prog 3) B a (tabD s a)) (ha : a ≤ 10000) :
    ∃ w', (Instr.mapUpdate 52 (.map (some B)) (fourV s a) (.int .i64 (a : Int))).run Try.prog w = .ok () w' ∧ w'.ownsMap Try.prog 61 (plainElem Try.prog 3) B (a + 1) (tabD s (a + 1)) ∧ w.grownBy w' (some B) :=
  h.update keyed61 Try.underlying52 (by simp only [maxLen]; omega) (keyOf_fourV s a) (plainElem_int Try.underlying3 (by
    have e1 : IntKind.i64.min = -9223372036854775808 := by decide
    have e2 : IntKind.i64.max = 9223372036854775807 := by decide
    simp only [Lit.wf, e1, e2, Bool.and_eq_true, decide_eq_true_eq]
    omega))

theorem near_dist (s : ByteArray) (a : Nat) : ∀ (k d dist long : Nat), 1 ≤ d → d + k ≤ a + 1 → (0 < long → 0 < dist ∧ dist ≤ a) → 0 < (nearL s a k d dist long).2 → 0 < (nearL s a k d dist long).1 ∧ (nearL s a k d dist long).1 ≤ a
  | 0, d, dist, long, _, _, h, h2 => h h2
  | k + 1, d, dist, long, h1, hk, h, h2 => by
    rw [nearL] at h2 ⊢
    by_cases hc : long < alikeN s (a - d) a (s.size - a) 0
    · rw [if_pos hc] at h2 ⊢
      exact near_dist s a k (d + 1) _ _ (by omega) (by omega) (fun _ => ⟨by omega, by omega⟩) h2
    · rw [if_neg hc] at h2 ⊢
      exact near_dist s a k (d + 1) _ _ (by omega) (by omega) h h2

theorem best_dist (s : ByteArray) (a : Nat) (c : Option Nat) (hc : ∀ f, c = some f → f < a) (h : 0 < (bestN s a c).2) : 0 < (bestN s a c).1 ∧ (bestN s a c).1 ≤ a := by
  have hN : 0 < (nearL s a (min 64 a) 1 0 0).2 → 0 < (nearL s a (min 64 a) 1 0 0).1 ∧ (nearL s a (min 64 a) 1 0 0).1 ≤ a := near_dist s a _ 1 0 0 (by omega) (by omega) (by omega)
  unfold bestN at h ⊢
  cases c with
  | none => exact hN h
  | some f =>
    simp only at h ⊢
    have hf := hc f rfl
    by_cases hcc : a - f ≤ 65535 ∧ (nearL s a (min 64 a) 1 0 0).2 < alikeN s f a (s.size - a) 0
    · rw [if_pos hcc]
      exact ⟨by show 0 < a - f; omega, by show a - f ≤ a; omega⟩
    · rw [if_neg hcc] at h ⊢
      exact hN h

/-- What the packer takes at a place. -/
def takeN (s : ByteArray) (a : Nat) : Nat × Nat := ((bestN s a (lastN s a a)).1, min (bestN s a (lastN s a a)).2 (s.size - 1 - a))

/-- The sequences that the packer writes from a place on. -/
def packS (s : ByteArray) (a kept : Nat) : List (ByteArray × Nat × Nat) :=
  if _h : a + 4 < s.size then
    if _h4 : 4 ≤ (takeN s a).2 then (s.extract kept a, (takeN s a).1, (takeN s a).2) :: packS s (a + (takeN s a).2) (a + (takeN s a).2)
    else packS s (a + 1) kept
  else [(s.extract kept s.size, 0, 0)]
termination_by s.size - a
decreasing_by all_goals omega

def encS (l : List (ByteArray × Nat × Nat)) : List Int := l.flatMap fun x => seqN x.1 x.2.1 x.2.2

theorem packS_take {s : ByteArray} {a kept : Nat} (h : a + 4 < s.size) (h4 : 4 ≤ (takeN s a).2) : packS s a kept = (s.extract kept a, (takeN s a).1, (takeN s a).2) :: packS s (a + (takeN s a).2) (a + (takeN s a).2) := by
  rw [packS, dif_pos h, dif_pos h4]
theorem packS_step {s : ByteArray} {a kept : Nat} (h : a + 4 < s.size) (h4 : ¬ 4 ≤ (takeN s a).2) : packS s a kept = packS s (a + 1) kept := by
  rw [packS, dif_pos h, dif_neg h4]
theorem packS_end {s : ByteArray} {a kept : Nat} (h : ¬ a + 4 < s.size) : packS s a kept = [(s.extract kept s.size, 0, 0)] := by
  rw [packS, dif_neg h]
theorem encS_cons (x : ByteArray × Nat × Nat) (l : List (ByteArray × Nat × Nat)) : encS (x :: l) = seqN x.1 x.2.1 x.2.2 ++ encS l := by simp [encS]

theorem extract_len (s : ByteArray) (i j : Nat) (h : j ≤ s.size) (hi : i ≤ j) : (s.extract i j).size = j - i := by
  rw [ByteArray.size_extract]; omega

theorem seqN_len (lits : ByteArray) (d M : Nat) : (seqN lits d M).length ≤ 5 + 2 * lits.size + 2 * M := by
  have h1 := encN_len lits.size
  have h2 := encN_len (M - 4)
  have h3 : (bytesOf lits).length = lits.size := bytesOf_length lits
  unfold seqN
  by_cases hd : 0 < d
  · rw [if_pos hd]; simp only [List.length_append, List.length_cons, List.length_nil]; omega
  · rw [if_neg hd]; simp only [List.length_append, List.length_cons, List.length_nil]; omega

theorem take_dist (s : ByteArray) (a : Nat) (h : 4 ≤ (takeN s a).2) : 0 < (takeN s a).1 ∧ (takeN s a).1 ≤ a := by
  refine best_dist s a _ (fun f hf => lastN_lt hf) ?_
  have : (takeN s a).2 = min (bestN s a (lastN s a a)).2 (s.size - 1 - a) := rfl
  omega

end Go.Proofs.Ytflkjofafgoapaa.Q
