/- Of the proof about model: several texts, joined. -/
import Derived.Test.YtkicenkljjpcfaaGreatDoorMI
import Derived.Test.YtkicenkljjpcfaaGreatDoorME
set_option linter.unusedVariables false
set_option linter.unusedSimpArgs false
namespace Go.Proofs.YtkicenkljjpcfaaGreatDoor.Q
/-! ### What read makes of events is what the reference says of them -/
theorem findP_inv {l : List Ev} {job : Int} {beg : Bool} {i : Nat} (h : findP l job beg = (i : Int)) : ∃ x, l[i]? = some x ∧ fq job beg x = true ∧ (l.take i).any (fq job beg) = false := by
  unfold findP at h
  cases ha : l.any (fq job beg) with
  | false => rw [ha] at h; simp at h
  | true =>
    rw [ha, if_pos rfl] at h
    have hi : l.findIdx (fq job beg) = i := by omega
    obtain ⟨y, hy, hq⟩ := List.any_eq_true.1 ha
    have hlt := List.findIdx_lt_length.2 ⟨y, hy, hq⟩
    rw [hi] at hlt
    refine ⟨l[i], List.getElem?_eq_getElem hlt, ?_, ?_⟩
    · have := List.findIdx_getElem (w := by rw [hi]; exact hlt) (p := fq job beg) (xs := l)
      simpa [hi] using this
    · rw [List.any_eq_false]
      intro y hy
      obtain ⟨t, ht, rfl⟩ := List.mem_take_iff_getElem.1 hy
      have := List.not_of_lt_findIdx (p := fq job beg) (xs := l) (i := t) (by omega)
      simpa using this
theorem findP_lt {l : List Ev} {job : Int} {beg : Bool} (h : findP l job beg < 0) : l.any (fq job beg) = false := by
  unfold findP at h
  cases ha : l.any (fq job beg) with
  | false => rfl
  | true => rw [ha, if_pos rfl] at h; omega
theorem fp_step {l : List Ev} {k : Nat} {x : Ev} {j : Int} {b : Bool} (hx : l[k]? = some x) : findP (l.take (k + 1)) j b = if (l.take k).any (fq j b) then findP (l.take k) j b else if fq j b x then (k : Int) else -1 := by
  have hk : k < l.length := (List.getElem?_eq_some_iff.1 hx).1
  cases ha : (l.take k).any (fq j b) with
  | true =>
    rw [if_pos rfl]
    rcases findP_range (l.take k) j b with h | ⟨i, y, h, hy⟩
    · unfold findP at h; rw [ha, if_pos rfl] at h; omega
    · obtain ⟨z, hz, hq, h0⟩ := findP_inv h
      rw [h]
      have hi : i < k := by have := (List.getElem?_eq_some_iff.1 hz).1; rw [List.length_take] at this; omega
      have hz2 : l[i]? = some z := by rw [List.getElem?_take_of_lt hi] at hz; exact hz
      refine findP_at (x := z) (by rw [List.getElem?_take_of_lt (by omega)]; exact hz2) hq ?_
      rw [List.take_take, Nat.min_eq_left (by omega)] at h0 ⊢
      exact h0
  | false =>
    rw [if_neg (by simp)]
    cases hq : fq j b x with
    | true =>
      rw [if_pos rfl]
      refine findP_at (x := x) (by rw [List.getElem?_take_of_lt (by omega)]; exact hx) hq ?_
      rw [List.take_take, Nat.min_eq_left (by omega)]
      exact ha
    | false =>
      rw [if_neg (by simp)]
      refine findP_none ?_
      rw [any_take (fq j b) l k x hx, ha, hq]; rfl
/-- Where jobs begin, among the first k events. -/
def begs (l : List Ev) : Nat → List (Nat × Ev)
  | 0 => []
  | k + 1 => begs l k ++ ((l[k]?).map fun x => if x.beg then [(k, x)] else []).getD []
/-- A span, of what the first m events say. -/
def spanM (l : List Ev) (m : Nat) (p : Nat × Ev) : Sp :=
  if findP (l.take m) p.2.job false < 0 then ⟨p.2.c, zeroRe, p.1, (l.length : Int), true⟩ else ⟨p.2.c, ((l[(findP (l.take m) p.2.job false).toNat]?).map (·.r)).getD zeroRe, p.1, findP (l.take m) p.2.job false, false⟩
theorem spanM_all (l : List Ev) (p : Nat × Ev) : spanM l l.length p = spanOf l p.1 p.2 := by unfold spanM spanOf; rw [List.take_length]
theorem spansK_begs (l : List Ev) : ∀ k, spansK l k = (begs l k).map (spanM l l.length)
  | 0 => rfl
  | k + 1 => by
    show spansK l k ++ _ = (begs l k ++ _).map _
    rw [List.map_append, spansK_begs l k]
    congr 1
    cases l[k]? with
    | none => rfl
    | some x => cases hb : x.beg <;> simp [hb, spanM_all]
theorem begs_beg {l : List Ev} {k : Nat} {x : Ev} (hx : l[k]? = some x) (hb : x.beg = true) : begs l (k + 1) = begs l k ++ [(k, x)] := by
  show begs l k ++ _ = _; rw [hx]; simp [hb]
theorem begs_end {l : List Ev} {k : Nat} {x : Ev} (hx : l[k]? = some x) (hb : x.beg = false) : begs l (k + 1) = begs l k := by
  show begs l k ++ _ = _; rw [hx]; simp [hb]
theorem begs_mem {l : List Ev} : ∀ {k : Nat} {p : Nat × Ev}, p ∈ begs l k ↔ p.1 < k ∧ l[p.1]? = some p.2 ∧ p.2.beg = true
  | 0, p => by simp [begs]
  | k + 1, p => by
    show p ∈ begs l k ++ _ ↔ _
    rw [List.mem_append, begs_mem]
    constructor
    · rintro (⟨h1, h2, h3⟩ | h)
      · exact ⟨by omega, h2, h3⟩
      · cases hx : l[k]? with
        | none => rw [hx] at h; simp at h
        | some x =>
          rw [hx] at h
          cases hb : x.beg with
          | false => simp [hb] at h
          | true => simp [hb] at h; rw [h]; exact ⟨by simp, hx, hb⟩
    · rintro ⟨h1, h2, h3⟩
      by_cases h : p.1 < k
      · exact .inl ⟨h, h2, h3⟩
      · have h4 : p.1 = k := by omega
        right
        rw [← h4, h2]
        simp [h3]
theorem fq_iff {job : Int} {beg : Bool} {x : Ev} : fq job beg x = true ↔ x.job = job ∧ x.beg = beg := by unfold fq; simp
/-- The jobs that began among the first k. -/
def jobs (l : List Ev) (k : Nat) : List Int := (begs l k).map (·.2.job)
theorem jobs_any {l : List Ev} {k : Nat} (hk : k ≤ l.length) (j : Int) : (jobs l k).contains j = (l.take k).any (fq j true) := by
  rw [Bool.eq_iff_iff, List.contains_iff_mem, List.any_eq_true]
  unfold jobs
  rw [List.mem_map]
  constructor
  · rintro ⟨p, hp, rfl⟩
    obtain ⟨h1, h2, h3⟩ := begs_mem.1 hp
    exact ⟨p.2, List.mem_of_getElem? (by rw [List.getElem?_take_of_lt h1]; exact h2), fq_iff.2 ⟨rfl, h3⟩⟩
  · rintro ⟨x, hx, hq⟩
    obtain ⟨t, ht, rfl⟩ := List.mem_take_iff_getElem.1 hx
    obtain ⟨h1, h2⟩ := fq_iff.1 hq
    exact ⟨(t, l[t]), begs_mem.2 ⟨by omega, List.getElem?_eq_getElem (by omega), h2⟩, h1⟩
def okTo (l : List Ev) (k : Nat) : Prop := ∀ t, t < k → evs l t = true
theorem ok_find {l : List Ev} {k t : Nat} {x : Ev} (h : okTo l k) (ht : t < k) (hx : l[t]? = some x) : findP l x.job x.beg = (t : Int) := by
  have h1 := h t ht
  rw [evs_at hx] at h1
  have h2 : evB l t x = true := by revert h1; cases evB l t x <;> simp
  unfold evB at h2
  revert h2
  cases decide (x.job < 1) <;> cases decide (x.c.kind < 1) <;> cases decide (11 < x.c.kind) <;> simp [bne]
theorem ok_begin {l : List Ev} {k t : Nat} {x : Ev} (h : okTo l k) (ht : t < k) (hx : l[t]? = some x) (hb : x.beg = false) : 0 ≤ findP l x.job true ∧ findP l x.job true ≤ (t : Int) := by
  have h1 := h t ht
  rw [evs_at hx] at h1
  have h2 : evE l t x = true := by revert h1; cases evB l t x <;> simp
  unfold evE at h2
  rw [hb, Bool.false_or] at h2
  revert h2
  by_cases c1 : findP l x.job true < 0
  · simp [c1]
  · by_cases c2 : (t : Int) < findP l x.job true
    · simp [c2]
    · intro _; omega
theorem begs_pos {l : List Ev} : ∀ (k : Nat), ((begs l k).map (·.1)).Pairwise (· < ·)
  | 0 => List.Pairwise.nil
  | k + 1 => by
    show ((begs l k ++ _).map _).Pairwise _
    rw [List.map_append, List.pairwise_append]
    refine ⟨begs_pos k, ?_, ?_⟩
    · cases l[k]? with
      | none => exact List.Pairwise.nil
      | some x => cases hb : x.beg <;> simp [hb]
    · intro a ha b hb
      obtain ⟨p, hp, rfl⟩ := List.mem_map.1 ha
      have h1 := (begs_mem.1 hp).1
      cases hx : l[k]? with
      | none => rw [hx] at hb; simp at hb
      | some x =>
        rw [hx] at hb
        cases hbb : x.beg with
        | false => simp [hbb] at hb
        | true => simp [hbb] at hb; omega
/-- Each job begins once. -/
theorem jobs_once {l : List Ev} {k : Nat} (h : okTo l k) {p q : Nat × Ev} (hp : p ∈ begs l k) (hq : q ∈ begs l k) (he : p.2.job = q.2.job) : p = q := by
  obtain ⟨p1, p2, p3⟩ := begs_mem.1 hp
  obtain ⟨q1, q2, q3⟩ := begs_mem.1 hq
  have e1 := ok_find h p1 p2
  have e2 := ok_find h q1 q2
  rw [p3] at e1
  rw [q3, ← he] at e2
  have e3 : p.1 = q.1 := by omega
  have e4 : p.2 = q.2 := by rw [e3, q2] at p2; exact (Option.some.inj p2).symm
  exact Prod.ext e3 e4
theorem evs_split {l : List Ev} {k : Nat} {x : Ev} (hx : l[k]? = some x) (hb : badE x = false) : evs l k = ((findP l x.job x.beg == (k : Int)) && evE l k x) := by
  rw [evs_at hx]
  unfold evB
  have : (decide (x.job < 1) || decide (x.c.kind < 1) || decide (11 < x.c.kind)) = false := hb
  rw [this]
  simp [bne]
theorem evs_bad {l : List Ev} {k : Nat} {x : Ev} (hx : l[k]? = some x) (hb : badE x = true) : evs l k = false := by
  rw [evs_at hx]
  unfold evB
  have : (decide (x.job < 1) || decide (x.c.kind < 1) || decide (11 < x.c.kind)) = true := hb
  rw [this]
  simp
theorem find_here {l : List Ev} {k : Nat} {x : Ev} (hx : l[k]? = some x) : (findP l x.job x.beg == (k : Int)) = !((l.take k).any (fq x.job x.beg)) := by
  cases ha : (l.take k).any (fq x.job x.beg) with
  | false =>
    rw [findP_at hx (fq_iff.2 ⟨rfl, rfl⟩) ha]; simp
  | true =>
    rw [Bool.not_true, beq_eq_false_iff_ne]
    intro h
    obtain ⟨_, _, _, h0⟩ := findP_inv h
    rw [ha] at h0; cases h0
theorem spanM_other {l : List Ev} {k : Nat} {x : Ev} (hx : l[k]? = some x) {p : Nat × Ev} (h : fq p.2.job false x = false) : spanM l (k + 1) p = spanM l k p := by
  have : findP (l.take (k + 1)) p.2.job false = findP (l.take k) p.2.job false := by
    rw [fp_step hx, h]
    cases ha : (l.take k).any (fq p.2.job false) with
    | true => rw [if_pos rfl]
    | false => rw [if_neg (by simp), if_neg (by simp), findP_none ha]
  unfold spanM; rw [this]
theorem find_take {l : List Ev} {k : Nat} {j : Int} {b : Bool} : decide (findP (l.take k) j b < 0) = !((l.take k).any (fq j b)) := by
  cases ha : (l.take k).any (fq j b) with
  | false => rw [findP_none ha]; rfl
  | true =>
    rw [Bool.not_true, decide_eq_false_iff_not]
    intro h
    rw [findP_lt h] at ha; cases ha
theorem step_beg {l : List Ev} {k : Nat} {x : Ev} (h : okTo l k) (hx : l[k]? = some x) (hb : badE x = false) (hg : x.beg = true) :
    readStep (l.length : Int) ((begs l k).map (spanM l k), jobs l k) (k : Int) x = if evs l k then some ((begs l (k + 1)).map (spanM l (k + 1)), jobs l (k + 1)) else none := by
  have hk : k < l.length := (List.getElem?_eq_some_iff.1 hx).1
  have he : evs l k = !((jobs l k).contains x.job) := by
    rw [evs_split hx hb, find_here hx, jobs_any (by omega), hg]
    unfold evE; rw [hg, Bool.true_or, Bool.and_true]
  unfold readStep
  rw [hb, if_neg (by simp), hg, if_pos rfl, he]
  cases hc : (jobs l k).contains x.job with
  | true => simp
  | false =>
    rw [if_neg (by simp), if_pos (by simp)]
    have ha : (l.take k).any (fq x.job true) = false := by rw [← jobs_any (by omega)]; exact hc
    have hf : findP l x.job true = (k : Int) := findP_at hx (fq_iff.2 ⟨rfl, hg⟩) ha
    have hn : (l.take k).any (fq x.job false) = false := by
      cases hq : (l.take k).any (fq x.job false) with
      | false => rfl
      | true =>
        obtain ⟨y, hy, hy2⟩ := List.any_eq_true.1 hq
        obtain ⟨t, ht, rfl⟩ := List.mem_take_iff_getElem.1 hy
        obtain ⟨h1, h2⟩ := fq_iff.1 hy2
        have := ok_begin h (show t < k by omega) (List.getElem?_eq_getElem (by omega)) h2
        rw [h1, hf] at this
        omega
    have e1 : (begs l (k + 1)).map (spanM l (k + 1)) = (begs l k).map (spanM l k) ++ [⟨x.c, zeroRe, (k : Int), (l.length : Int), true⟩] := by
      rw [begs_beg hx hg, List.map_append]
      congr 1
      · apply List.map_congr_left
        intro p _
        refine spanM_other hx ?_
        cases hq : fq p.2.job false x with
        | false => rfl
        | true => have := (fq_iff.1 hq).2; rw [hg] at this; cases this
      · have hlt : findP (l.take (k + 1)) x.job false < 0 := by
          rw [fp_step hx, hn, if_neg (by simp)]
          have : fq x.job false x = false := by unfold fq; rw [hg]; simp
          rw [this]; simp
        show [spanM l (k + 1) (k, x)] = _
        unfold spanM
        rw [if_pos hlt]
    have e2 : jobs l (k + 1) = jobs l k ++ [x.job] := by unfold jobs; rw [begs_beg hx hg, List.map_append]; rfl
    rw [e1, e2]
theorem step_end {l : List Ev} {k : Nat} {x : Ev} (h : okTo l k) (hx : l[k]? = some x) (hb : badE x = false) (hg : x.beg = false) :
    readStep (l.length : Int) ((begs l k).map (spanM l k), jobs l k) (k : Int) x = if evs l k then some ((begs l (k + 1)).map (spanM l (k + 1)), jobs l (k + 1)) else none := by
  have hk : k < l.length := (List.getElem?_eq_some_iff.1 hx).1
  unfold readStep
  rw [hb, if_neg (by simp), hg, if_neg (by simp)]
  cases hc : (jobs l k).contains x.job with
  | false =>
    rw [if_neg (by simp), if_neg]
    intro he
    rw [evs_split hx hb] at he
    have h2 : evE l k x = true := by revert he; cases evE l k x <;> simp
    unfold evE at h2
    rw [hg, Bool.false_or] at h2
    have ha : (l.take k).any (fq x.job true) = false := by rw [← jobs_any (by omega)]; exact hc
    have h3 : 0 ≤ findP l x.job true ∧ findP l x.job true ≤ (k : Int) := by
      revert h2
      by_cases c1 : findP l x.job true < 0
      · simp [c1]
      · by_cases c2 : (k : Int) < findP l x.job true
        · simp [c2]
        · intro _; omega
    obtain ⟨y, hy, hq, h0⟩ := findP_inv (i := (findP l x.job true).toNat) (l := l) (job := x.job) (beg := true) (by omega)
    obtain ⟨q1, q2⟩ := fq_iff.1 hq
    by_cases hlt : (findP l x.job true).toNat < k
    · rw [List.any_eq_false] at ha
      have := ha y (List.mem_of_getElem? (by rw [List.getElem?_take_of_lt hlt]; exact hy))
      rw [hq] at this; exact this rfl
    · have : (findP l x.job true).toNat = k := by omega
      rw [this, hx] at hy
      have := Option.some.inj hy
      rw [← this, hg] at q2; cases q2
  | true =>
    rw [if_pos rfl]
    obtain ⟨p, hpj⟩ : ∃ p, p = (jobs l k).idxOf x.job := ⟨_, rfl⟩
    have hpl : p < (jobs l k).length := by rw [hpj]; exact List.idxOf_lt_length_iff.2 (by simpa using hc)
    have hpl2 : p < (begs l k).length := by unfold jobs at hpl; rwa [List.length_map] at hpl
    obtain ⟨pr, hpr⟩ : ∃ pr, (begs l k)[p]? = some pr := ⟨_, List.getElem?_eq_getElem hpl2⟩
    have hprm : pr ∈ begs l k := List.mem_of_getElem? hpr
    obtain ⟨m1, m2, m3⟩ := begs_mem.1 hprm
    have hjob : pr.2.job = x.job := by
      have h1 : (jobs l k)[p]? = some pr.2.job := by unfold jobs; rw [List.getElem?_map, hpr]; rfl
      have h2 := List.getElem_idxOf (x := x.job) (xs := jobs l k) (by rw [← hpj]; exact hpl)
      have h3 := (List.getElem?_eq_some_iff.1 h1).2
      rw [← h3]
      simpa [← hpj] using h2
    have hfb : findP l x.job true = (pr.1 : Int) := by have := ok_find h m1 m2; rwa [m3, hjob] at this
    have hss : ((begs l k).map (spanM l k))[p]? = some (spanM l k pr) := by rw [List.getElem?_map, hpr]; rfl
    have hop : (spanM l k pr).op = !((l.take k).any (fq x.job false)) := by
      rw [← find_take, ← hjob]
      unfold spanM
      by_cases c : findP (l.take k) pr.2.job false < 0
      · rw [if_pos c, decide_eq_true c]
      · rw [if_neg c, decide_eq_false c]
    have hcc : (spanM l k pr).c = pr.2.c := by unfold spanM; split <;> rfl
    have hbb : (spanM l k pr).b = (pr.1 : Int) := by unfold spanM; split <;> rfl
    have hka : kindAt l (pr.1 : Int) = pr.2.c.kind := by unfold kindAt; rw [Int.toNat_natCast, m2]; rfl
    have he : evs l k = ((spanM l k pr).op && !(pr.2.c.kind != x.c.kind)) := by
      rw [evs_split hx hb, find_here hx, hg, hop]
      congr 1
      unfold evE
      rw [hg, Bool.false_or, hfb, hka]
      have d1 : decide ((pr.1 : Int) < 0) = false := decide_eq_false (by omega)
      have d2 : decide ((k : Int) < (pr.1 : Int)) = false := decide_eq_false (by omega)
      rw [d1, d2]; rfl
    show Option.map _ (endsAt _ ((jobs l k).idxOf x.job) _ _) = _
    rw [← hpj]
    unfold endsAt
    rw [hss]
    dsimp only
    rw [he, hcc, hbb]
    cases ho : (spanM l k pr).op with
    | false => simp
    | true =>
      cases hkk : (pr.2.c.kind != x.c.kind) with
      | true => simp
      | false =>
        rw [if_neg (by simp), if_pos (by simp)]
        have ha : (l.take k).any (fq x.job false) = false := by rw [ho] at hop; revert hop; cases (l.take k).any (fq x.job false) <;> simp
        have e2 : jobs l (k + 1) = jobs l k := by unfold jobs; rw [begs_end hx hg]
        rw [e2, begs_end hx hg, Option.map_some]
        congr 2
        apply List.ext_getElem?
        intro q
        by_cases hqp : q = p
        · subst hqp
          rw [List.getElem?_set_self (by rw [List.length_map]; exact hpl2), List.getElem?_map, hpr]
          have hf : findP (l.take (k + 1)) pr.2.job false = (k : Int) := by
            rw [fp_step hx, hjob, ha, if_neg (by simp), if_pos (fq_iff.2 ⟨rfl, hg⟩)]
          show some _ = some (spanM l (k + 1) pr)
          unfold spanM
          rw [hf, if_neg (by omega), Int.toNat_natCast, hx]; rfl
        · rw [List.getElem?_set_ne (fun e => hqp e.symm), List.getElem?_map, List.getElem?_map]
          cases hy : (begs l k)[q]? with
          | none => rfl
          | some y =>
            have hym : y ∈ begs l k := List.mem_of_getElem? hy
            show some _ = some _
            congr 1
            refine (spanM_other hx ?_).symm
            cases hfq : fq y.2.job false x with
            | false => rfl
            | true =>
              exfalso
              have hj2 := (fq_iff.1 hfq).1
              have hyp : y = pr := jobs_once h hym hprm (by rw [hjob, hj2])
              have hpw := begs_pos (l := l) k
              rw [List.pairwise_iff_getElem] at hpw
              have hql : q < (begs l k).length := (List.getElem?_eq_some_iff.1 hy).1
              have g1 := (List.getElem?_eq_some_iff.1 hy).2
              have g2 := (List.getElem?_eq_some_iff.1 hpr).2
              rcases Nat.lt_or_gt_of_ne hqp with hl2 | hl2
              · have := hpw q p (by rw [List.length_map]; exact hql) (by rw [List.length_map]; exact hpl2) hl2
                rw [List.getElem_map, List.getElem_map, g1, g2, hyp] at this
                omega
              · have := hpw p q (by rw [List.length_map]; exact hpl2) (by rw [List.length_map]; exact hql) hl2
                rw [List.getElem_map, List.getElem_map, g1, g2, hyp] at this
                omega
theorem step_all {l : List Ev} {k : Nat} {x : Ev} (h : okTo l k) (hx : l[k]? = some x) :
    readStep (l.length : Int) ((begs l k).map (spanM l k), jobs l k) (k : Int) x = if evs l k then some ((begs l (k + 1)).map (spanM l (k + 1)), jobs l (k + 1)) else none := by
  cases hb : badE x with
  | true =>
    rw [evs_bad hx hb]
    unfold readStep; rw [hb]; simp
  | false =>
    cases hg : x.beg with
    | true => exact step_beg h hx hb hg
    | false => exact step_end h hx hb hg
theorem readK_ok {l : List Ev} : ∀ k, k ≤ l.length → okTo l k → readK l k = some ((begs l k).map (spanM l k), jobs l k)
  | 0, _, _ => rfl
  | k + 1, hk, h => by
    have hx : l[k]? = some l[k] := List.getElem?_eq_getElem (by omega)
    have h0 : okTo l k := fun t ht => h t (by omega)
    rw [readK_at (readK_ok k (by omega) h0) hx, step_all h0 hx, h k (by omega), if_pos rfl]
/-- What read makes of events: the spans of the reference, if the check is passed; else nothing. -/
theorem readP_eq (l : List Ev) : readP l = if checkP l then some (spansP l) else none := by
  cases hc : checkP l with
  | true =>
    have h : okTo l l.length := fun t ht => by
      unfold checkP at hc
      exact (List.all_eq_true.1 hc) t (List.mem_range.2 ht)
    rw [if_pos rfl]
    unfold readP
    rw [readK_ok l.length (Nat.le_refl _) h]
    show some _ = some _
    congr 1
    exact (spansK_begs l l.length).symm
  | false =>
    rw [if_neg (by simp)]
    unfold checkP at hc
    obtain ⟨t0, ht0, hf0⟩ := List.all_eq_false.1 hc
    have hex : ∃ t, t < l.length ∧ evs l t = false := ⟨t0, List.mem_range.1 ht0, by simpa using hf0⟩
    have key : ∀ n t, t ≤ n → t < l.length → evs l t = false → readP l = none := by
      intro n
      induction n with
      | zero =>
        intro t htn htl hf
        obtain rfl : t = 0 := by omega
        refine readP_no (k := 1) (by omega) ?_
        have hx : l[0]? = some l[0] := List.getElem?_eq_getElem htl
        have h0 : okTo l 0 := fun t ht => absurd ht (Nat.not_lt_zero _)
        rw [readK_at (readK_ok 0 (Nat.zero_le _) h0) hx, step_all h0 hx, hf]; simp
      | succ n ih =>
        intro t htn htl hf
        by_cases hall : okTo l t
        · refine readP_no (k := t + 1) (by omega) ?_
          have hx : l[t]? = some l[t] := List.getElem?_eq_getElem htl
          rw [readK_at (readK_ok t (by omega) hall) hx, step_all hall hx, hf]; simp
        · have : ∃ s, s < t ∧ evs l s = false := by
            apply Classical.byContradiction
            intro hn
            apply hall
            intro s hs
            cases hv : evs l s with
            | true => rfl
            | false => exact absurd ⟨s, hs, hv⟩ hn
          obtain ⟨s, hs, hv⟩ := this
          exact ih s (by omega) (by omega) hv
    obtain ⟨t, h1, h2⟩ := hex
    exact key t t (Nat.le_refl _) h1 h2
end Go.Proofs.YtkicenkljjpcfaaGreatDoor.Q
/- Check, Judge and Sure of the program, walked. -/
set_option linter.unusedSimpArgs false
namespace Go.Proofs.YtkicenkljjpcfaaGreatDoor.Q
open Go.RowKit Go.Maps Go.Shelf Go.Proofs.YtkicenkljjpcfaaGreatDoorW.PrintWords Go.Proofs.YtkicenkljjpcfaaGreatDoorW.PrintLast Go.Proofs.YtkicenkljjpcfaaGreatDoorW.PrintMore
theorem SetAt.blk {w : World} {b n : Nat} {p : List UInt8 → Bool} (h : SetAt w b n p) : ∃ es c, w.heap[b]? = some (.map es c) := by
  obtain ⟨D, h1, _⟩ := h
  obtain ⟨es, clock, hb, _⟩ := h1
  exact ⟨es, clock, hb⟩
theorem set_ne_cells {w : World} {b n g t : Nat} {p : List UInt8 → Bool} {cs : Array Value} (h : SetAt w b n p) (hg : w.heap[g]? = some (.cells cs t (0, 0))) : g ≠ b := by
  rintro rfl
  obtain ⟨es, c, hb⟩ := h.blk
  rw [hg] at hb
  injection hb with hb
  cases hb
theorem cell_turned {w w1 : World} {b n : Nat} {p : List UInt8 → Bool} (h : SetAt w b n p) (hg : w.grownBy w1 (some b)) {a : Addr} {v : Value} (hc : w.cell? a = some v) : w1.cell? a = some v := by
  have hlt := World.block_lt_of_cell? w a hc
  have hne : a.block ≠ b := by
    intro e
    obtain ⟨es, c, hb⟩ := h.blk
    unfold World.cell? at hc
    rw [e, hb] at hc
    cases hc
  rw [← hc]
  unfold World.cell?
  rw [hg.block a.block hlt (fun e => hne (by injection e))]
theorem C_turned {α : Type} {kd : Kd α} (hk : ∀ (w w' : World) x cs, kd.K w x cs → kd.K w' x cs) {w w1 : World} {b n m : Nat} {p : List UInt8 → Bool} {A : Option Addr} {xs : List α} (h : SetAt w b n p) (hg : w.grownBy w1 (some b)) (hc : Kd.C kd w A m xs) : Kd.C kd w1 A m xs := by
  obtain ⟨h1, h2, h3⟩ := hc
  refine ⟨h1, h2, fun hp => ?_⟩
  obtain ⟨ad, e, hx⟩ := h3 hp
  refine ⟨ad, e, fun j q hj => ?_⟩
  obtain ⟨cs, c1, c2, c3⟩ := hx j q hj
  exact ⟨cs, c1, hk _ _ _ _ c2, fun i u hu => cell_turned h hg (c3 i u hu)⟩
theorem CS.turned {w w1 : World} {b n : Nat} {p : List UInt8 → Bool} {A : Option Addr} {l : List Sp} (hc : CS w A l) (h : SetAt w b n p) (hg : w.grownBy w1 (some b)) : CS w1 A l := by
  refine ⟨C_turned (fun _ _ _ _ h => h) h hg hc.1, fun s hs => ?_⟩
  obtain ⟨⟨a1, a2⟩, ⟨b1, b2⟩⟩ := hc.2 s hs
  have k9 : ∀ (w w' : World) x cs, Kd.string.K w x cs → Kd.string.K w' x cs := fun _ _ _ _ h => h
  have k1 : ∀ (w w' : World) x cs, k101.K w x cs → k101.K w' x cs := fun w w' x cs h => by rw [k101_open h]; exact k101_mk w' x
  exact ⟨⟨⟨a1.1, a1.2.1, C_turned k9 h hg a1.2.2⟩, ⟨a2.1, a2.2.1, C_turned k1 h hg a2.2.2⟩⟩, ⟨⟨b1.1, b1.2.1, C_turned k9 h hg b1.2.2⟩, ⟨b2.1, b2.2.1, C_turned k1 h hg b2.2.2⟩⟩⟩
theorem read_yes (A : Option Addr) (c : Nat) (l : List Ev) (w : World) (h : Kd.C kE w A l.length l) (hl : l.length ≤ 1000) (hj : ∀ x ∈ l, -9223372036854775808 ≤ x.job ∧ x.job ≤ 9223372036854775807) (hr : ∀ x ∈ l, RdE w x) (hc : checkP l = true) :
    Calls Tryz.prog 15 #[.slice A l.length c] w fun e w' => ∃ B d, e = .returned (.tuple #[.agg #[.slice B (spansP l).length d, .int .i64 (l.length : Int)], .bool true]) ∧ CS w' B (spansP l) ∧ Below w.heap.size w w' := by
  refine (read_calls A c l w h hl hj).mono ?_
  rintro e w' ⟨v, n, b, rfl, hB, hok⟩
  unfold ReadOk at hok
  rw [readP_eq, hc, if_pos rfl] at hok
  obtain ⟨rfl, rfl, hR⟩ := hok
  obtain ⟨B, d, rfl, _, hC⟩ := Kd.R_reads hR
  exact ⟨B, d, rfl, ⟨hC, fun s hs => (spans_rd hr s hs).below hB⟩, hB⟩
theorem read_no (A : Option Addr) (c : Nat) (l : List Ev) (w : World) (h : Kd.C kE w A l.length l) (hl : l.length ≤ 1000) (hj : ∀ x ∈ l, -9223372036854775808 ≤ x.job ∧ x.job ≤ 9223372036854775807) (hc : checkP l = false) :
    Calls Tryz.prog 15 #[.slice A l.length c] w fun e w' => e = .returned (.tuple #[.agg #[.slice none 0 0, .int .i64 0], .bool false]) ∧ Below w.heap.size w w' := by
  refine (read_calls A c l w h hl hj).mono ?_
  rintro e w' ⟨v, n, b, rfl, hB, hok⟩
  unfold ReadOk at hok
  rw [readP_eq, hc, if_neg (by simp)] at hok
  obtain ⟨rfl, rfl, rfl⟩ := hok
  exact ⟨rfl, hB⟩
set_option maxHeartbeats 8000000 in
set_option maxRecDepth 100000 in
theorem pcheck_calls (A : Option Addr) (c : Nat) (l : List Ev) (w : World) (h : Kd.C kE w A l.length l) (hl : l.length ≤ 1000) (hj : ∀ x ∈ l, -9223372036854775808 ≤ x.job ∧ x.job ≤ 9223372036854775807) (hr : ∀ x ∈ l, RdE w x) :
    Calls Tryz.prog 10 #[.slice A l.length c] w fun e w' => e = .returned (.int .i64 (ckC (checkP l))) ∧ Below w.heap.size w w' := by
  have HY := Aside0.mk (read_yes A c l w h hl hj hr)
  have HNR := Aside0.mk (read_no A c l w h hl hj)
  clear h hj hr
  cases hck : checkP l with
  | false =>
    go_enter Tryz.func10, Tryz.ntmps10
    go_wp2_with (fail)
    refine (HNR.out hck).mono ?_
    rintro e1 w1 ⟨rfl, hB⟩
    have HB1 := Aside0.mk hB
    clear hB HNR HY hck
    go_wp2_with (fail)
    go_ret
    exact ⟨rfl, below_alloc HB1.out _⟩
  | true =>
    go_enter Tryz.func10, Tryz.ntmps10
    go_wp2_with (fail)
    refine (HY.out hck).mono ?_
    rintro e1 w1 ⟨B, d, rfl, _, hB⟩
    have HB1 := Aside0.mk hB
    clear hB HNR HY hck
    go_wp2_with (fail)
    go_ret
    exact ⟨rfl, below_alloc HB1.out _⟩
set_option maxHeartbeats 8000000 in
set_option maxRecDepth 100000 in
theorem pjudge_calls (A : Option Addr) (c : Nat) (l : List Ev) (w : World) (h : Kd.C kE w A l.length l) (hl : l.length ≤ 1000) (hj : ∀ x ∈ l, -9223372036854775808 ≤ x.job ∧ x.job ≤ 9223372036854775807) (hr : ∀ x ∈ l, RdE w x) (hn : ∀ x ∈ l, LenE x) :
    Calls Tryz.prog 5 #[.slice A l.length c] w fun e' w' => e' = .returned (.tuple #[.int .i64 (judgeP l), .int .i64 (ckC (checkP l))]) ∧ Below w.heap.size w w' := by
  have HY := Aside0.mk (read_yes A c l w h hl hj hr)
  have HNR := Aside0.mk (read_no A c l w h hl hj)
  have HL := Aside0.mk (spans_len hn)
  clear h hj hr hn
  cases hck : checkP l with
  | false =>
    have HJ : Aside0 (judgeP l = 0) := ⟨by unfold judgeP; rw [hck]; rfl⟩
    go_enter Tryz.func5, Tryz.ntmps5
    go_wp2_with (fail)
    refine (HNR.out hck).mono ?_
    rintro e1 w1 ⟨rfl, hB⟩
    have HB1 := Aside0.mk hB
    clear hB HNR HY hck
    go_wp2_with (fail)
    go_ret2
    exact ⟨by rw [HJ.out]; rfl, below_alloc HB1.out _⟩
  | true =>
    have HJ : Aside0 (judgeP l = badK (spansP l) (spansP l).length) := ⟨by unfold judgeP; rw [hck]; rfl⟩
    go_enter Tryz.func5, Tryz.ntmps5
    go_wp2_with (fail)
    refine (HY.out hck).mono ?_
    rintro e1 w1 ⟨B, d, rfl, hCS, hB⟩
    have HCK := Aside0.mk hck
    have HB1 : Aside0 (Below w.heap.size w (w1.alloc (.cells #[.slice B (spansP l).length d, .int .i64 (l.length : Int)] 47))) := ⟨below_alloc hB _⟩
    have HCS : Aside0 (CS (w1.alloc (.cells #[.slice B (spansP l).length d, .int .i64 (l.length : Int)] 47)) B (spansP l)) := ⟨hCS.below (below_alloc (Below.refl _ _) _)⟩
    have HH : Aside0 (HistAt (w1.alloc (.cells #[.slice B (spansP l).length d, .int .i64 (l.length : Int)] 47)) w1.heap.size B d (spansP l) (l.length : Int)) := ⟨blk_new rfl⟩
    have hsl : (spansP l).length ≤ 1000 := Nat.le_trans (spansK_len l _) hl
    clear hB hCS HNR HY hck
    go_upto_region 2 with (fail)
    generalize (w1.alloc (.cells #[.slice B (spansP l).length d, .int .i64 (l.length : Int)] 47)) = W0 at HB1 HCS HH ⊢
    generalize w1.heap.size = gh at HH ⊢
    have z0 : W0.cell? ⟨gh, 0, none⟩ = some (.slice B (spansP l).length d) := (blk_cell HH.out 0).trans rfl
    go_wp2_with (fail)
    go_loopw [2, 18] (fun v2 v18 wr => ∃ k : Nat, k ≤ (spansP l).length ∧ v2 = .int .i64 (badK (spansP l) k) ∧ v18 = .int .i64 k ∧ Aside0 (Below W0.heap.size W0 wr)) (fun _ v18 _ => (spansP l).length - (intOf v18).toNat)
    case atStart => exact ⟨0, Nat.zero_le _, rfl, rfl, ⟨Below.refl _ _⟩⟩
    case round =>
      clear z0
      obtain ⟨k, hk, rfl, rfl, HW⟩ := hrel
      obtain ⟨bd, hbd⟩ : ∃ bd, bd = badK (spansP l) k := ⟨_, rfl⟩
      rw [← hbd]
      have HBD := Aside0.mk hbd.symm
      clear hbd
      by_cases hlt : k < (spansP l).length
      · obtain ⟨m, hm⟩ : ∃ r, (spansP l)[k]? = some r := ⟨_, List.getElem?_eq_getElem hlt⟩
        have hrm : m ∈ (spansP l) := List.mem_of_getElem? hm
        obtain ⟨ad, rfl, hcell⟩ := cellsS (HCS.out.below HW.out).1 k hlt m hm
        have HCE := Aside0.mk hcell
        have HRD := Aside0.mk (((HCS.out.below HW.out).2 m hrm))
        have HLN := Aside0.mk (HL.out m hrm)
        have HM := Aside0.mk hm
        clear hm hrm hcell
        have hml : k < maxLen := by unfold maxLen; omega
        go_upto_region 7 with (first | ((with_reducible refine gate_dst (N := 21) rfl ?_); refine wpList_load_any (by rfl) 51 (.tmp 20) rfl (ad.add (k * 20)) rfl (encS m) _ (HCE.out) Tryz.underlying51 rfl s51 ?_) | ((with_reducible refine gate_dst (N := 7) rfl ?_); refine box_event ?hg (N := 7) ?hd (cs := #[.int .i64 0, .slice none 0 0, .int .i64 0, .string ⟨#[]⟩, .string ⟨#[]⟩, .slice none 0 0, .string ⟨#[]⟩, .slice none 0 0, .int .i64 0, .bool false, .int .i64 0, .string ⟨#[]⟩, .int .i64 0, .slice none 0 0, .slice none 0 0, .slice none 0 0, .slice none 0 0, .int .i64 0, .int .i64 0, .bool false]) (t := 51) ?hr ?_; (case hd => rfl); (case hg => rfl); (case hr => first | (go_simp; done) | (go_simp; rfl)); intro gx hg wx hbox hb; have HZ := Aside0.mk hbox; have HGX := Aside0.mk hg; have HBX := Aside0.mk hb; clear hg hbox hb) | (refine wpList_store_new rfl 51 (.tmp 7) (.tmp 21) rfl gx _ (encS m) 51 rfl rfl HZ.out rfl s51 (encS_one m) ?_; intro wy hy1 hy2; have HX := Aside0.mk hy1; have HBY : Aside0 (Below wr.heap.size wr wy) := ⟨below_grown HBX.out hy2 HBX.out.size (fun k hk => by injection hk with hk; rw [← hk, HGX.out]; exact Nat.le_refl _)⟩; clear hy1 hy2 HZ HBX HGX))
        have HH2 : Aside0 (HistAt wy gh (some ad) d (spansP l) (l.length : Int)) := ⟨blk_below HH.out (below_step HW.out HBY.out)⟩
        have z0 : wy.cell? ⟨gh, 0, none⟩ = some (.slice (some ad) (spansP l).length d) := (blk_cell HH2.out 0).trans rfl
        have z1 : wy.cell? ⟨gh, 1, none⟩ = some (.int .i64 (l.length : Int)) := (blk_cell HH2.out 1).trans rfl
        go_wp2_with (((with_reducible refine gate_dst (N := 23) rfl ?_); refine wpList_load_any (by rfl) 51 (.tmp 7) rfl ⟨gx, 0, none⟩ rfl (encS m) _ (cells_blk HX.out) Tryz.underlying51 rfl s51 ?_))
        refine (pright_calls (some ad) d (l.length : Int) (spansP l) m _ (HCS.out.below (below_step HW.out HBY.out)) (by omega) HL.out (HRD.out.below HBY.out) HLN.out).mono ?_
        rintro e3 w3 ⟨rfl, hB⟩
        have HWZ := Aside0.mk (below_step (below_step HW.out HBY.out) hB)
        have y18 : w3.cell? ⟨gx, 18, none⟩ = some (.int .i64 m.e) := (blk_cell (blk_below HX.out hB) 18).trans rfl
        clear hB HW HCE HRD HLN HBY HX HH2 z0 z1
        cases h5 : wrongP (spansP l) m with
        | false =>
          have HN : Aside0 (badK (spansP l) (k + 1) = bd) := ⟨by rw [badK_succ HM.out, HBD.out]; unfold badStep; rw [h5]; rfl⟩
          go_wp2_with (fail)
          go_roundw
          case rel => exact ⟨k + 1, hlt, by rw [HN.out], by go_simp, HWZ⟩
          case measure => simp [intOf]; omega
        | true =>
          by_cases h6 : bd = 0
          · have e6 : (bd == 0) = true := beq_iff_eq.2 h6
            clear h6
            have HN : Aside0 (badK (spansP l) (k + 1) = wrap64 (m.e + 1)) := ⟨by rw [badK_succ HM.out, HBD.out]; unfold badStep; rw [h5, e6]; rfl⟩
            go_wp2_with (fail)
            go_roundw
            case rel => exact ⟨k + 1, hlt, by rw [HN.out]; try rfl, by go_simp, HWZ⟩
            case measure => simp [intOf]; omega
          · have e6 : (bd == 0) = false := beq_eq_false_iff_ne.2 h6
            by_cases h7 : wrap64 (m.e + 1) < bd
            · have e7 : decide (wrap64 (m.e + 1) < bd) = true := decide_eq_true h7
              have HN : Aside0 (badK (spansP l) (k + 1) = wrap64 (m.e + 1)) := ⟨by rw [badK_succ HM.out, HBD.out]; unfold badStep; rw [h5, e6, e7]; rfl⟩
              go_wp2_with (fail)
              go_roundw
              case rel => exact ⟨k + 1, hlt, by rw [HN.out]; try rfl, by go_simp, HWZ⟩
              case measure => simp [intOf]; omega
            · have e7 : decide (wrap64 (m.e + 1) < bd) = false := decide_eq_false h7
              have HN : Aside0 (badK (spansP l) (k + 1) = bd) := ⟨by rw [badK_succ HM.out, HBD.out]; unfold badStep; rw [h5, e6, e7]; rfl⟩
              go_wp2_with (fail)
              go_roundw
              case rel => exact ⟨k + 1, hlt, by rw [HN.out], by go_simp, HWZ⟩
              case measure => simp [intOf]; omega
      · obtain rfl : k = (spansP l).length := by omega
        go_wp2_with (fail)
        go_ret2
        exact ⟨by rw [HJ.out, HBD.out]; rfl, below_step HB1.out HW.out⟩
/-- The ids that are sure, of the first k spans. -/
def sureSet (l : List Ev) (k : Nat) (y : List UInt8) : Bool := ((spansP l).take k).any fun m => sureQ l m && m.r.id.data.toList == y
theorem sureSet_succ {l : List Ev} {k : Nat} {m : Sp} (h : (spansP l)[k]? = some m) (y : List UInt8) : sureSet l (k + 1) y = (sureSet l k y || (sureQ l m && m.r.id.data.toList == y)) := by
  unfold sureSet; rw [any_take _ (spansP l) k m h]
theorem sureQ_makes (l : List Ev) (m : Sp) : sureQ l m = (makesP m && sureP (spansP l) m.r.id l.length l.length) := by
  have : eqT m.r.id m.r.id = true := by unfold eqT; simp
  unfold sureQ; rw [madeP_makes, this, Bool.and_true]
set_option maxHeartbeats 8000000 in
set_option maxRecDepth 100000 in
theorem psureall_calls (A : Option Addr) (c : Nat) (l : List Ev) (w : World) (h : Kd.C kE w A l.length l) (hl : l.length ≤ 1000) (hj : ∀ x ∈ l, -9223372036854775808 ≤ x.job ∧ x.job ≤ 9223372036854775807) (hr : ∀ x ∈ l, RdE w x) (hn : ∀ x ∈ l, LenE x) (hi : ∀ x ∈ l, x.r.id.size ≤ 1048576) :
    Calls Tryz.prog 7 #[.slice A l.length c] w fun e' w' => ∃ v rs, e' = .returned (.tuple #[v, .int .i64 (ckC (checkP l))]) ∧ Kd.R Kd.string 9 w' w.heap.size (fun _ => True) v rs ∧ Rising rs ∧ (∀ s, s ∈ rs ↔ checkP l = true ∧ ∃ m ∈ spansP l, sureQ l m = true ∧ m.r.id = s) ∧ rs.length ≤ 1000 ∧ Below w.heap.size w w' := by
  have HY := Aside0.mk (read_yes A c l w h hl hj hr)
  have HNR := Aside0.mk (read_no A c l w h hl hj)
  have HL := Aside0.mk (spans_len hn)
  have HI : Aside0 (∀ s ∈ spansP l, s.r.id.size ≤ 1048576) := ⟨span_all (P := fun s => s.r.id.size ≤ 1048576) l (fun x _ y hy _ _ _ => hi y hy) (fun x _ _ _ _ => Nat.zero_le _)⟩
  clear h hj hr hn hi
  cases hck : checkP l with
  | false =>
    have HCK := Aside0.mk hck
    go_enter Tryz.func7, Tryz.ntmps7
    go_wp2_with (fail)
    refine (HNR.out hck).mono ?_
    rintro e1 w1 ⟨rfl, hB⟩
    have HB1 := Aside0.mk hB
    clear hB HNR HY hck
    go_wp2_with (fail)
    go_ret2
    exact ⟨_, [], rfl, Kd.R_nil Kd.string 9 _ _ _, List.Pairwise.nil, fun s => by simp, Nat.zero_le _, below_alloc HB1.out _⟩
  | true =>
    go_enter Tryz.func7, Tryz.ntmps7
    go_wp2_with (fail)
    refine (HY.out hck).mono ?_
    rintro e1 w1 ⟨B, d, rfl, hCS, hB⟩
    have HCK := Aside0.mk hck
    have HB1 : Aside0 (Below w.heap.size w (w1.alloc (.cells #[.slice B (spansP l).length d, .int .i64 (l.length : Int)] 47))) := ⟨below_alloc hB _⟩
    have HCS : Aside0 (CS (w1.alloc (.cells #[.slice B (spansP l).length d, .int .i64 (l.length : Int)] 47)) B (spansP l)) := ⟨hCS.below (below_alloc (Below.refl _ _) _)⟩
    have HH : Aside0 (HistAt (w1.alloc (.cells #[.slice B (spansP l).length d, .int .i64 (l.length : Int)] 47)) w1.heap.size B d (spansP l) (l.length : Int)) := ⟨blk_new rfl⟩
    have hsl : (spansP l).length ≤ 1000 := Nat.le_trans (spansK_len l _) hl
    clear hB hCS HNR HY hck
    have hmm := @run_makeMap Tryz.prog
    go_upto_region 2 with (fail)
    generalize (w1.alloc (.cells #[.slice B (spansP l).length d, .int .i64 (l.length : Int)] 47)) = W0 at HB1 HCS HH ⊢
    generalize w1.heap.size = gh at HH ⊢
    have HB2 : Aside0 (Below w.heap.size w (W0.alloc (.map #[] 0))) := ⟨below_alloc HB1.out _⟩
    have HST0 : Aside0 (SetAt (W0.alloc (.map #[] 0)) W0.heap.size 0 (sureSet l 0)) := ⟨(SetAt.made W0).congr (fun _ => rfl)⟩
    have HH2 : Aside0 (HistAt (W0.alloc (.map #[] 0)) gh B d (spansP l) (l.length : Int)) := ⟨blk_old HH.out⟩
    have HCS2 : Aside0 (CS (W0.alloc (.map #[] 0)) B (spansP l)) := ⟨HCS.out.below (below_alloc (Below.refl _ _) _)⟩
    have HGM : Aside0 (w.heap.size ≤ W0.heap.size) := ⟨below_size HB1.out⟩
    go_upto_region 5 with (fail)
    generalize (W0.alloc (.map #[] 0)) = W2 at HB2 HST0 HH2 HCS2 ⊢
    generalize W0.heap.size = gm at HST0 HGM ⊢
    clear hmm HB1 HH HCS
    have z0 : W2.cell? ⟨gh, 0, none⟩ = some (.slice B (spansP l).length d) := (blk_cell HH2.out 0).trans rfl
    go_wp2_with (fail)
    go_loopw [20] (fun v20 wr => ∃ k : Nat, k ≤ (spansP l).length ∧ v20 = .int .i64 k ∧ Aside0 (SetAt wr gm k (sureSet l k)) ∧ Aside0 (Below w.heap.size w wr ∧ HistAt wr gh B d (spansP l) (l.length : Int) ∧ CS wr B (spansP l))) (fun v20 _ => (spansP l).length - (intOf v20).toNat)
    case atStart => exact ⟨0, Nat.zero_le _, rfl, HST0, ⟨HB2.out, HH2.out, HCS2.out⟩⟩
    case round =>
      clear z0 HST0 HB2 HH2 HCS2
      obtain ⟨k, hk, rfl, HST, HW⟩ := hrel
      by_cases hlt : k < (spansP l).length
      · obtain ⟨m, hm⟩ : ∃ r, (spansP l)[k]? = some r := ⟨_, List.getElem?_eq_getElem hlt⟩
        have hrm : m ∈ (spansP l) := List.mem_of_getElem? hm
        obtain ⟨ad, hA, hcell⟩ := cellsS HW.out.2.2.1 k hlt m hm
        subst hA
        have HCE := Aside0.mk hcell
        have HID := Aside0.mk (HI.out m hrm)
        have HM := Aside0.mk hm
        have HQM := Aside0.mk (sureQ_makes l m)
        clear hm hrm hcell
        have hml : k < maxLen := by unfold maxLen; omega
        go_upto_region 8 with (first | ((with_reducible refine gate_dst (N := 23) rfl ?_); refine wpList_load_any (by rfl) 51 (.tmp 22) rfl (ad.add (k * 20)) rfl (encS m) _ (HCE.out) Tryz.underlying51 rfl s51 ?_) | ((with_reducible refine gate_dst (N := 8) rfl ?_); refine box_event ?hg (N := 8) ?hd (cs := #[.int .i64 0, .slice none 0 0, .int .i64 0, .string ⟨#[]⟩, .string ⟨#[]⟩, .slice none 0 0, .string ⟨#[]⟩, .slice none 0 0, .int .i64 0, .bool false, .int .i64 0, .string ⟨#[]⟩, .int .i64 0, .slice none 0 0, .slice none 0 0, .slice none 0 0, .slice none 0 0, .int .i64 0, .int .i64 0, .bool false]) (t := 51) ?hr ?_; (case hd => rfl); (case hg => rfl); (case hr => first | (go_simp; done) | (go_simp; rfl)); intro gx hg wx hbox hb; have HZ := Aside0.mk hbox; have HGX := Aside0.mk hg; have HBX := Aside0.mk hb; clear hg hbox hb) | (refine wpList_store_new rfl 51 (.tmp 8) (.tmp 23) rfl gx _ (encS m) 51 rfl rfl HZ.out rfl s51 (encS_one m) ?_; intro wy hy1 hy2; have HX := Aside0.mk hy1; have HBY : Aside0 (Below wr.heap.size wr wy) := ⟨below_grown HBX.out hy2 HBX.out.size (fun k hk => by injection hk with hk; rw [← hk, HGX.out]; exact Nat.le_refl _)⟩; clear hy1 hy2 HZ HBX HGX))
        have HW2 : Aside0 (Below w.heap.size w wy ∧ HistAt wy gh (some ad) d (spansP l) (l.length : Int) ∧ CS wy (some ad) (spansP l)) := ⟨below_step HW.out.1 HBY.out, blk_below HW.out.2.1 HBY.out, HW.out.2.2.below HBY.out⟩
        have HST2 := Aside0.mk (HST.out.below HBY.out)
        clear HW HST HBY HCE
        go_wp2_with (((with_reducible refine gate_dst (N := 24) rfl ?_); refine wpList_load_any (by rfl) 51 (.tmp 8) rfl ⟨gx, 0, none⟩ rfl (encS m) _ (cells_blk HX.out) Tryz.underlying51 rfl s51 ?_))
        refine (makes_calls m _).mono ?_
        rintro e3 w3 ⟨rfl, hB⟩
        have HW3 : Aside0 (Below w.heap.size w w3 ∧ HistAt w3 gh (some ad) d (spansP l) (l.length : Int) ∧ CS w3 (some ad) (spansP l)) := ⟨below_step HW2.out.1 hB, blk_below HW2.out.2.1 hB, HW2.out.2.2.below hB⟩
        have HST := Aside0.mk (HST2.out.below hB)
        have HX3 := Aside0.mk (blk_below HX.out hB)
        clear hB HW2 HST2 HX
        have y11 : w3.cell? ⟨gx, 11, none⟩ = some (.string m.r.id) := (blk_cell HX3.out 11).trans rfl
        have z0 : w3.cell? ⟨gh, 0, none⟩ = some (.slice (some ad) (spansP l).length d) := (blk_cell HW3.out.2.1 0).trans rfl
        have z1 : w3.cell? ⟨gh, 1, none⟩ = some (.int .i64 (l.length : Int)) := (blk_cell HW3.out.2.1 1).trans rfl
        cases h5 : makesP m with
        | false =>
          have HQ : Aside0 (sureQ l m = false) := ⟨by rw [HQM.out, h5]; rfl⟩
          have HP2 : Aside0 (∀ y, sureSet l (k + 1) y = sureSet l k y) := ⟨fun y => by rw [sureSet_succ HM.out, HQ.out, Bool.false_and, Bool.or_false]⟩
          go_wp2_with (fail)
          go_roundw
          case rel => exact ⟨k + 1, hlt, by go_simp, ⟨(HST.out.congr (fun y => (HP2.out y).symm)).mono (Nat.le_succ k)⟩, HW3⟩
          case measure => simp [intOf]; omega
        | true =>
          go_wp2_with (fail)
          refine (psure_calls (some ad) d (l.length : Int) (spansP l) m.r.id l.length l.length _ HW3.out.2.2 (by omega) HL.out).mono ?_
          rintro e4 w4 ⟨rfl, hB⟩
          have HW4 : Aside0 (Below w.heap.size w w4 ∧ HistAt w4 gh (some ad) d (spansP l) (l.length : Int) ∧ CS w4 (some ad) (spansP l)) := ⟨below_step HW3.out.1 hB, blk_below HW3.out.2.1 hB, HW3.out.2.2.below hB⟩
          have HST4 := Aside0.mk (HST.out.below hB)
          have HX4 := Aside0.mk (blk_below HX3.out hB)
          clear hB HW3 HST HX3 y11 z0 z1
          have HST := HST4
          clear HST4
          cases h6 : sureP (spansP l) m.r.id l.length l.length with
          | false =>
            have HQ : Aside0 (sureQ l m = false) := ⟨by rw [HQM.out, h5, h6]; rfl⟩
            have HP2 : Aside0 (∀ y, sureSet l (k + 1) y = sureSet l k y) := ⟨fun y => by rw [sureSet_succ HM.out, HQ.out, Bool.false_and, Bool.or_false]⟩
            go_wp2_with (fail)
            go_roundw
            case rel => exact ⟨k + 1, hlt, by go_simp, ⟨(HST.out.congr (fun y => (HP2.out y).symm)).mono (Nat.le_succ k)⟩, HW4⟩
            case measure => simp [intOf]; omega
          | true =>
            have HQ : Aside0 (sureQ l m = true) := ⟨by rw [HQM.out, h5, h6]; rfl⟩
            have y11 : w4.cell? ⟨gx, 11, none⟩ = some (.string m.r.id) := (blk_cell HX4.out 11).trans rfl
            have HP2 : Aside0 (∀ y, (sureSet l k y || y == m.r.id.data.toList) = sureSet l (k + 1) y) := ⟨fun y => by rw [sureSet_succ HM.out, HQ.out, Bool.true_and, Bool.beq_comm]⟩
            go_wp2_with (at_mapUpdate; refine wpList_update_set _ rfl _ _ _ 58 rfl Tryz.underlying58 gm k _ rfl HST.out (by unfold maxLen; omega) m.r.id (by have := HID.out; unfold maxLen; omega) rfl rfl ?_; intro w5 hs5 hg5; have HS5 := Aside0.mk (hs5.congr HP2.out); have HW5 : Aside0 (Below w.heap.size w w5 ∧ HistAt w5 gh (some ad) d (spansP l) (l.length : Int) ∧ CS w5 (some ad) (spansP l)) := ⟨pw_below_grown HW4.out.1 _ HW4.out.1.size hg5 (fun k hk => by injection hk with hk; rw [← hk]; exact HGM.out), blk_grown HW4.out.2.1 hg5 (fun e => set_ne_cells HST.out HW4.out.2.1 (by injection e)), HW4.out.2.2.turned HST.out hg5⟩; clear hs5 hg5)
            go_roundw
            case rel => exact ⟨k + 1, hlt, by go_simp, HS5, HW5⟩
            case measure => simp [intOf]; omega
      · obtain rfl : k = (spansP l).length := by omega
        go_wp2_with (fail)
        refine (keys_calls gm wr).mono ?_
        rintro e3 w3 ⟨rfl, rfl⟩
        go_wp2_with (fail)
        refine (sorted_calls gm _ _ wr HST.out (by omega)).mono ?_
        rintro e4 w4 ⟨v, rs, rfl, hR, hri, hme, hle, hB⟩
        have HF : Aside0 (Kd.R Kd.string 9 w4 w.heap.size (fun _ => True) v rs ∧ Rising rs ∧ rs.length ≤ 1000 ∧ Below w.heap.size w w4) := ⟨Kd.R_lower hR (below_size HW.out.1), hri, by omega, below_step HW.out.1 hB⟩
        have HME : Aside0 (∀ s, s ∈ rs ↔ checkP l = true ∧ ∃ m ∈ spansP l, sureQ l m = true ∧ m.r.id = s) := ⟨fun s => by
          rw [hme, HCK.out]
          unfold sureSet
          rw [List.take_length, List.any_eq_true]
          constructor
          · rintro ⟨m, hm, hq⟩
            rw [Bool.and_eq_true, beq_iff_eq] at hq
            exact ⟨rfl, m, hm, hq.1, eq_of_data hq.2⟩
          · rintro ⟨_, m, hm, hq, rfl⟩
            exact ⟨m, hm, by rw [hq]; simp⟩⟩
        clear hR hri hme hle hB
        obtain ⟨Av, cv, hv⟩ := Kd.R_slice HF.out.1
        subst hv
        go_wp2_with (fail)
        go_ret2
        exact ⟨_, rs, rfl, HF.out.1, HF.out.2.1, fun s => by have h2 := HME.out s; rw [HCK.out] at h2; simpa using h2, HF.out.2.2.1, HF.out.2.2.2⟩
end Go.Proofs.YtkicenkljjpcfaaGreatDoor.Q
