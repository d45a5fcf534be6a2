/- DiffThird, the plain law: what two lists in order tell unlike is what their looks tell; so a path that the first and the third tell is told by one of the two steps. -/
import Derived.Test.YtkbofkpkemfedaaDoorHTreesG
namespace Go.Proofs.YtkbofkpkemfedaaDoor.Q
theorem bl_irrefl : ∀ x : List UInt8, Op.bytesLess x x = false
  | [] => rfl
  | a :: x => by
    rw [Op.bytesLess, bl_irrefl x]
    simp
theorem bl_trans : ∀ x y z : List UInt8, Op.bytesLess x y = true → Op.bytesLess y z = true → Op.bytesLess x z = true
  | _, [], _, h, _ => by simp [Op.bytesLess] at h
  | _, _ :: _, [], _, h => by simp [Op.bytesLess] at h
  | [], _ :: _, _ :: _, _, _ => rfl
  | a :: x, b :: y, c :: z, h, h' => by
    simp only [Op.bytesLess, Bool.or_eq_true, decide_eq_true_eq, Bool.and_eq_true, beq_iff_eq] at h h' ⊢
    rcases h with h | ⟨rfl, h⟩
    · rcases h' with h' | ⟨rfl, h'⟩
      · exact .inl (UInt8.lt_trans h h')
      · exact .inl h
    · rcases h' with h' | ⟨rfl, h'⟩
      · exact .inl h'
      · exact .inr ⟨rfl, bl_trans x y z h h'⟩
theorem bl_tri : ∀ x y : List UInt8, Op.bytesLess x y = false → Op.bytesLess y x = false → x = y
  | [], [], _, _ => rfl
  | [], _ :: _, h, _ => by simp [Op.bytesLess] at h
  | _ :: _, [], _, h => by simp [Op.bytesLess] at h
  | a :: x, b :: y, h, h' => by
    simp only [Op.bytesLess, Bool.or_eq_false_iff, decide_eq_false_iff_not] at h h'
    have hab : a = b := by
      apply UInt8.toNat_inj.1
      have h1 := h.1
      have h2 := h'.1
      rw [UInt8.lt_iff_toNat_lt] at h1 h2
      omega
    subst hab
    have h1 := h.2
    have h2 := h'.2
    simp only [beq_self_eq_true, Bool.true_and] at h1 h2
    rw [bl_tri x y h1 h2]
theorem cmpS_zero (a b : ByteArray) : cmpS a b = 0 ↔ a = b := by
  unfold cmpS
  constructor
  · intro h
    split at h
    · simp at h
    · split at h
      · simp at h
      · rename_i h1 h2
        simp only [Bool.not_eq_true', Bool.or_eq_false_iff, not_and, Bool.not_eq_true] at h1 h2
        have h3 := h2
        simp only [h1] at h3
        have h4 : (a.toList == b.toList) = true := by simpa using h3
        exact eq_of_toList (beq_iff_eq.1 h4)
  · rintro rfl
    rw [if_neg (by rw [bl_irrefl]; simp), if_neg (by simp)]
theorem cmpS_neg (a b : ByteArray) : cmpS a b < 0 ↔ Op.bytesLess a.toList b.toList = true := by
  unfold cmpS
  constructor
  · intro h
    split at h
    · assumption
    · split at h <;> simp at h
  · intro h
    rw [if_pos h]
    decide
theorem cmpL_self : ∀ x : List ByteArray, cmpL x x = 0
  | [] => rfl
  | x :: xs => by rw [cmpL, if_pos ((cmpS_zero x x).2 rfl), cmpL_self xs]
theorem cmpL_trans : ∀ x y z : List ByteArray, cmpL x y < 0 → cmpL y z < 0 → cmpL x z < 0
  | [], [], _, h, _ => by simp [cmpL] at h
  | _ :: _, [], _, h, _ => by simp [cmpL] at h
  | _, _ :: _, [], _, h => by simp [cmpL] at h
  | [], _ :: _, _ :: _, _, _ => by simp [cmpL]
  | a :: x, b :: y, c :: z, h, h' => by
    rw [cmpL] at h h' ⊢
    by_cases hab : cmpS a b = 0
    · rw [if_pos hab] at h
      obtain rfl := (cmpS_zero a b).1 hab
      by_cases hac : cmpS a c = 0
      · rw [if_pos hac] at h' ⊢
        exact cmpL_trans x y z h h'
      · rw [if_neg hac] at h' ⊢
        exact h'
    · rw [if_neg hab] at h
      by_cases hbc : cmpS b c = 0
      · obtain rfl := (cmpS_zero b c).1 hbc
        rw [if_neg hab]
        exact h
      · rw [if_neg hbc] at h'
        have h1 := bl_trans _ _ _ ((cmpS_neg a b).1 h) ((cmpS_neg b c).1 h')
        have h2 := (cmpS_neg a c).2 h1
        rw [if_neg (by omega)]
        exact h2
theorem cmpL_tri : ∀ x y : List ByteArray, ¬ cmpL x y < 0 → ¬ cmpL y x < 0 → x = y
  | [], [], _, _ => rfl
  | [], _ :: _, h, _ => by simp [cmpL] at h
  | _ :: _, [], _, h => by simp [cmpL] at h
  | a :: x, b :: y, h, h' => by
    rw [cmpL] at h h'
    by_cases hab : cmpS a b = 0
    · obtain rfl := (cmpS_zero a b).1 hab
      rw [if_pos hab] at h h'
      rw [cmpL_tri x y h h']
    · have hba : cmpS b a ≠ 0 := fun e => hab ((cmpS_zero a b).2 ((cmpS_zero b a).1 e).symm)
      rw [if_neg hab, cmpS_neg, Bool.not_eq_true] at h
      rw [if_neg hba, cmpS_neg, Bool.not_eq_true] at h'
      exact absurd ((cmpS_zero a b).2 (eq_of_toList (bl_tri _ _ h h'))) hab
/-- The parts, joined again. -/
def joinP : List ByteArray → List UInt8
  | [] => []
  | [x] => x.data.toList
  | x :: y :: l => x.data.toList ++ 47 :: joinP (y :: l)
theorem ix_cut : ∀ (l : List UInt8) (i : Nat), Lib.indexByte l 47 = (i : Int) → l = l.take i ++ 47 :: l.drop (i + 1)
  | [], i, h => by simp [Lib.indexByte] at h
  | b :: l, i, h => by
    unfold Lib.indexByte at h
    by_cases hb : (b == 47) = true
    · rw [if_pos hb] at h
      have : i = 0 := by omega
      subst this
      simp only [List.take_zero, List.nil_append, List.drop_succ_cons, List.drop_zero]
      rw [beq_iff_eq.1 hb]
    · rw [if_neg hb] at h
      by_cases hm : (Lib.indexByte l 47 == -1) = true
      · rw [if_pos hm] at h; omega
      · rw [if_neg hm] at h
        obtain ⟨j, rfl⟩ : ∃ j, i = j + 1 := ⟨i - 1, by have := Lib.indexByte_ge l 47; have h1 : Lib.indexByte l 47 ≠ -1 := fun e => hm (by rw [e]; rfl); omega⟩
        have hj := ix_cut l j (by omega)
        simp only [List.take_succ_cons, List.cons_append, List.drop_succ_cons]
        rw [← hj]
theorem splitN_ne (n : Nat) (s : ByteArray) : splitN n s ≠ [] := by
  cases n with
  | zero => simp [splitN]
  | succ n => rw [splitN]; split <;> simp
theorem ext_list (s : ByteArray) (a b : Nat) : (s.extract a b).data.toList = (s.data.toList.take b).drop a := by
  rw [ByteArray.data_extract, Array.toList_extract]
  rw [List.extract_eq_take_drop, List.drop_take]
theorem join_split : ∀ (n : Nat) (s : ByteArray), joinP (splitN n s) = s.data.toList
  | 0, s => rfl
  | n + 1, s => by
    rw [splitN]
    split
    · rfl
    · rename_i h
      obtain ⟨i, hi⟩ : ∃ i : Nat, ixs s = (i : Int) := ⟨(ixs s).toNat, by omega⟩
      have hc := ix_cut s.data.toList i hi
      have hj := join_split n (s.extract ((ixs s).toNat + 1) s.size)
      cases hsp : splitN n (s.extract ((ixs s).toNat + 1) s.size) with
      | nil => exact absurd hsp (splitN_ne _ _)
      | cons y l =>
        rw [hsp] at hj
        rw [joinP, hj, hi, Int.toNat_natCast, ext_list, ext_list]
        have hl : s.data.toList.length = s.size := by rw [Array.length_toList]; rfl
        rw [List.drop_zero, ← hl, List.take_length]
        exact hc.symm
theorem parts_inj {p q : ByteArray} (h : partsOf p = partsOf q) : p = q := by
  have hd : ∀ {a b : ByteArray}, a.data.toList = b.data.toList → a = b := fun {a b} e => eq_of_toList (by rw [toList_data, toList_data, e])
  unfold partsOf at h
  have hz : ∀ s : ByteArray, s.size = 0 → s.data.toList = [] := fun s hs => List.length_eq_zero_iff.1 (by rw [Array.length_toList]; exact hs)
  split at h
  · split at h
    · rename_i h1 h2
      exact hd (by rw [hz p h1, hz q h2])
    · exact absurd h.symm (splitN_ne _ _)
  · split at h
    · exact absurd h (splitN_ne _ _)
    · exact hd (by rw [← join_split (cts p) p, h, join_split])
theorem lessP_irrefl (p : ByteArray) : lessP p p = false := by
  unfold lessP
  rw [cmpL_self]
  decide
theorem lessP_trans {p q r : ByteArray} (h : lessP p q = true) (h' : lessP q r = true) : lessP p r = true := by
  unfold lessP at *
  exact decide_eq_true (cmpL_trans _ _ _ (of_decide_eq_true h) (of_decide_eq_true h'))
theorem lessP_tri {p q : ByteArray} (h : ¬ lessP p q = true) (h' : ¬ lessP q p = true) : p = q := by
  unfold lessP at *
  exact parts_inj (cmpL_tri _ _ (by simpa using h) (by simpa using h'))
/-- In order. -/
def Asc : List F → Prop
  | [] => True
  | x :: l => (∀ y ∈ l, lessP x.p y.p = true) ∧ Asc l
theorem asc_of : ∀ (o : List F), (∀ (i : Nat) (x y : F), o[i]? = some x → o[i + 1]? = some y → lessP x.p y.p = true) → Asc o
  | [], _ => trivial
  | x :: l, h => by
    have hl : Asc l := asc_of l (fun i y z hy hz => h (i + 1) y z hy hz)
    refine ⟨fun y hy => ?_, hl⟩
    cases l with
    | nil => simp at hy
    | cons z l =>
      have hxz := h 0 x z rfl rfl
      rcases List.mem_cons.1 hy with rfl | hy
      · exact hxz
      · exact lessP_trans hxz (hl.1 y hy)
open Classical in
noncomputable def lookF : List F → ByteArray → Option F
  | [], _ => none
  | x :: l, p => if x.p = p then some x else lookF l p
theorem look_ahead {p : ByteArray} : ∀ {l : List F}, (∀ y ∈ l, lessP p y.p = true) → lookF l p = none
  | [], _ => rfl
  | x :: l, h => by
    have hx : x.p ≠ p := by
      rintro rfl
      have := h x List.mem_cons_self
      rw [lessP_irrefl] at this
      exact absurd this (by decide)
    rw [lookF, if_neg hx]
    exact look_ahead (fun y hy => h y (List.mem_cons_of_mem _ hy))
theorem look_hit (x : F) (l : List F) : lookF (x :: l) x.p = some x := by rw [lookF, if_pos rfl]
theorem look_past {x : F} {l : List F} {p : ByteArray} (h : p ≠ x.p) : lookF (x :: l) p = lookF l p := by rw [lookF, if_neg (fun e => h e.symm)]
def Same : Option F → Option F → Prop
  | none, none => True
  | some x, some y => kindV x y = 0
  | _, _ => False
theorem kindV_zero (x y : F) : kindV x y = 0 ↔ (x.kind = y.kind ∧ (x.kind = 2 ∨ (x.size = y.size ∧ x.sub = y.sub ∧ x.target = y.target ∧ x.ids = y.ids)) ∧ x.mode = y.mode ∧ x.mtime = y.mtime ∧ x.ctime = y.ctime) := by
  unfold kindV
  constructor
  · intro h
    split at h
    · simp at h
    · split at h
      · simp at h
      · split at h
        · simp at h
        · rename_i h1 h2 h3
          exact ⟨Decidable.not_not.1 h1, Classical.not_not.1 h2, by omega, by omega, by omega⟩
  · rintro ⟨h1, h2, h3, h4, h5⟩
    rw [if_neg (by simp [h1]), if_neg (by simp only [Classical.not_not]; exact h2), if_neg (by omega)]
theorem kindV_pos (x y : F) : kindV x y > 0 ↔ kindV x y ≠ 0 := by
  unfold kindV
  split
  · simp
  · split
    · simp
    · split <;> simp
theorem same_trans {x y z : Option F} (h : Same x y) (h' : Same y z) : Same x z := by
  cases x <;> cases y <;> cases z <;> simp only [Same] at *
  rw [kindV_zero] at *
  obtain ⟨a1, a2, a3, a4, a5⟩ := h
  obtain ⟨b1, b2, b3, b4, b5⟩ := h'
  refine ⟨a1.trans b1, ?_, a3.trans b3, a4.trans b4, a5.trans b5⟩
  rcases a2 with a2 | ⟨c1, c2, c3, c4⟩
  · exact .inl a2
  · rcases b2 with b2 | ⟨d1, d2, d3, d4⟩
    · exact .inl (a1.trans b2)
    · exact .inr ⟨c1.trans d1, c2.trans d2, c3.trans d3, c4.trans d4⟩
theorem tells : ∀ (n : Nat) (a b : List F), a.length + b.length ≤ n → Asc a → Asc b → ∀ p, p ∈ (treesL n a b).map (·.f0) ↔ ¬ Same (lookF a p) (lookF b p)
  | 0, [], [], _, _, _, p => by simp [treesL, lookF, Same]
  | 0, _ :: _, _, h, _, _, p => by simp at h
  | 0, [], _ :: _, h, _, _, p => by simp at h
  | n + 1, [], [], _, _, _, p => by simp [treesL, lookF, Same]
  | n + 1, x :: a, [], h, ha, hb, p => by
    have ih := tells n a [] (by simp at h ⊢; omega) ha.2 hb p
    simp only [treesL, List.map_cons, List.mem_cons, ih]
    by_cases hp : p = x.p
    · subst hp
      rw [look_hit]
      simp [lookF, Same]
    · rw [look_past hp]
      simp [hp]
  | n + 1, [], y :: b, h, ha, hb, p => by
    have ih := tells n [] b (by simp at h ⊢; omega) ha hb.2 p
    simp only [treesL, List.map_cons, List.mem_cons, ih]
    by_cases hp : p = y.p
    · subst hp
      rw [look_hit]
      simp [lookF, Same]
    · rw [look_past hp]
      simp [hp]
  | n + 1, x :: a, y :: b, h, ha, hb, p => by
    have e1 : a.length + (y :: b).length ≤ n := by simp only [List.length_cons] at h ⊢; omega
    have e2 : (x :: a).length + b.length ≤ n := by simp only [List.length_cons] at h ⊢; omega
    have e3 : a.length + b.length ≤ n := by simp only [List.length_cons] at h ⊢; omega
    simp only [treesL]
    by_cases hxy : lessP x.p y.p = true
    · rw [if_pos hxy]
      have ih := tells n a (y :: b) e1 ha.2 hb p
      simp only [List.map_cons, List.mem_cons, ih]
      by_cases hp : p = x.p
      · subst hp
        rw [look_hit, look_ahead (l := y :: b) (fun z hz => by
          rcases List.mem_cons.1 hz with rfl | hz
          · exact hxy
          · exact lessP_trans hxy (hb.1 z hz))]
        simp [Same]
      · rw [look_past (x := x) hp]
        simp [hp]
    · rw [if_neg hxy]
      by_cases hyx : lessP y.p x.p = true
      · rw [if_pos hyx]
        have ih := tells n (x :: a) b e2 ha hb.2 p
        simp only [List.map_cons, List.mem_cons, ih]
        by_cases hp : p = y.p
        · subst hp
          rw [look_hit, look_ahead (l := x :: a) (fun z hz => by
            rcases List.mem_cons.1 hz with rfl | hz
            · exact hyx
            · exact lessP_trans hyx (ha.1 z hz))]
          simp [Same]
        · rw [look_past (x := y) hp]
          simp [hp]
      · rw [if_neg hyx]
        have hpp : x.p = y.p := lessP_tri hxy hyx
        have ih := tells n a b e3 ha.2 hb.2 p
        by_cases hk : kindV x y > 0
        · rw [if_pos hk]
          simp only [List.map_cons, List.mem_cons, ih]
          by_cases hp : p = x.p
          · subst hp
            rw [look_hit]
            have hy : lookF (y :: b) x.p = some y := by rw [hpp]; exact look_hit y b
            rw [hy]
            simp only [true_or, true_iff, Same]
            exact (kindV_pos x y).1 hk
          · rw [look_past hp, look_past (x := y) (by rw [← hpp]; exact hp)]
            simp [hp]
        · rw [if_neg hk, ih]
          by_cases hp : p = x.p
          · subst hp
            rw [look_hit]
            have hy : lookF (y :: b) x.p = some y := by rw [hpp]; exact look_hit y b
            rw [hy, look_ahead ha.1, look_ahead (l := b) (by rw [hpp]; exact hb.1)]
            have hk0 : kindV x y = 0 := Classical.not_not.1 (fun e => hk ((kindV_pos x y).2 e))
            simp [Same, hk0]
          · rw [look_past hp, look_past (x := y) (by rw [← hpp]; exact hp)]
/-- What the first and the third list tell unlike is told by one of the two steps. -/
theorem third {a b c : List F} (ha : Asc a) (hb : Asc b) (hc : Asc c) (d : S32) (hd : d ∈ treesL (a.length + c.length) a c) :
    d.f0 ∈ (treesL (a.length + b.length) a b).map (·.f0) ++ (treesL (b.length + c.length) b c).map (·.f0) := by
  have h1 := (tells _ a c (Nat.le_refl _) ha hc d.f0).1 (List.mem_map.2 ⟨d, hd, rfl⟩)
  rw [List.mem_append, tells _ a b (Nat.le_refl _) ha hb, tells _ b c (Nat.le_refl _) hb hc]
  by_cases h : Same (lookF a d.f0) (lookF b d.f0)
  · exact .inr (fun h' => h1 (same_trans h h'))
  · exact .inl h
end Go.Proofs.YtkbofkpkemfedaaDoor.Q
