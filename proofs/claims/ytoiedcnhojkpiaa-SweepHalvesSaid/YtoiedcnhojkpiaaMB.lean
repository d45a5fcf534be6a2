/- Of the proofs about sweep: several texts, joined. -/
import Derived.Test.YtoiedcnhojkpiaaMA
import Derived.Laws.Cover1
import Derived.Maps.OwnSet
import Derived.Maps.Ext
import Derived.Maps.RangeWalk
import Derived.StringKeys
import Derived.Test.YtoiedcnhojkpiaaShelf
import Derived.Sort.KeysCollected
namespace Go.Proofs.Ytoiedcnhojkpiaa.Q
open Go.RowKit Go.Proofs.YtoiedcnhojkpiaaW.PrintWords Go.Proofs.YtoiedcnhojkpiaaW.PrintLast Go.Proofs.YtoiedcnhojkpiaaW.PrintMore
/-! ### The order of texts -/
theorem bl_irrefl : ∀ x : List UInt8, Op.bytesLess x x = false
  | [] => rfl
  | a :: x => by
    rw [Op.bytesLess, bl_irrefl x]
    simp
theorem bl_trans : ∀ x y z : List UInt8, Op.bytesLess x y = true → Op.bytesLess y z = true → Op.bytesLess x z = true
  | _, [], _, h, _ => by simp [Op.bytesLess] at h
  | _, _ :: _, [], _, h => by simp [Op.bytesLess] at h
  | [], _ :: _, _ :: _, _, _ => rfl
  | a :: x, b :: y, c :: z, h, h' => by
    simp only [Op.bytesLess, Bool.or_eq_true, decide_eq_true_eq, Bool.and_eq_true, beq_iff_eq] at h h' ⊢
    rcases h with h | ⟨rfl, h⟩
    · rcases h' with h' | ⟨rfl, h'⟩
      · exact .inl (UInt8.lt_trans h h')
      · exact .inl h
    · rcases h' with h' | ⟨rfl, h'⟩
      · exact .inl h'
      · exact .inr ⟨rfl, bl_trans x y z h h'⟩
theorem bl_tri : ∀ x y : List UInt8, Op.bytesLess x y = false → Op.bytesLess y x = false → x = y
  | [], [], _, _ => rfl
  | [], _ :: _, h, _ => by simp [Op.bytesLess] at h
  | _ :: _, [], _, h => by simp [Op.bytesLess] at h
  | a :: x, b :: y, h, h' => by
    simp only [Op.bytesLess, Bool.or_eq_false_iff, decide_eq_false_iff_not] at h h'
    have hab : a = b := by
      apply UInt8.toNat_inj.1
      have h1 := h.1
      have h2 := h'.1
      rw [UInt8.lt_iff_toNat_lt] at h1 h2
      omega
    subst hab
    have h1 := h.2
    have h2 := h'.2
    simp only [beq_self_eq_true, Bool.true_and] at h1 h2
    rw [bl_tri x y h1 h2]
theorem bl_lt : ∀ x y : List UInt8, Op.bytesLess x y = true ↔ x < y
  | [], [] => by simp [Op.bytesLess]
  | [], _ :: _ => by simp [Op.bytesLess]
  | _ :: _, [] => by simp [Op.bytesLess]
  | a :: x, b :: y => by
    rw [Op.bytesLess, List.cons_lt_cons_iff, ← bl_lt x y]
    simp
theorem toList_loop (s : ByteArray) : ∀ (n i : Nat) (r : List UInt8), s.size - i = n → ByteArray.toList.loop s i r = r.reverse ++ s.data.toList.drop i
  | 0, i, r, h => by
    rw [ByteArray.toList.loop, if_neg (by omega), List.drop_eq_nil_of_le (by rw [data_length]; omega), List.append_nil]
  | n + 1, i, r, h => by
    have hi : i < s.data.toList.length := by rw [data_length]; omega
    have hi2 : i < s.data.size := by rw [← Array.length_toList]; exact hi
    rw [ByteArray.toList.loop, if_pos (by omega), toList_loop s n (i + 1) _ (by omega), List.reverse_cons, List.append_assoc, List.drop_eq_getElem_cons hi]
    have e : s.get! i = s.data.toList[i] := by
      show s.data[i]! = _
      rw [getElem!_pos s.data i hi2]
      simp
    rw [e]
    rfl
theorem toList_data (s : ByteArray) : s.toList = s.data.toList := by
  unfold ByteArray.toList
  rw [toList_loop s s.size 0 [] (by omega)]
  simp
theorem eq_of_toList {a b : ByteArray} (h : a.toList = b.toList) : a = b := by
  rw [toList_data, toList_data] at h
  cases a; cases b
  simp only [ByteArray.mk.injEq]
  exact Array.toList_inj.1 h
theorem eq_of_data {a b : ByteArray} (h : a.data.toList = b.data.toList) : a = b := eq_of_toList (by rw [toList_data, toList_data]; exact h)
def cmpS (a b : ByteArray) : Int := if Op.bytesLess a.toList b.toList = true then -1 else if (!(Op.bytesLess a.toList b.toList || a.toList == b.toList)) = true then 1 else 0
set_option maxHeartbeats 1000000 in
set_option maxRecDepth 100000 in
theorem cmp_any (a b : ByteArray) (w : World) : Calls Try.prog 56 #[.string a, .string b] w fun e w' => e = .returned (.int .i64 (cmpS a b)) ∧ Drawn0 w w' := by
  have ea : cmp_isNaN_string.f a = some false := by unfold cmp_isNaN_string.f; simp
  have eb : cmp_isNaN_string.f b = some false := by unfold cmp_isNaN_string.f; simp
  unfold cmpS
  generalize h1 : Op.bytesLess a.toList b.toList = l
  generalize h2 : (a.toList == b.toList) = q
  cases l <;> cases q
  all_goals
    go_enter Try.func56, Try.ntmps56
    go_wp2_with (first | (go_at_call 75; (with_reducible refine (cmp_isNaN_string.calls a _ _ ea).mono ?_); rintro e w1 ⟨rfl, m, rfl⟩) | (go_at_call 75; (with_reducible refine (cmp_isNaN_string.calls b _ _ eb).mono ?_); rintro e w1 ⟨rfl, m, rfl⟩))
    go_ret
    exact ⟨rfl, by repeat (first | exact Drawn0.refl _ | apply Drawn0.step)⟩
def cmp_Compare_string.f (a0 a1 : ByteArray) : Option Int := some (cmpS a0 a1)
theorem cmp_Compare_string.calls (a0 a1 : ByteArray) (r : Int) (w : World) (h : cmp_Compare_string.f a0 a1 = some r) :
    Calls Try.prog 56 #[.string a0, .string a1] w fun e w' => e = .returned (.int .i64 r) ∧ Below w.heap.size w w' := by
  obtain rfl : cmpS a0 a1 = r := by simpa [cmp_Compare_string.f] using h
  exact (cmp_any a0 a1 w).mono fun e w' ⟨h1, h2⟩ => ⟨h1, h2.below⟩
end Go.Proofs.Ytoiedcnhojkpiaa.Q
/- Sets of texts (maps from texts to bools, whose elements are all true): what a look-up, a store and a copy do to them; sweep.of walked. -/
namespace Go.Proofs.Ytoiedcnhojkpiaa.Q
open Go.RowKit Go.Maps Go.Proofs.YtoiedcnhojkpiaaW.PrintWords Go.Proofs.YtoiedcnhojkpiaaW.PrintLast Go.Proofs.YtoiedcnhojkpiaaW.PrintMore
theorem law9 : Keyed Try.prog 9 := string_keyed Try.underlying9
theorem zero4 (w : World) : (zeroValue 4).run Try.prog w = .ok (.bool false) w := by kernel_rfl
theorem bool_inv {v : Value} {c : Bool} {ps : List MemPlace} (h : plainElem (H := Unit) Try.prog 4 v = some (.lit (.bool c), ps)) : v = .bool c := by
  simp only [plainElem, Try.underlying4] at h
  cases v <;> simp at h
  rw [h.1]
/-- Block b is a set of at most n texts, just those of p. -/
def SetAt (w : World) (b n : Nat) (p : List UInt8 → Bool) : Prop :=
  ∃ D : DataW Unit, w.ownsMap Try.prog 9 (plainElem Try.prog 4) b n D ∧ (∀ x, Maps.has D (.string x) = p x) ∧ ∀ k z, Maps.has D k = true → D.atKey k z = .lit (.bool true)
theorem SetAt.made (w : World) : SetAt (w.alloc (.map #[] 0)) w.heap.size 0 (fun _ => false) :=
  ⟨_, World.ownsMap_made w _ _ _, fun _ => rfl, fun _ _ h => by cases h⟩
theorem SetAt.lt {w : World} {b n : Nat} {p : List UInt8 → Bool} (h : SetAt w b n p) : b < w.heap.size := h.choose_spec.1.lt
theorem SetAt.kept {w w' : World} {b n : Nat} {p : List UInt8 → Bool} {row : Option Nat} (h : SetAt w b n p) (hg : w.grownBy w' row) (hne : some b ≠ row) : SetAt w' b n p := by
  obtain ⟨D, h1, h2⟩ := h
  exact ⟨D, h1.kept hg hne, h2⟩
theorem SetAt.below {w w' : World} {b n : Nat} {p : List UInt8 → Bool} (h : SetAt w b n p) (hb : Below w.heap.size w w') : SetAt w' b n p := h.kept (grown_of_below hb none) (by simp)
theorem SetAt.mono {w : World} {b n n' : Nat} {p : List UInt8 → Bool} (h : SetAt w b n p) (hn : n ≤ n') : SetAt w b n' p := by
  obtain ⟨D, h1, h2⟩ := h
  exact ⟨D, h1.mono hn, h2⟩
theorem SetAt.congr {w : World} {b n : Nat} {p q : List UInt8 → Bool} (h : SetAt w b n p) (hpq : ∀ x, p x = q x) : SetAt w b n q := by
  rwa [show q = p from funext fun x => (hpq x).symm]
theorem SetAt.put {w w' : World} {b n : Nat} {D : DataW Unit} {p : List UInt8 → Bool} {s : ByteArray} (h0 : w.ownsMap Try.prog 9 (plainElem Try.prog 4) b n D) (hp : ∀ x, Maps.has D (.string x) = p x) (ht : ∀ k z, Maps.has D k = true → D.atKey k z = .lit (.bool true))
    (hs : s.size ≤ maxLen) (h : w'.ownsMap Try.prog 9 (plainElem Try.prog 4) b (n + 1) (D.put (.string s.data.toList) (.lit (.bool true)))) : SetAt w' b (n + 1) (fun x => p x || x == s.data.toList) := by
  have hk : WideAt.IsKeyLit (.string s.data.toList) := law9.key (Go.WideMaps.keyOf_string_mk Try.underlying9 hs)
  refine ⟨_, h, fun x => ?_, fun k z hk2 => ?_⟩
  · by_cases e : x = s.data.toList
    · subst e
      rw [has_put_same h0.isMap hk]
      simp
    · rw [has_put_other (fun h => e (by injection h)), hp]
      simp [e]
  · by_cases e : k = .string s.data.toList
    · subst e
      exact atKey_put_same h0.isMap hk _ _
    · rw [atKey_put_other e]
      rw [has_put_other e] at hk2
      exact ht k z hk2
section
variable (w : World) {ops : Array Oper} {rest : List Oper} {o : Oper} {a : Act} {Q : Exit → Act → World → Prop}
theorem SetAt.look {w : World} {t b n : Nat} {p : List UInt8 → Bool} {s : ByteArray} (h : SetAt w b n p) (ht : Try.prog.underlying t = some (.map 9 4)) (hs : s.size ≤ maxLen) : (Instr.lookup t (.map (some b)) (.string s) false).run Try.prog w = .ok (.bool (p s.data.toList)) w := by
  obtain ⟨D, h1, h2, h3⟩ := h
  obtain ⟨v, ps, hrun, hR⟩ := h1.lookup law9 ht (zero4 w) (plainElem_bool Try.underlying4 false) (Go.WideMaps.keyOf_string_mk Try.underlying9 hs)
  by_cases hh : Maps.has D (.string s.data.toList) = true
  · rw [h3 _ _ hh] at hR
    rw [hrun, bool_inv hR, ← h2, hh]
  · have hf := eq_false_of_ne_true hh
    rw [atKey_of_not_has hf] at hR
    rw [hrun, bool_inv hR, ← h2, hf]
/-- A look-up in a set. -/
theorem wpList_lookup_set (hg : o.guard = none) (m x : Operand) (t : TypeId) (hop : o.op = Op.lookup t m x false) (ht : Try.prog.underlying t = some (.map 9 4)) (b n : Nat) (p : List UInt8 → Bool)
    (hm : a.eval m = .map (some b)) (hown : SetAt w b n p) (s : ByteArray) (hs : s.size ≤ maxLen) (hx : a.eval x = .string s)
    (hK : wpList Try.prog ops Q rest (a.put o.dst (.bool (p s.data.toList))) w) : wpList Try.prog ops Q (o :: rest) a w := by
  refine wpList_plain hg fun K' hK' => ?_
  have hrun := hown.look ht hs
  unfold Oper.wp
  simp [execOp, hop, hm, hx, hrun, Result.andThen]
  exact hK' _ _ hK
/-- A store of true into a set. -/
theorem wpList_update_set (hg : o.guard = none) (m x v : Operand) (t : TypeId) (hop : o.op = Op.mapUpdate t m x v) (ht : Try.prog.underlying t = some (.map 9 4)) (b n : Nat) (p : List UInt8 → Bool)
    (hm : a.eval m = .map (some b)) (hown : SetAt w b n p) (hn : n < maxLen) (s : ByteArray) (hs : s.size ≤ maxLen) (hx : a.eval x = .string s) (hv : a.eval v = .bool true)
    (hK : ∀ w', SetAt w' b (n + 1) (fun y => p y || y == s.data.toList) → w.grownBy w' (some b) → wpList Try.prog ops Q rest (a.put o.dst undef) w') : wpList Try.prog ops Q (o :: rest) a w := by
  obtain ⟨D, h1, h2, h3⟩ := hown
  exact wpList_mapUpdate_own w hg m x v t hop 9 4 law9 ht _ b n D hm h1 hn _ _ _ hx hv (Go.WideMaps.keyOf_string_mk Try.underlying9 hs) (.lit (.bool true)) [] (plainElem_bool Try.underlying4 true) (fun w' hw hgw => hK w' (SetAt.put h1 h2 h3 hs hw) hgw)
end
theorem below_map {B : Nat} {w W w1 : World} {b : Nat} (h : Below B w W) (hg : W.grownBy w1 (some b)) (hB : B ≤ W.heap.size) (hb : B ≤ b) : Below B w w1 := pw_below_grown h _ hB hg (fun k hk => by injection hk with hk; rw [← hk]; exact hb)
/-- The texts of a list. -/
def memb (l : List ByteArray) (x : List UInt8) : Bool := l.any fun s => x == s.data.toList
theorem memb_iff (l : List ByteArray) (s : ByteArray) : memb l s.data.toList = true ↔ s ∈ l := by
  unfold memb
  rw [List.any_eq_true]
  constructor
  · rintro ⟨y, hy, he⟩
    rwa [eq_of_data (beq_iff_eq.1 he)]
  · exact fun h => ⟨s, h, by simp⟩
theorem memb_take (l : List ByteArray) (k : Nat) (h : k < l.length) (x : List UInt8) : memb (l.take (k + 1)) x = (memb (l.take k) x || x == l[k].data.toList) := by
  unfold memb
  rw [List.take_succ_eq_append_getElem h, List.any_append]
  simp
set_option maxHeartbeats 1000000 in
set_option maxRecDepth 100000 in
theorem of_calls (A : Option Addr) (c : Nat) (l : List ByteArray) (w : World) (hr : Kd.C Kd.string w A l.length l) (hl : l.length ≤ 100000) (hs : ∀ s ∈ l, s.size ≤ maxLen) :
    Calls Try.prog 30 #[.slice A l.length c] w fun e w' => e = .returned (.map (some w.heap.size)) ∧ SetAt w' w.heap.size l.length (memb l) ∧ Below w.heap.size w w' := by
  have HR := Aside0.mk hr
  have HS := Aside0.mk hs
  have hmm := @run_makeMap Try.prog
  clear hr hs
  go_enter Try.func30, Try.ntmps30
  go_wp2
  go_loopw [5, 9] (fun _ i wr => ∃ k : Nat, k ≤ l.length ∧ i = .int .i64 k ∧ Aside0 (SetAt wr w.heap.size k (memb (l.take k))) ∧ Aside0 (Below w.heap.size w wr)) (fun _ i _ => l.length - (intOf i).toNat)
  case atStart => exact ⟨0, Nat.zero_le _, rfl, ⟨(SetAt.made w).congr (fun x => by simp [memb])⟩, ⟨(Below.refl _ _).alloc (Nat.le_refl _) _⟩⟩
  case round =>
    obtain ⟨k, hk, rfl, HM, HB⟩ := hrel
    by_cases hlt : k < l.length
    · obtain ⟨ad, rfl, hx⟩ := Kd.at_string (Kd.C_below HR.out HB.out) (k : Int) (by omega) (by omega)
      have hd : rdOf ByteArray.empty l (k : Int) = l[k] := by unfold rdOf; simp [List.getD_eq_getElem?_getD, List.getElem?_eq_getElem hlt]
      rw [hd, Int.toNat_natCast] at hx
      have HMT := Aside0.mk (memb_take l k hlt)
      have hsk : l[k].size ≤ maxLen := HS.out _ (List.getElem_mem hlt)
      clear hd
      generalize l[k] = s at hx HMT hsk
      go_wp2_with (first
        | (at_mapUpdate; refine wpList_update_set _ rfl _ _ _ 81 rfl Try.underlying81 w.heap.size k _ rfl HM.out (by unfold maxLen; omega) s hsk rfl rfl ?_; intro w1 hm1 hg1; have HM1 := Aside0.mk (hm1.congr (fun x => (HMT.out x).symm)); have HB1 := Aside0.mk (below_map HB.out hg1 HB.out.size (Nat.le_refl _)); clear hm1 hg1))
      go_roundw
      case rel => exact ⟨k + 1, by omega, by go_num, HM1, HB1⟩
      case measure => simp [intOf]; omega
    · obtain rfl : k = l.length := by omega
      have HM2 : Aside0 (SetAt wr w.heap.size l.length (memb l)) := ⟨by have := HM.out; rwa [List.take_length] at this⟩
      go_wp2
      go_ret
      exact ⟨rfl, HM2.out, HB.out⟩
end Go.Proofs.Ytoiedcnhojkpiaa.Q
/- Sets of texts: their members in order (slices.Sorted of maps.Keys, by the kit's contracts), and a copy into another set (maps.Copy). -/
namespace Go.Proofs.Ytoiedcnhojkpiaa.Q
open Go.RowKit Go.Maps Go.Sort Go.Proofs.YtoiedcnhojkpiaaW.PrintWords Go.Proofs.YtoiedcnhojkpiaaW.PrintLast Go.Proofs.YtoiedcnhojkpiaaW.PrintMore
/-- In order, each once. -/
def Rising (l : List ByteArray) : Prop := l.Pairwise fun a b => Op.bytesLess a.toList b.toList = true
theorem rising_eq : ∀ {l r : List ByteArray}, Rising l → Rising r → (∀ s, s ∈ l ↔ s ∈ r) → l = r
  | [], [], _, _, _ => rfl
  | [], b :: r, _, _, h => by have := (h b).2 (by simp); simp at this
  | a :: l, [], _, _, h => by have := (h a).1 (by simp); simp at this
  | a :: l, b :: r, hl, hr, h => by
    obtain ⟨h1, h2⟩ := List.pairwise_cons.1 hl
    obtain ⟨h3, h4⟩ := List.pairwise_cons.1 hr
    have nl : ∀ {x y : ByteArray}, Op.bytesLess x.toList y.toList = true → Op.bytesLess y.toList x.toList = true → False := fun {x y} hx hy => by
      have := bl_trans _ _ _ hx hy
      rw [bl_irrefl] at this
      cases this
    have hab : a = b := by
      rcases List.mem_cons.1 ((h a).1 (by simp)) with e | e
      · exact e
      · rcases List.mem_cons.1 ((h b).2 (by simp)) with e' | e'
        · exact e'.symm
        · exact (nl (h3 _ e) (h1 _ e')).elim
    subst hab
    congr 1
    refine rising_eq h2 h4 fun s => ?_
    have hs := h s
    simp only [List.mem_cons] at hs
    constructor
    · intro hm
      rcases hs.1 (.inr hm) with e | e
      · subst e
        exact (nl (h1 _ hm) (h1 _ hm)).elim
      · exact e
    · intro hm
      rcases hs.2 (.inr hm) with e | e
      · subst e
        exact (nl (h3 _ hm) (h3 _ hm)).elim
      · exact e
theorem mem_strKeys {w : World} {b n : Nat} {D : DataW Unit} (h : w.ownsMap Try.prog 9 (plainElem Try.prog 4) b n D) (x : List UInt8) : x ∈ strKeys D ↔ Maps.has D (.string x) = true := by
  obtain ⟨es, rfl, hk⟩ := h.keysOf
  rw [has_eq, List.any_eq_true]
  constructor
  · intro hx
    obtain ⟨q, hq, he⟩ := List.mem_map.1 hx
    obtain ⟨key, hkey⟩ := hk q hq
    obtain ⟨y, _, hy, _⟩ := Maps.keyOf_str Try.underlying9 hkey
    refine ⟨q, hq, ?_⟩
    rw [hy] at he hkey ⊢
    obtain rfl : y = x := he
    exact WideAt.sameKey_self (law9.key hkey)
  · rintro ⟨q, hq, he⟩
    by_cases e : q.1 = .string x
    · refine List.mem_map.2 ⟨q, hq, ?_⟩
      rw [e]
      rfl
    · rw [sameKey_ne e] at he
      cases he
theorem nodup_strKeys {w : World} {b n : Nat} {D : DataW Unit} (h : w.ownsMap Try.prog 9 (plainElem Try.prog 4) b n D) : (strKeys D).Nodup := by
  have ht := h.tidy law9
  obtain ⟨es, rfl, hk⟩ := h.keysOf
  obtain ⟨es', he, hp⟩ := ht
  injection he with he
  subst he
  unfold List.Nodup
  refine List.pairwise_map.2 (List.Pairwise.imp_of_mem (fun {p q} hp2 hq2 hne => ?_) hp)
  obtain ⟨k1, h1⟩ := hk p hp2
  obtain ⟨k2, h2⟩ := hk q hq2
  obtain ⟨x, _, hx, _⟩ := Maps.keyOf_str Try.underlying9 h1
  obtain ⟨y, _, hy, _⟩ := Maps.keyOf_str Try.underlying9 h2
  rw [hx, hy]
  rw [hx, hy] at hne
  intro hxy
  exact hne (congrArg Lit.string hxy)
def packB (x : List UInt8) : ByteArray := ⟨x.toArray⟩
theorem packB_data (x : List UInt8) : (packB x).data.toList = x := rfl
theorem packB_list (x : List UInt8) : (packB x).toList = x := by rw [toList_data, packB_data]
theorem packB_of (s : ByteArray) : packB s.data.toList = s := eq_of_data rfl
theorem rising_sorted (ss : List (List UInt8)) (h : ss.Nodup) : Rising ((ss.mergeSort fun x y => decide (x ≤ y)).map packB) := by
  have h1 : (ss.mergeSort fun x y => decide (x ≤ y)).Pairwise fun a b => decide (a ≤ b) = true :=
    List.pairwise_mergeSort (fun a b c hab hbc => by simp only [decide_eq_true_eq] at *; exact List.le_trans hab hbc) (fun a b => by simp only [Bool.or_eq_true, decide_eq_true_eq]; exact List.le_total a b) ss
  have h2 : (ss.mergeSort fun x y => decide (x ≤ y)).Nodup := (List.mergeSort_perm ss _).nodup_iff.2 h
  refine List.pairwise_map.2 ((h1.and h2).imp fun {a b} hab => ?_)
  rw [packB_list, packB_list]
  have h3 : a ≤ b := of_decide_eq_true hab.1
  by_cases h4 : Op.bytesLess a b = true
  · exact h4
  · exfalso
    have h5 : ¬ a < b := fun hl => h4 ((bl_lt a b).2 hl)
    exact hab.2 (List.le_antisymm h3 (List.not_lt.1 h5))
set_option maxHeartbeats 1000000 in
set_option maxRecDepth 100000 in
theorem rising_calls (b n : Nat) (p : List UInt8 → Bool) (w : World) (h : SetAt w b n p) (hn : n ≤ 100000) :
    Calls Try.prog 34 #[.map (some b)] w fun e w' => ∃ (v : Value) (rs : List ByteArray), e = .returned v ∧ Kd.R Kd.string 9 w' w.heap.size (fun _ => True) v rs ∧ Rising rs ∧ (∀ s : ByteArray, s ∈ rs ↔ p s.data.toList = true) ∧ rs.length ≤ n ∧ Below w.heap.size w w' := by
  obtain ⟨D, h1, h2, h3⟩ := h
  have hsz := h1.size_le
  have HM := Aside0.mk (fun x => mem_strKeys h1 x)
  have HN := Aside0.mk (nodup_strKeys h1)
  have HL : Aside0 ((strKeys D).length ≤ n) := by
    obtain ⟨es, rfl, _⟩ := h1.keysOf
    refine ⟨?_⟩
    show (es.map _).length ≤ n
    rw [List.length_map]
    exact hsz
  have H2 := Aside0.mk h2
  clear h2 h3
  refine (callsIn_wide (n := 6)).1 ?_
  have hfK : Fence.wide.fn 65 := trivial
  have hfS : Fence.wide.fn 64 := trivial
  refine callsIn_of_wp Try.func34 rfl trivial ?_ rfl
  simp only [Try.ntmps34, List.size_toArray, List.length_cons, List.length_nil, Nat.reduceAdd, Nat.reduceSub, Array.replicate_succ, Array.replicate_zero, List.push_toArray, List.append_toArray, List.nil_append, List.cons_append]
  gi_wp2_with (first
    | (gi_at_call 65; refine (Try.maps_Keys_65 _ _).mono ?_; rintro e w' ⟨rfl, rfl⟩)
    | (gi_at_call 64; refine (Try.slices_Sorted_keys_64_65 b n D _ w h1 (by unfold maxLen; omega) (by omega)).mono ?_; rintro e w' ⟨v, ss, rfl, hS, hrow, hnil, hb⟩))
  go_ret
  have hB : Below w.heap.size w w' := ((Below.refl _ w).alloc (Nat.le_refl _) _).trans (hb.mono (by simp))
  have hlen : ((ss.mergeSort fun x y => decide (x ≤ y)).map packB).length = ss.length := by simp
  refine ⟨v, (ss.mergeSort fun x y => decide (x ≤ y)).map packB, rfl, Kd.R_of_own ?_ (fun _ _ => trivial), rising_sorted ss (hS.nodup_iff.2 HN.out), fun s => ?_, by rw [hlen, hS.length_eq]; exact HL.out, hB⟩
  · rw [hlen]
    have := ownsRow_base_a hrow (show w.heap.size ≤ _ by simp)
    simpa [encs, packB, List.map_map, Function.comp_def] using this
  · rw [← H2.out, ← HM.out, ← hS.mem_iff]
    constructor
    · intro hm
      obtain ⟨x, hx, rfl⟩ := List.mem_map.1 hm
      rw [packB_data]
      exact List.mem_mergeSort.1 hx
    · intro hm
      exact List.mem_map.2 ⟨_, List.mem_mergeSort.2 hm, packB_of s⟩
theorem copy_calls (bd bs nd ns : Nat) (p q : List UInt8 → Bool) (w : World) (hd : SetAt w bd nd p) (hs : SetAt w bs ns q) (hne : bd ≠ bs) (hroom : nd + ns ≤ 100000) :
    Calls Try.prog 31 #[.map (some bd), .map (some bs)] w fun e w' => e = .returned (.tuple #[]) ∧ SetAt w' bd (nd + ns) (fun x => p x || q x) ∧ w.grownBy w' (some bd) := by
  obtain ⟨D, h1, h2, h3⟩ := hd
  obtain ⟨E, g1, g2, g3⟩ := hs
  have hsz := g1.size_le
  refine (AnyX.maps_Copy Try.copy31 law9 (plainElem Try.prog 4) bd bs nd ns D E w h1 g1 hne (by unfold maxLen; omega)).mono ?_
  rintro e w' ⟨rfl, hm, _, hg⟩
  obtain ⟨es, hE, hk⟩ := g1.keysOf
  have hkl : ∀ p ∈ es, WideAt.IsKeyLit p.1 := fun p hp => law9.key (hk p hp).choose_spec
  have ht := g1.tidy law9
  subst hE
  obtain ⟨es', he, hpw⟩ := ht
  injection he with he
  subst he
  have hh : ∀ k, Maps.has (Lib.mergeD D (.map es)) k = (Maps.has D k || Maps.has (.map es) k) := fun k => has_foldPut k es D h1.isMap hkl
  refine ⟨rfl, ⟨_, hm.mono (by omega), fun x => by rw [hh, h2, g2], fun k z hk2 => ?_⟩, hg⟩
  have ha : (Lib.mergeD D (.map es)).atKey k z = (es.find? (fun p => p.1.sameKey k)).elim (D.atKey k z) (·.2) := by
    refine (atKey_foldPut k z es D h1.isMap hkl hpw).trans ?_
    cases es.find? (fun p => p.1.sameKey k) <;> rfl
  rw [ha]
  by_cases hE : Maps.has (.map es) k = true
  · have h5 := g3 k z hE
    unfold DataW.atKey at h5
    rw [has_eq, List.any_eq_true] at hE
    cases hf : es.find? (fun p => p.1.sameKey k) with
    | none =>
      obtain ⟨y, hy, hy2⟩ := hE
      exact absurd hy2 (List.find?_eq_none.1 hf y hy)
    | some y => simpa [hf] using h5
  · have hE2 := eq_false_of_ne_true hE
    rw [hh, hE2, Bool.or_false] at hk2
    have hf : es.find? (fun p => p.1.sameKey k) = none := by
      rw [has_eq] at hE2
      refine List.find?_eq_none.2 fun y hy hy2 => ?_
      have := List.any_eq_false.1 hE2 y hy
      exact this hy2
    rw [hf]
    exact h3 k z hk2
end Go.Proofs.Ytoiedcnhojkpiaa.Q
/- lookup's table: what it is in memory; New and list walked. -/
namespace Go.Proofs.Ytoiedcnhojkpiaa.Q
open Go.RowKit Go.Maps Go.Sort Go.Proofs.YtoiedcnhojkpiaaW.PrintWords Go.Proofs.YtoiedcnhojkpiaaW.PrintLast Go.Proofs.YtoiedcnhojkpiaaW.PrintMore
/-- Which list an id's items are in. -/
def bk (id : ByteArray) : Nat := (bt id 0).toNat
theorem bk_lt (id : ByteArray) : bk id < 256 := by
  have := bt_range id 0
  unfold bk
  omega
def blank : Array Value := Array.replicate 256 (.slice none 0 0)
theorem blank_size : blank.size = 256 := by simp [blank]
/-- Block g is a table: list j is F j, in a row of the call's own from block base on; no two lists lie in one row. -/
def Tab (w : World) (base g : Nat) (F : Nat → List S52) : Prop :=
  ∃ vs : Array Value, vs.size = 256 ∧ w.heap[g]? = some (.cells vs 71 (0, 0)) ∧ (∀ (j : Nat) (v : Value), vs[j]? = some v → Kd.R k52 52 w base (fun _ => True) v (F j)) ∧
    ∀ (i j : Nat) (u v : Value), i ≠ j → vs[i]? = some u → vs[j]? = some v → ∀ k, u.ownBlock = some k → v.ownBlock ≠ some k
theorem Tab.lt {w : World} {base g : Nat} {F : Nat → List S52} (h : Tab w base g F) : g < w.heap.size := by
  obtain ⟨vs, _, hb, _⟩ := h
  exact blk_lt hb
theorem Tab.below {w w' : World} {base g : Nat} {F : Nat → List S52} (h : Tab w base g F) (hb : Below w.heap.size w w') : Tab w' base g F := by
  obtain ⟨vs, h1, h2, h3, h4⟩ := h
  exact ⟨vs, h1, (hb.block g (blk_lt h2)).trans h2, fun j v hv => Kd.R_below (h3 j v hv) hb, h4⟩
theorem Tab.cell {w : World} {base g : Nat} {F : Nat → List S52} (h : Tab w base g F) (j : Nat) (hj : j < 256) : ∃ v, w.cell? ⟨g, j, none⟩ = some v ∧ w.frozen? ⟨g, j, none⟩ = false ∧ Kd.R k52 52 w base (fun _ => True) v (F j) := by
  obtain ⟨vs, h1, h2, h3, _⟩ := h
  have hl : vs[j]? = some vs[j] := Array.getElem?_eq_getElem (by omega)
  exact ⟨vs[j], (blk_cell h2 j).trans hl, blk_frozen h2 j, h3 j _ hl⟩
set_option maxHeartbeats 4000000 in
set_option maxRecDepth 100000 in
theorem new_calls (w : World) : Calls Try.prog 7 #[] w fun e w' => e = .returned (.pointer (some ⟨w.heap.size, 0, none⟩)) ∧ w' = w.alloc (.cells blank 71) := by
  have hz : ∀ w, (zeroValue 71).run Try.prog w = .ok (.agg blank) w := fun w => by kernel_rfl
  go_enter Try.func7, Try.ntmps7
  go_wp2
  go_ret
  exact ⟨rfl, rfl⟩
theorem Tab.made (w : World) (base : Nat) : Tab (w.alloc (.cells blank 71)) base w.heap.size (fun _ => []) := by
  have hb : ∀ (j : Nat) (v : Value), blank[j]? = some v → v = .slice none 0 0 := fun j v h => by
    unfold blank at h
    rw [Array.getElem?_replicate] at h
    split at h
    · injection h with h; exact h.symm
    · cases h
  refine ⟨blank, blank_size, (MapKept.heap_alloc w _).1, fun j v h => ?_, fun i j u v _ hu _ k hk => ?_⟩
  · rw [hb j v h]
    exact Kd.R_nil k52 52 _ _ _
  · rw [hb i u hu] at hk
    cases hk
set_option maxHeartbeats 4000000 in
set_option maxRecDepth 100000 in
theorem list_calls (g : Nat) (id : ByteArray) (w : World) (vs : Array Value) (hb : w.heap[g]? = some (.cells vs 71 (0, 0))) :
    Calls Try.prog 24 #[.pointer (some ⟨g, 0, none⟩), .string id] w fun e w' => e = .returned (.pointer (some ⟨g, bk id, none⟩)) ∧ Drawn0 w w' := by
  by_cases h0 : id.size = 0
  · have hi : id = ⟨#[]⟩ := by
      cases id with | mk d => exact congrArg ByteArray.mk (Array.size_eq_zero_iff.1 h0)
    subst hi
    have hk : bk ⟨#[]⟩ = 0 := by decide
    rw [hk]
    have hc := blk_cell hb 0
    go_enter Try.func24, Try.ntmps24
    go_wp2
    go_ret
    exact ⟨rfl, Drawn0.refl _⟩
  · have hlt : 0 < id.size := by omega
    have hne : (id.toList == []) = false := by
      rw [toList_data]
      refine beq_eq_false_iff_ne.2 fun e => h0 ?_
      rw [← data_length, e]
      rfl
    have hne2 : id.toList.isEmpty = false := by
      rw [toList_data]
      cases hd : id.data.toList with
      | nil => rw [← data_length, hd] at h0; exact absurd rfl h0
      | cons a b => rfl
    have hbk : bk id = (id[0]).toNat := by unfold bk bt; simp [hlt]
    rw [hbk]
    have h256 : (id[0]).toNat < 256 := (id[0]).toNat_lt
    generalize hx : id[0] = x at h256 ⊢
    have hc := blk_cell hb x.toNat
    go_enter Try.func24, Try.ntmps24
    go_wp2
    go_quiet (fail)
    go_wp2
    go_ret
    exact ⟨rfl, by repeat (first | exact Drawn0.refl _ | apply Drawn0.step)⟩
end Go.Proofs.Ytoiedcnhojkpiaa.Q
