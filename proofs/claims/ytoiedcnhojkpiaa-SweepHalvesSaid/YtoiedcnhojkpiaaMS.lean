/- Of the proofs about sweep: several texts, joined. -/
import Derived.Test.YtoiedcnhojkpiaaMN
import Derived.Test.YtoiedcnhojkpiaaMA
namespace Go.Proofs.Ytoiedcnhojkpiaa.Q
open Go.RowKit Go.Maps Go.Proofs.YtoiedcnhojkpiaaW.PrintWords Go.Proofs.YtoiedcnhojkpiaaW.PrintLast Go.Proofs.YtoiedcnhojkpiaaW.PrintMore
def iD (a : Int) : DataW Unit := .lit (.int .i64 a)
def iElem : Value → Option (DataW Unit × List MemPlace)
  | .int .i64 a => some (iD a, [])
  | _ => none
theorem iElem_mk (a : Int) : iElem (.int .i64 a) = some (iD a, []) := rfl
theorem iElem_inv {v : Value} {a : Int} {ps : List MemPlace} (h : iElem v = some (iD a, ps)) : v = .int .i64 a := by
  unfold iElem at h
  split at h
  · simp only [iD, Option.some.injEq, Prod.mk.injEq, DataW.lit.injEq, Lit.int.injEq, true_and] at h
    rw [h.1]
  · cases h
theorem zero3 (w : World) : (zeroValue 3).run Try.prog w = .ok (.int .i64 0) w := by kernel_rfl
/-- Block b is a map of at most n entries that reads as f, 0 where it has none. -/
def IAt (w : World) (b n : Nat) (f : List UInt8 → Int) : Prop :=
  ∃ D : DataW Unit, w.ownsMap Try.prog 9 iElem b n D ∧ ∀ x, (Maps.has D (.string x) = true ∧ ∀ z, D.atKey (.string x) z = iD (f x)) ∨ (Maps.has D (.string x) = false ∧ f x = 0)
theorem IAt.made (w : World) : IAt (w.alloc (.map #[] 0)) w.heap.size 0 (fun _ => 0) := ⟨_, World.ownsMap_made w _ _ _, fun _ => .inr ⟨rfl, rfl⟩⟩
theorem IAt.lt {w : World} {b n : Nat} {f : List UInt8 → Int} (h : IAt w b n f) : b < w.heap.size := h.choose_spec.1.lt
theorem IAt.kept {w w' : World} {b n : Nat} {f : List UInt8 → Int} {row : Option Nat} (h : IAt w b n f) (hg : w.grownBy w' row) (hne : some b ≠ row) : IAt w' b n f := by
  obtain ⟨D, h1, h2⟩ := h
  exact ⟨D, h1.kept hg hne, h2⟩
theorem IAt.below {w w' : World} {b n : Nat} {f : List UInt8 → Int} (h : IAt w b n f) (hb : Below w.heap.size w w') : IAt w' b n f := h.kept (grown_of_below hb none) (by simp)
theorem IAt.congr {w : World} {b n : Nat} {f g : List UInt8 → Int} (h : IAt w b n f) (hfg : ∀ x, f x = g x) : IAt w b n g := by
  rwa [show g = f from funext fun x => (hfg x).symm]
section
variable (w : World) {ops : Array Oper} {rest : List Oper} {o : Oper} {a : Act} {Q : Exit → Act → World → Prop}
theorem IAt.look {w : World} {t b n : Nat} {f : List UInt8 → Int} {s : ByteArray} (h : IAt w b n f) (ht : Try.prog.underlying t = some (.map 9 3)) (hs : s.size ≤ maxLen) : (Instr.lookup t (.map (some b)) (.string s) false).run Try.prog w = .ok (.int .i64 (f s.data.toList)) w := by
  obtain ⟨D, h1, h2⟩ := h
  obtain ⟨v, ps, hrun, hR⟩ := h1.lookup law9 ht (zero3 w) (iElem_mk 0) (WideMaps.keyOf_string_mk Try.underlying9 hs)
  rcases h2 s.data.toList with ⟨_, h3⟩ | ⟨h3, h4⟩
  · rw [h3] at hR
    rw [hrun, iElem_inv hR]
  · rw [atKey_of_not_has h3] at hR
    rw [hrun, iElem_inv hR, h4]
theorem wpList_lookup_i (hg : o.guard = none) (m x : Operand) (t : TypeId) (hop : o.op = Op.lookup t m x false) (ht : Try.prog.underlying t = some (.map 9 3)) (b n : Nat) (f : List UInt8 → Int)
    (hm : a.eval m = .map (some b)) (hown : IAt w b n f) (s : ByteArray) (hs : s.size ≤ maxLen) (hx : a.eval x = .string s)
    (hK : wpList Try.prog ops Q rest (a.put o.dst (.int .i64 (f s.data.toList))) w) : wpList Try.prog ops Q (o :: rest) a w := by
  refine wpList_plain hg fun K' hK' => ?_
  have hrun := hown.look ht hs
  unfold Oper.wp
  simp [execOp, hop, hm, hx, hrun, Result.andThen]
  exact hK' _ _ hK
theorem wpList_lookup_iG (hwant : Region.wanted o (yielded ops a.tmps) = true) (m x : Operand) (t : TypeId) (hop : o.op = Op.lookup t m x false) (ht : Try.prog.underlying t = some (.map 9 3)) (b n : Nat) (f : List UInt8 → Int)
    (hm : a.eval m = .map (some b)) (hown : IAt w b n f) (s : ByteArray) (hs : s.size ≤ maxLen) (hx : a.eval x = .string s)
    (hK : wpList Try.prog ops Q rest (a.put o.dst (.int .i64 (f s.data.toList))) w) : wpList Try.prog ops Q (o :: rest) a w := by
  refine wpList_step fun K' hK' => ?_
  rw [if_pos hwant]
  have hrun := hown.look ht hs
  unfold Oper.wp
  simp [execOp, hop, hm, hx, hrun, Result.andThen]
  exact hK' _ _ hK
theorem IAt.put {w w' : World} {b n : Nat} {D : DataW Unit} {f : List UInt8 → Int} {s : ByteArray} {v : Int} (h1 : w.ownsMap Try.prog 9 iElem b n D) (h2 : ∀ x, (Maps.has D (.string x) = true ∧ ∀ z, D.atKey (.string x) z = iD (f x)) ∨ (Maps.has D (.string x) = false ∧ f x = 0)) (hs : s.size ≤ maxLen) (hw : w'.ownsMap Try.prog 9 iElem b (n + 1) (D.put (.string s.data.toList) (iD v))) : IAt w' b (n + 1) (fun y => if y = s.data.toList then v else f y) := by
  have hk : WideAt.IsKeyLit (.string s.data.toList) := law9.key (WideMaps.keyOf_string_mk (P := Try.prog) Try.underlying9 hs)
  refine ⟨_, hw, fun y => ?_⟩
  by_cases e : y = s.data.toList
  · subst e
    exact .inl ⟨has_put_same h1.isMap hk _, fun z => by rw [atKey_put_same h1.isMap hk]; simp⟩
  · have hne : Lit.string y ≠ Lit.string s.data.toList := fun h => e (by injection h)
    rcases h2 y with ⟨h3, h4⟩ | ⟨h3, h4⟩
    · exact .inl ⟨by rw [has_put_other hne]; exact h3, fun z => by rw [atKey_put_other hne, h4]; simp [e]⟩
    · exact .inr ⟨by rw [has_put_other hne]; exact h3, by simp [e, h4]⟩
theorem wpList_update_i (hg : o.guard = none) (m x v : Operand) (t : TypeId) (hop : o.op = Op.mapUpdate t m x v) (ht : Try.prog.underlying t = some (.map 9 3)) (b n : Nat) (f : List UInt8 → Int)
    (hm : a.eval m = .map (some b)) (hown : IAt w b n f) (hn : n < maxLen) (s : ByteArray) (hs : s.size ≤ maxLen) (hx : a.eval x = .string s) (p : Int) (hv : a.eval v = .int .i64 p)
    (hK : ∀ w', IAt w' b (n + 1) (fun y => if y = s.data.toList then p else f y) → w.grownBy w' (some b) → wpList Try.prog ops Q rest (a.put o.dst undef) w') : wpList Try.prog ops Q (o :: rest) a w := by
  obtain ⟨D, h1, h2⟩ := hown
  exact wpList_mapUpdate_own w hg m x v t hop 9 3 law9 ht _ b n D hm h1 hn _ _ _ hx hv (WideMaps.keyOf_string_mk (P := Try.prog) Try.underlying9 hs) (iD p) [] (iElem_mk p) (fun w' hw hgw => hK w' (IAt.put h1 h2 hs hw) hgw)
end
/-! ### The plain law -/
/-- What a map says into which pairs were stored, each key once. -/
def fm (E : List (ByteArray × Int)) (x : List UInt8) : Int := match E.find? (fun e => e.1.data.toList == x) with
  | some e => e.2
  | none => 0
theorem fm_absent {E : List (ByteArray × Int)} {s : ByteArray} (h : s ∉ E.map (·.1)) : fm E s.data.toList = 0 := by
  unfold fm
  rw [List.find?_eq_none.2 fun e he hh => h (by rw [← eq_of_data (beq_iff_eq.1 hh)]; exact List.mem_map_of_mem he)]
theorem fm_snoc {E : List (ByteArray × Int)} {s : ByteArray} {v : Int} (h : s ∉ E.map (·.1)) (x : List UInt8) : (if x = s.data.toList then v else fm E x) = fm (E ++ [(s, v)]) x := by
  unfold fm
  rw [List.find?_append]
  by_cases e : x = s.data.toList
  · subst e
    rw [if_pos rfl, List.find?_eq_none.2 fun e he hh => h (by rw [← eq_of_data (beq_iff_eq.1 hh)]; exact List.mem_map_of_mem he)]
    simp
  · rw [if_neg e]
    have : List.find? (fun e => e.1.data.toList == x) [(s, v)] = none := by
      simp only [List.find?_cons, List.find?_nil]
      have h2 : (s.data.toList == x) = false := beq_eq_false_iff_ne.2 fun h => e h.symm
      rw [h2]
    rw [this, Option.or_none]
theorem fm_at {E : List (ByteArray × Int)} {s : ByteArray} {v : Int} (hn : (E.map (·.1)).Nodup) (h : (s, v) ∈ E) : fm E s.data.toList = v := by
  induction E with
  | nil => cases h
  | cons a E ih =>
    obtain ⟨h1, h2⟩ := List.nodup_cons.1 hn
    unfold fm
    rw [List.find?_cons]
    rcases List.mem_cons.1 h with e | e
    · subst e
      simp
    · have hne : (a.1.data.toList == s.data.toList) = false := beq_eq_false_iff_ne.2 fun hh => h1 (by show a.1 ∈ _; rw [eq_of_data hh]; exact List.mem_map_of_mem e)
      rw [hne]
      exact ih h2 e
theorem take_keys {E : List (ByteArray × Int)} (hn : (E.map (·.1)).Nodup) {m : Nat} {s : ByteArray} {v : Int} (h : E[m]? = some (s, v)) : s ∉ (E.take m).map (·.1) ∧ E.take (m + 1) = E.take m ++ [(s, v)] := by
  have hm := (List.getElem?_eq_some_iff.1 h).1
  have he := (List.getElem?_eq_some_iff.1 h).2
  refine ⟨fun hh => ?_, by rw [List.take_succ_eq_append_getElem hm, he]⟩
  have hs := List.take_append_drop m E
  rw [← hs, List.map_append, List.nodup_append] at hn
  refine hn.2.2 s hh s ?_ rfl
  rw [List.drop_eq_getElem_cons hm, he, List.map_cons]
  exact List.mem_cons_self
end Go.Proofs.Ytoiedcnhojkpiaa.Q
/- SweepHalves, without memory: each pack in just one way, each reachable id that has a place stays or moves. -/
namespace Go.Proofs.Ytoiedcnhojkpiaa.Q
open Go.RowKit Go.Maps Go.Proofs.YtoiedcnhojkpiaaW.PrintWords Go.Proofs.YtoiedcnhojkpiaaW.PrintLast Go.Proofs.YtoiedcnhojkpiaaW.PrintMore
theorem rising_nodup {l : List ByteArray} (h : Rising l) : l.Nodup := h.imp fun {a b} hab e => by rw [e, bl_irrefl] at hab; cases hab
theorem cmp_lt {a b : ByteArray} (h : cmpS a b < 0) : Op.bytesLess a.toList b.toList = true := by
  unfold cmpS at h
  split at h
  · assumption
  · split at h <;> omega
theorem ids_rising : ∀ (l : List S52) (o : List ByteArray), Sorted l → Rising o → (∀ s ∈ o, ∀ x ∈ l, s = x.f0 ∨ Op.bytesLess s.toList x.f0.toList = true) → Rising (l.foldl idStep o)
  | [], o, _, hr, _ => hr
  | x :: l, o, hs, hr, hb => by
    obtain ⟨h1, h2⟩ := List.pairwise_cons.1 hs
    rw [List.foldl_cons]
    have hx : ∀ y ∈ l, x.f0 = y.f0 ∨ Op.bytesLess x.f0.toList y.f0.toList = true := fun y hy => by
      rcases ordS_id (h1 y hy) with e | e
      · exact .inl e
      · exact .inr (cmp_lt e)
    have tr : ∀ s, (s = x.f0 ∨ Op.bytesLess s.toList x.f0.toList = true) → ∀ y ∈ l, s = y.f0 ∨ Op.bytesLess s.toList y.f0.toList = true := fun s h y hy => by
      rcases h with e | e
      · rw [e]; exact hx y hy
      · rcases hx y hy with e2 | e2
        · rw [← e2]; exact .inr e
        · exact .inr (bl_trans _ _ _ e e2)
    unfold idStep
    split
    · exact ids_rising l o h2 hr (fun s hso y hy => tr s (hb s hso x (by simp)) y hy)
    · rename_i hl
      have hlt : ∀ s ∈ o, Op.bytesLess s.toList x.f0.toList = true := fun s hso => by
        rcases hb s hso x (by simp) with e | e
        · exfalso
          obtain ⟨a, b, hab⟩ := List.append_of_mem hso
          cases b with
          | nil =>
            apply hl
            rw [hab, e]
            simp
          | cons t b =>
            have ht : t ∈ o := by rw [hab]; simp
            rw [hab] at hr
            have hst : Op.bytesLess s.toList t.toList = true := (List.pairwise_cons.1 ((List.pairwise_append.1 hr).2.1)).1 t (by simp)
            rcases hb t ht x (by simp) with e2 | e2
            · rw [e, e2, bl_irrefl] at hst; cases hst
            · have := bl_trans _ _ _ hst e2
              rw [e, bl_irrefl] at this
              cases this
        · exact e
      refine ids_rising l (o ++ [x.f0]) h2 (List.pairwise_append.2 ⟨hr, List.pairwise_singleton _ _, fun s hso t ht => by rw [List.mem_singleton.1 ht]; exact hlt s hso⟩) (fun s hso y hy => ?_)
      rcases List.mem_append.1 hso with h | h
      · exact tr s (.inr (hlt s h)) y hy
      · rw [List.mem_singleton.1 h]; exact hx y hy
theorem ids_nodup {L : List S52} (h : Sorted L) : (idsOf L).Nodup := rising_nodup (ids_rising L [] h List.Pairwise.nil (by simp))
theorem stay_keys (L : List S52) (r k : List UInt8 → Bool) (ids : List ByteArray) : (rstayL L r k ids).map (·.f0) = ids.filter fun id => (rstayQ (r id.data.toList) k (places L id)).2 := by
  unfold rstayL
  rw [List.map_filterMap]
  induction ids with
  | nil => rfl
  | cons a ids ih =>
    rw [List.filterMap_cons, List.filter_cons]
    by_cases h : (rstayQ (r a.data.toList) k (places L a)).2 = true
    · simp only [h, if_true, Option.map_some]
      rw [ih]
    · simp only [h, if_false, Option.map_none, Bool.false_eq_true]
      exact ih
theorem fated_one {f : List UInt8 → Int × Int} {pc : Int} {n : Nat} {l : List ByteArray} {s : ByteArray} : s ∈ fated f pc n l ↔ s ∈ l ∧ fate f pc s = n := by
  unfold fated
  rw [List.mem_filter, beq_iff_eq]
theorem live_used (L : List S52) (reach : List UInt8 → Bool) (p : ByteArray) : ∀ (l : List S52) (q : Int × Int), (∀ y ∈ l, 0 ≤ y.f1.f3) → q.1 ≤ (l.foldl (rStep L reach p) q).1 ∧ ∀ x ∈ l, x.f1.f0 = p → live L reach x = true → q.1 + x.f1.f3 ≤ (l.foldl (rStep L reach p) q).1
  | [], q, _ => ⟨Int.le_refl _, fun x hx => by cases hx⟩
  | a :: l, q, h => by
    have ha := h a (by simp)
    obtain ⟨h1, h2⟩ := live_used L reach p l (rStep L reach p q a) (fun y hy => h y (by simp [hy]))
    rw [List.foldl_cons]
    have hq : q.1 ≤ (rStep L reach p q a).1 := by unfold rStep; split <;> (try split) <;> simp <;> omega
    refine ⟨Int.le_trans hq h1, fun x hx hp hl => ?_⟩
    rcases List.mem_cons.1 hx with e | e
    · subst e
      have : (rStep L reach p q x).1 = q.1 + x.f1.f3 := by unfold rStep; rw [if_pos hp, if_pos hl]
      omega
    · have := h2 x e hp hl
      omega
section
variable (L : List S52) (lr lp : List ByteArray) (pc : Int)
def fT : List (ByteArray × Int) := (pFate 0 L lr lp pc).map (fun s => (s, 1)) ++ (pFate 1 L lr lp pc).map (fun s => (s, 2)) ++ (pFate 2 L lr lp pc).map (fun s => (s, 3))
def sU : List (ByteArray × Int) := (pStay L lr lp pc).map (fun x => (x.f0, 1)) ++ (pMove L lr lp pc).map (fun s => (s, 2))
variable {L lr lp pc}
theorem pFate_mem (ho : okP pc = true) {n : Nat} {s : ByteArray} : s ∈ pFate n L lr lp pc ↔ s ∈ pkL L lp ∧ fate (rF L (memb lr)) pc s = n := by
  unfold pFate
  rw [if_pos ho, fated_one]
theorem pFate_nodup (ho : okP pc = true) (n : Nat) : (pFate n L lr lp pc).Nodup := by
  unfold pFate fated
  rw [if_pos ho]
  exact (rising_nodup (risL_rising _)).filter _
theorem fT_keys : (fT L lr lp pc).map (·.1) = pFate 0 L lr lp pc ++ pFate 1 L lr lp pc ++ pFate 2 L lr lp pc := by
  unfold fT
  simp [List.map_append, Function.comp_def]
theorem fT_nodup (ho : okP pc = true) : ((fT L lr lp pc).map (·.1)).Nodup := by
  rw [fT_keys, List.nodup_append, List.nodup_append]
  refine ⟨⟨pFate_nodup ho 0, pFate_nodup ho 1, fun a ha b hb e => ?_⟩, pFate_nodup ho 2, fun a ha b hb e => ?_⟩
  · subst e
    have h1 := ((pFate_mem ho).1 ha).2
    have h2 := ((pFate_mem ho).1 hb).2
    omega
  · subst e
    have h2 := ((pFate_mem ho).1 hb).2
    rcases List.mem_append.1 ha with h | h
    · have h1 := ((pFate_mem ho).1 h).2
      omega
    · have h1 := ((pFate_mem ho).1 h).2
      omega
theorem fT_keep (ho : okP pc = true) {s : ByteArray} (h : s ∈ pFate 2 L lr lp pc) : fm (fT L lr lp pc) s.data.toList = 3 := fm_at (fT_nodup ho) (by unfold fT; exact List.mem_append_right _ (List.mem_map_of_mem (f := fun s => (s, (3 : Int))) h))
theorem fT_rew (ho : okP pc = true) {s : ByteArray} (h : s ∈ pFate 1 L lr lp pc) : fm (fT L lr lp pc) s.data.toList = 2 := fm_at (fT_nodup ho) (by unfold fT; exact List.mem_append_left _ (List.mem_append_right _ (List.mem_map_of_mem (f := fun s => (s, (2 : Int))) h)))
theorem stay_iff (ho : okP pc = true) {x : S52} : x ∈ pStay L lr lp pc ↔ x.f0 ∈ idsOf L ∧ rstayQ (memb lr x.f0.data.toList) (memb (pFate 2 L lr lp pc)) (places L x.f0) = (x.f1, true) := by
  unfold pStay pFate rstayL
  rw [if_pos ho, if_pos ho, List.mem_filterMap]
  constructor
  · rintro ⟨id, hid, h⟩
    split at h
    · rename_i hs
      injection h with h
      subst h
      exact ⟨hid, Prod.ext rfl hs⟩
    · cases h
  · rintro ⟨h1, h2⟩
    exact ⟨x.f0, h1, by rw [h2]; rfl⟩
theorem move_iff (ho : okP pc = true) {id : ByteArray} : id ∈ pMove L lr lp pc ↔ id ∈ idsOf L ∧ memb lr id.data.toList = true ∧ (getP L id).1.f0 ∈ pFate 1 L lr lp pc := by
  unfold pMove pFate rmoveL
  rw [if_pos ho, if_pos ho, List.mem_filter, Bool.and_eq_true, memb_iff (fated _ _ _ _)]
theorem firstK_kept (kept : List UInt8 → Bool) : ∀ (l : List S50) (p : S50), firstK kept l = (p, true) → p ∈ l ∧ kept p.f0.data.toList = true
  | [], p, h => by simp [firstK] at h
  | q :: l, p, h => by
    unfold firstK at h
    split at h
    · rename_i hk
      injection h with h _
      subst h
      exact ⟨by simp, hk⟩
    · obtain ⟨h1, h2⟩ := firstK_kept kept l p h
      exact ⟨by simp [h1], h2⟩
theorem stayQ_cons (r : Bool) (kept : List UInt8 → Bool) (p : S50) (ps : List S50) : rstayQ r kept (p :: ps) = if r then (p, kept p.f0.data.toList) else firstK kept (p :: ps) := rfl
theorem stayQ_kept {r : Bool} {kept : List UInt8 → Bool} {l : List S50} {p : S50} (h : rstayQ r kept l = (p, true)) : p ∈ l ∧ kept p.f0.data.toList = true := by
  cases l with
  | nil => simp [rstayQ] at h
  | cons q l =>
    rw [stayQ_cons] at h
    cases r with
    | true =>
      rw [if_pos rfl] at h
      injection h with h1 h2
      subst h1
      exact ⟨by simp, h2⟩
    | false =>
      rw [if_neg (by decide)] at h
      exact firstK_kept kept _ p h
theorem stay_fate (ho : okP pc = true) {x : S52} (h : x ∈ pStay L lr lp pc) : fm (fT L lr lp pc) x.f1.f0.data.toList = 3 :=
  fT_keep ho ((memb_iff _ _).1 (stayQ_kept ((stay_iff ho).1 h).2).2)
theorem move_get (ho : okP pc = true) {id : ByteArray} (h : id ∈ pMove L lr lp pc) : (getP L id).2 = true ∧ fm (fT L lr lp pc) (getP L id).1.f0.data.toList = 2 := by
  obtain ⟨h1, _, h3⟩ := (move_iff ho).1 h
  refine ⟨?_, fT_rew ho h3⟩
  obtain ⟨x, hx, rfl⟩ := (idsOf_mem _ _).1 h1
  obtain ⟨p, ps, hp⟩ := places_ne L x hx
  unfold getP
  rw [hp]
theorem sU_keys : (sU L lr lp pc).map (·.1) = (pStay L lr lp pc).map (·.f0) ++ pMove L lr lp pc := by
  unfold sU
  simp [List.map_append, Function.comp_def]
theorem sU_nodup (ho : okP pc = true) (hL : Sorted L) : ((sU L lr lp pc).map (·.1)).Nodup := by
  rw [sU_keys, List.nodup_append]
  refine ⟨?_, ?_, fun a ha b hb e => ?_⟩
  · unfold pStay
    rw [if_pos ho, stay_keys]
    exact (ids_nodup hL).filter _
  · unfold pMove rmoveL
    rw [if_pos ho]
    exact (ids_nodup hL).filter _
  · subst e
    obtain ⟨x, hx, rfl⟩ := List.mem_map.1 ha
    obtain ⟨h1, h2⟩ := (stay_iff ho).1 hx
    obtain ⟨_, h3, h4⟩ := (move_iff ho).1 hb
    obtain ⟨y, hy, hyx⟩ := (idsOf_mem _ _).1 h1
    obtain ⟨p, ps, hp⟩ := places_ne L y hy
    rw [hyx] at hp
    rw [hp, h3, stayQ_cons, if_pos rfl] at h2
    injection h2 with h5 h6
    have h7 : (getP L x.f0).1 = p := by unfold getP; rw [hp]
    rw [h7] at h4
    have f1 := ((pFate_mem ho).1 h4).2
    have f2 := ((pFate_mem ho).1 ((memb_iff _ _).1 h6)).2
    omega
theorem reach_told (ho : okP pc = true) (hL : Sorted L) (hc : ∀ x ∈ L, chk x = true) {id : ByteArray} (hid : id ∈ lr) (hg : (getP L id).2 = true) : fm (sU L lr lp pc) id.data.toList ≠ 0 := by
  obtain ⟨p, ps, hp⟩ : ∃ p ps, places L id = p :: ps := by
    unfold getP at hg
    cases h : places L id with
    | nil => rw [h] at hg; cases hg
    | cons p ps => exact ⟨p, ps, rfl⟩
  have hpm : p ∈ places L id := by rw [hp]; simp
  obtain ⟨x, hx, hxp⟩ := List.mem_map.1 hpm
  obtain ⟨hxL, hxi⟩ := List.mem_filter.1 hx
  have hxi : x.f0 = id := of_decide_eq_true hxi
  have hgp : (getP L id).1 = p := by unfold getP; rw [hp]
  have hids : id ∈ idsOf L := (idsOf_mem _ _).2 ⟨x, hxL, hxi⟩
  have hre : memb lr id.data.toList = true := (memb_iff _ _).2 hid
  have hlive : live L (memb lr) x = true := by
    unfold live
    rw [hxi, hre, hgp, Bool.true_and]
    exact (eq50_iff _ _).2 hxp.symm
  have hu := (live_used L (memb lr) p.f0 L (0, 0) (fun y hy => by have := size32 (hc y hy); omega)).2 x hxL (by rw [hxp]) hlive
  have h3 := size32 (hc x hxL)
  have hpk : p.f0 ∈ pkL L lp := by
    unfold pkL
    rw [risL_mem, List.mem_append, List.mem_map]
    exact .inr ⟨x, hxL, by rw [hxp]⟩
  have hne : (rF L (memb lr) p.f0.data.toList).1 ≠ 0 := by
    rw [rF_of]
    unfold rW
    simp only at hu
    omega
  have hf : fate (rF L (memb lr)) pc p.f0 = 2 ∨ fate (rF L (memb lr)) pc p.f0 = 1 := by
    unfold fate
    rw [if_neg hne]
    split
    · exact .inl rfl
    · exact .inr rfl
  rcases hf with hf | hf
  · have hk : memb (pFate 2 L lr lp pc) p.f0.data.toList = true := (memb_iff _ _).2 ((pFate_mem ho).2 ⟨hpk, hf⟩)
    have hs : (⟨id, p⟩ : S52) ∈ pStay L lr lp pc := (stay_iff ho).2 ⟨hids, by
      show rstayQ (memb lr id.data.toList) (memb (pFate 2 L lr lp pc)) (places L id) = (p, true)
      rw [hp, hre, stayQ_cons, if_pos rfl, hk]⟩
    rw [fm_at (sU_nodup ho hL) (v := 1) (by unfold sU; exact List.mem_append_left _ (List.mem_map_of_mem (f := fun x : S52 => (x.f0, (1 : Int))) hs))]
    decide
  · have hm : id ∈ pMove L lr lp pc := (move_iff ho).2 ⟨hids, hre, by rw [hgp]; exact (pFate_mem ho).2 ⟨hpk, hf⟩⟩
    rw [fm_at (sU_nodup ho hL) (v := 2) (by unfold sU; exact List.mem_append_right _ (List.mem_map_of_mem (f := fun s : ByteArray => (s, (2 : Int))) hm))]
    decide
theorem drop_same {pc' : Int} (ho : okP pc = true) (ho' : okP pc' = true) : pFate 0 L lr lp pc = pFate 0 L lr lp pc' := by
  unfold pFate fated
  rw [if_pos ho, if_pos ho']
  congr 1
  funext s
  unfold fate
  split
  · rfl
  · split <;> split <;> rfl
theorem rew_less {pc' : Int} (ho : okP pc = true) (ho' : okP pc' = true) (h : pc' ≤ pc) (hc : ∀ x ∈ L, chk x = true) : (pFate 1 L lr lp pc).length ≤ (pFate 1 L lr lp pc').length := by
  unfold pFate fated
  rw [if_pos ho, if_pos ho', ← List.countP_eq_length_filter, ← List.countP_eq_length_filter]
  refine List.countP_mono_left fun s _ hs => ?_
  rw [beq_iff_eq] at hs ⊢
  have hb := (rW_bound L (memb lr) s L (0, 0) 0 (fun y hy => by have := size32 (hc y hy); omega) (by simp)).2.2.1
  rw [← rW, ← rF_of] at hb
  unfold fate at hs ⊢
  split at hs
  · cases hs
  · rename_i h0
    rw [if_neg h0]
    split at hs
    · cases hs
    · rename_i h1
      rw [if_neg]
      intro h2
      have := Int.mul_le_mul_of_nonneg_right h hb
      exact h1 (Int.le_trans h2 this)
end
end Go.Proofs.Ytoiedcnhojkpiaa.Q
-- Made by wip/qprint.sh (a patched copy of the kit's print program) out of the translation. Lean checks it.
namespace Go.Proofs.Ytoiedcnhojkpiaa.Q
open Go.RowKit Go.Proofs.YtoiedcnhojkpiaaW.PrintWords Go.Proofs.YtoiedcnhojkpiaaW.PrintLast Go.Proofs.YtoiedcnhojkpiaaW.PrintMore
attribute [local go_sem] max2_int min2_int max_two min_two max_three min_three max_four min_four   -- for this text's walks alone
set_option linter.unusedVariables false
set_option linter.unusedSimpArgs false

/-! ### garretbook_Among: function 17 -/
def garretbook_Among.f (a0 : Int) (a1 : Int) : Option (Int) := if a1 = 0 then (none) else (some (Int.tmod (wrap64 ((Int.tmod a0 a1) + a1)) a1))
set_option maxHeartbeats 8000000 in
set_option maxRecDepth 100000 in
theorem garretbook_Among.calls (a0 : Int) (a1 : Int) (r : Int) (w : World) (h : garretbook_Among.f a0 a1 = some r) :
    Calls Try.prog 17 #[.int .i64 a0, .int .i64 a1] w fun e w' => e = .returned (.int .i64 r) ∧ Drawn0 w w' := by
  have H : (if a1 = 0 then (none) else (some (Int.tmod (wrap64 ((Int.tmod a0 a1) + a1)) a1))) = some r := h
  clear h
  by_cases c3 : a1 = 0
  · rw [if_pos c3] at H
    exact absurd H (by simp)
  · rw [if_neg c3] at H
    have c3b0 : (a1 == 0) = false := beq_eq_false_iff_ne.mpr c3
    have c3b1 : (a1 != 0) = true := bne_iff_ne.mpr c3
    obtain rfl := Option.some.inj H
    go_enter Try.func17, Try.ntmps17
    go_wp2
    go_ret
    exact ⟨by first | rfl | (simp; done) | (simp [*]; done), by repeat (first | exact Drawn0.refl _ | apply Drawn0.step)⟩

end Go.Proofs.Ytoiedcnhojkpiaa.Q
/- The law SweepHalves, walked. -/
namespace Go.Proofs.Ytoiedcnhojkpiaa.Q
open Go.RowKit Go.Maps Go.Proofs.YtoiedcnhojkpiaaW.PrintWords Go.Proofs.YtoiedcnhojkpiaaW.PrintLast Go.Proofs.YtoiedcnhojkpiaaW.PrintMore
theorem among_calls (x : Int) (w : World) : Calls Try.prog 17 #[.int .i64 x, .int .i64 101] w fun e w' => ∃ r : Int, e = .returned (.int .i64 r) ∧ 0 ≤ r ∧ r ≤ 100 ∧ Below w.heap.size w w' := by
  have h1 := Int.tmod_lt_of_pos x (b := 101) (by decide)
  have h2 := Int.lt_tmod_of_pos x (b := 101) (by decide)
  have h3 : wrap64 (Int.tmod x 101 + 101) = Int.tmod x 101 + 101 := by unfold wrap64; omega
  refine (garretbook_Among.calls x 101 (Int.tmod (Int.tmod x 101 + 101) 101) w (by unfold garretbook_Among.f; rw [if_neg (by decide), h3])).mono fun e w' ⟨he, hd⟩ => ⟨_, he, ?_, ?_, hd.below⟩
  · rw [Int.tmod_eq_emod_of_nonneg (by omega)]; omega
  · rw [Int.tmod_eq_emod_of_nonneg (by omega)]; omega
theorem halves_box (A1 A2 : Option Addr) (c1 c2 n1 n2 : Nat) (w : World) : (w.alloc (.cells #[.slice A1 n1 c1, .slice A2 n2 c2] 24)).cell? ⟨w.heap.size, 0, none⟩ = some (.slice A1 n1 c1) := (blk_cell (MapKept.heap_alloc w _).1 0).trans rfl
theorem pkh_len (L : List S52) (lp : List ByteArray) : (pkL L lp).length ≤ lp.length + L.length := by
  unfold pkL risL
  have := packsOf_len ((lp ++ L.map fun x => x.f1.f0).map fun s => (⟨s, ⟨s, 0, 0, 0, 0⟩⟩ : S52))
  simpa using this
theorem hFate_len (n : Nat) (L : List S52) (lr lp : List ByteArray) (percent : Int) : (pFate n L lr lp percent).length ≤ lp.length + L.length := by
  unfold pFate
  split
  · exact Nat.le_trans (fated_len _ _ _ _) (pkh_len L lp)
  · exact Nat.zero_le _
theorem hStay_len (L : List S52) (lr lp : List ByteArray) (percent : Int) : (pStay L lr lp percent).length ≤ L.length := by
  unfold pStay
  split
  · unfold rstayL
    exact Nat.le_trans (List.length_filterMap_le _ _) (idsOf_len L)
  · exact Nat.zero_le _
theorem hMove_len (L : List S52) (lr lp : List ByteArray) (percent : Int) : (pMove L lr lp percent).length ≤ L.length := by
  unfold pMove
  split
  · unfold rmoveL
    exact Nat.le_trans (List.length_filter_le _ _) (idsOf_len L)
  · exact Nat.zero_le _
theorem Tab.map {w w' : World} {base g gt n : Nat} {F : Nat → List S52} {f : List UInt8 → Int} (h : Tab w base g F) (hm : IAt w gt n f) (hK : KeepB w.heap.size gt w w') : Tab w' base g F := by
  obtain ⟨vs, h1, h2, h3, h4⟩ := h
  obtain ⟨D, ⟨es, clock, hb, _⟩, _⟩ := hm
  exact ⟨vs, h1, hK.blk h2 (blk_lt h2) (by
    intro e
    subst e
    rw [hb] at h2
    cases h2), fun j v hv => Kd.R_grown2 (h3 j v hv) rfl hK.toGrown (fun b e => by
    injection e with e
    subst e
    intro he
    obtain ⟨inner, ho⟩ := Kd.R_own (h3 j v hv)
    obtain ⟨cells, hc⟩ := own_typed ho _ he.symm
    rw [hb] at hc
    cases hc), h4⟩
theorem k52_any {w w' : World} {x : S52} {cs : List Value} (h : k52.K w x cs) : k52.K w' x cs := by obtain rfl := k52_open h; exact k52_mk _ _
theorem KeepB.map {base g : Nat} {w w1 : World} (h : w.grownBy w1 (some g)) (hb : base ≤ w.heap.size) : KeepB base g w w1 := ⟨h.os, h.tape, h.output, h.size, fun k hk hg => h.block k (Nat.lt_of_lt_of_le hk hb) (fun e => by injection e with e; exact hg e)⟩
theorem cell_map {W wr : World} {g n : Nat} {f : List UInt8 → Int} (hm : IAt W g n f) (hK : KeepB W.heap.size g W wr) {a : Addr} {v : Value} (h : W.cell? a = some v) : wr.cell? a = some v := by
  obtain ⟨D, ⟨es, clock, hb, _⟩, _⟩ := hm
  have hne : a.block ≠ g := by
    intro e
    unfold World.cell? at h
    rw [e, hb] at h
    simp at h
  rw [World.cell?_of_block (hK.block a.block (World.block_lt_of_cell? W a h) hne)]
  exact h
theorem C_map {α : Type} {d : Kd α} {W wr : World} {g n m : Nat} {f : List UInt8 → Int} {A : Option Addr} {xs : List α} (hm : IAt W g n f) (hK : KeepB W.heap.size g W wr) (hd : ∀ x cs, d.K W x cs → d.K wr x cs) (h : Kd.C d W A m xs) : Kd.C d wr A m xs :=
  ⟨h.1, h.2.1, fun hn => by
    obtain ⟨ad, e, hc⟩ := h.2.2 hn
    refine ⟨ad, e, fun j p hj => ?_⟩
    obtain ⟨c, hs, hr, hcell⟩ := hc j p hj
    exact ⟨c, hs, hd _ _ hr, fun i u hu => cell_map hm hK (hcell i u hu)⟩⟩
def three {α : Type} (a b c : α) (k : Nat) : α := if k = 0 then a else if k = 1 then b else c
def offL (D R : List ByteArray) (n : Nat) (k : Nat) : Nat := if k = 0 then 0 else if k = 1 then D.length else if k = 2 then D.length + R.length else n
def tagT (D R K : List ByteArray) : List (ByteArray × Int) := D.map (fun s => (s, 1)) ++ R.map (fun s => (s, 2)) ++ K.map (fun s => (s, 3))
theorem tag_at (D R K : List ByteArray) (k j : Nat) (hk : k < 3) (hj : j < (three D R K k).length) : (tagT D R K)[offL D R (tagT D R K).length k + j]? = some ((three D R K k)[j], ((k : Int) + 1)) := by
  unfold tagT
  obtain rfl | rfl | rfl : k = 0 ∨ k = 1 ∨ k = 2 := by omega
  · simp only [three, if_true] at hj
    simp only [offL, three, if_true, Nat.zero_add]
    rw [List.getElem?_append_left (by simp; omega), List.getElem?_append_left (by simpa using hj), List.getElem?_map, List.getElem?_eq_getElem hj]
    rfl
  · have e : three D R K 1 = R := rfl
    simp only [three, if_true, Nat.one_ne_zero, if_false] at hj
    simp only [offL, three, if_true, Nat.one_ne_zero, if_false]
    rw [List.getElem?_append_left (by simp; omega), List.getElem?_append_right (by simp), List.length_map, Nat.add_sub_cancel_left, List.getElem?_map, List.getElem?_eq_getElem hj]
    rfl
  · have h2 : ¬ (2 = 0) ∧ ¬ (2 = 1) := by decide
    simp only [three, h2.1, h2.2, if_false] at hj
    simp only [offL, three, h2.1, h2.2, if_true, if_false]
    rw [List.getElem?_append_right (by simp), List.length_append, List.length_map, List.length_map, Nat.add_sub_cancel_left, List.getElem?_map, List.getElem?_eq_getElem hj]
    rfl
theorem off_next (D R K : List ByteArray) (k : Nat) (hk : k < 3) : offL D R (tagT D R K).length k + (three D R K k).length = offL D R (tagT D R K).length (k + 1) := by
  obtain rfl | rfl | rfl : k = 0 ∨ k = 1 ∨ k = 2 := by omega
  · simp [offL, three]
  · simp [offL, three]
  · simp [offL, three, tagT]
    omega
set_option maxHeartbeats 16000000 in
set_option maxRecDepth 100000 in
theorem halves_big (A0 A1 A2 : Option Addr) (c0 c1 c2 n0 n1 n2 : Nat) (percent : Int) (w : World) (h0 : n0 ≤ 9223372036854775807) (h1 : n1 ≤ 9223372036854775807) (h2 : n2 ≤ 9223372036854775807) (hb : 40 < n0 ∨ 60 < n1 ∨ 60 < n2) :
    Calls Try.prog 4 #[.slice A0 n0 c0, .agg #[.slice A1 n1 c1, .slice A2 n2 c2], .int .i64 percent] w fun e w' => e = .returned (.bool true) ∧ Below w.heap.size w w' := by
  have hwk := fun W => works_calls W
  have HB : Aside0 (Below w.heap.size w (w.alloc (.cells #[.slice A1 n1 c1, .slice A2 n2 c2] 24))) := ⟨below_alloc (Below.refl _ _) _⟩
  have HK : Aside0 ((w.alloc (.cells #[.slice A1 n1 c1, .slice A2 n2 c2] 24)).heap[w.heap.size]? = some (.cells #[.slice A1 n1 c1, .slice A2 n2 c2] 24 (0, 0))) := ⟨(MapKept.heap_alloc w _).1⟩
  by_cases b0 : 40 < n0
  all_goals by_cases b1 : 60 < n1
  all_goals by_cases b2 : 60 < n2
  all_goals first | (exfalso; omega) | skip
  all_goals
    clear hb
    go_enter Try.func4, Try.ntmps4
    go_wp2_with (fail)
    refine (hwk _).mono ?_
    rintro e w1 ⟨rfl, hB⟩
    have HB1 := Aside0.mk (below_step HB.out hB)
    have k0 : w1.cell? ⟨w.heap.size, 0, none⟩ = some (.slice A1 n1 c1) := (blk_cell (blk_below HK.out hB) 0).trans rfl
    have k1 : w1.cell? ⟨w.heap.size, 1, none⟩ = some (.slice A2 n2 c2) := (blk_cell (blk_below HK.out hB) 1).trans rfl
    clear hB
    go_wp2_with (fail)
    go_ret
    exact ⟨rfl, HB1.out⟩
set_option maxHeartbeats 64000000 in
set_option maxRecDepth 100000 in
theorem halves_law (A0 A1 A2 : Option Addr) (c0 c1 c2 : Nat) (l : List S52) (r p : List ByteArray) (percent : Int) (w : World) (h0 : Kd.C k52 w A0 l.length l) (h1 : Kd.C Kd.string w A1 r.length r) (_hc1 : r.length ≤ c1) (h2 : Kd.C Kd.string w A2 p.length p) (_hc2 : p.length ≤ c2) (hs1 : ∀ s ∈ r, s.size ≤ maxLen) (hs2 : ∀ s ∈ p, s.size ≤ maxLen) :
    Calls Try.prog 4 #[.slice A0 l.length c0, .agg #[.slice A1 r.length c1, .slice A2 p.length c2], .int .i64 percent] w fun e w' => e = .returned (.bool true) ∧ Below w.heap.size w w' := by
  by_cases hbig : 40 < l.length ∨ 60 < r.length ∨ 60 < p.length
  · exact halves_big A0 A1 A2 c0 c1 c2 l.length r.length p.length percent w h0.2.1 h1.2.1 h2.2.1 hbig
  have H0 := Aside0.mk h0
  have H1 := Aside0.mk h1
  have H2 := Aside0.mk h2
  have HS1 := Aside0.mk hs1
  have HS2 := Aside0.mk hs2
  have hwk := fun W => works_calls W
  have hmm := @run_makeMap Try.prog
  have hl0 : l.length ≤ 40 := by omega
  have hl1 : r.length ≤ 60 := by omega
  have hl2 : p.length ≤ 60 := by omega
  have HB : Aside0 (Below w.heap.size w (w.alloc (.cells #[.slice A1 r.length c1, .slice A2 p.length c2] 24))) := ⟨below_alloc (Below.refl _ _) _⟩
  have HK : Aside0 ((w.alloc (.cells #[.slice A1 r.length c1, .slice A2 p.length c2] 24)).heap[w.heap.size]? = some (.cells #[.slice A1 r.length c1, .slice A2 p.length c2] 24 (0, 0))) := ⟨(MapKept.heap_alloc w _).1⟩
  clear h0 h1 h2 hs1 hs2 hbig
  go_enter Try.func4, Try.ntmps4
  go_wp2_with (fail)
  refine (hwk _).mono ?_
  rintro e w1 ⟨rfl, hB⟩
  have HB1 := Aside0.mk (below_step HB.out hB)
  have HK1 := Aside0.mk (blk_below HK.out hB)
  have HLW : Aside0 (w.heap.size < w1.heap.size) := ⟨blk_lt HK1.out⟩
  have k0 : w1.cell? ⟨w.heap.size, 0, none⟩ = some (.slice A1 r.length c1) := (blk_cell HK1.out 0).trans rfl
  have k1 : w1.cell? ⟨w.heap.size, 1, none⟩ = some (.slice A2 p.length c2) := (blk_cell HK1.out 1).trans rfl
  clear hB HB HK
  obtain ⟨g4, hg4⟩ : ∃ g4, g4 = w.heap.size := ⟨_, rfl⟩
  rw [← hg4] at HK1 HLW k0 k1 ⊢
  have HG4 := Aside0.mk hg4
  clear hg4
  go_wp2_with (fail)
  refine (new_calls _).mono ?_
  rintro e w2 ⟨rfl, hw⟩
  have HT : Aside0 (∀ base, Tab w2 base w1.heap.size F0) := ⟨fun base => by rw [hw]; exact Tab.made w1 base⟩
  have HB2 : Aside0 (Below w.heap.size w w2) := ⟨by rw [hw]; exact below_alloc HB1.out _⟩
  have HK2 : Aside0 (w2.heap[g4]? = some (.cells #[.slice A1 r.length c1, .slice A2 p.length c2] 24 (0, 0))) := ⟨by rw [hw]; exact blk_below HK1.out (below_alloc (Below.refl _ _) _)⟩
  have HWS : Aside0 (w.heap.size ≤ w1.heap.size) := ⟨HB1.out.size⟩
  clear hw HB1 HK1 k0 k1
  obtain ⟨g, hg⟩ : ∃ g, g = w1.heap.size := ⟨_, rfl⟩
  rw [← hg] at HT HWS HLW ⊢
  clear hg
  have hnl : ((none : Option Addr) == some ⟨g, 0, none⟩) = false := rfl
  obtain ⟨B, hBe⟩ : ∃ B, B = w2.heap.size := ⟨_, rfl⟩
  have HBE := Aside0.mk hBe
  clear hBe
  go_wp2_with (fail)
  refine (add_any B g c0 A0 l w w2 (HT.out B) H0.out HB2.out HWS.out (by rw [HBE.out]; exact HB2.out.size) (by rw [HBE.out]; exact Nat.le_refl _) hl0).mono ?_
  rintro e w3 ⟨n4, rfl, hT, hK⟩
  have hK3 : KeepB w2.heap.size g w2 w3 := by rw [← HBE.out]; exact hK
  have HB3 : Aside0 (Below w.heap.size w w3) := ⟨hK3.toBelow HB2.out HWS.out HB2.out.size⟩
  have HT3 := Aside0.mk hT
  have HK3 := Aside0.mk (hK3.blk HK2.out (blk_lt HK2.out) (by have := HLW.out; omega))
  clear hT hK hK3 HT HB2 HK2
  go_wp2_with (fail)
  refine (among_calls percent w3).mono ?_
  rintro e w4 ⟨pc, rfl, hp0, hp1, hB⟩
  have ho : okP pc = true := decide_eq_true ⟨hp0, hp1⟩
  have ho2 : okP (pc / 2) = true := decide_eq_true (by omega)
  have HO := Aside0.mk ho
  have HO2 := Aside0.mk ho2
  have HT4 := Aside0.mk (HT3.out.below hB)
  have HB4 := Aside0.mk (below_step HB3.out hB)
  have HK4 := Aside0.mk (blk_below HK3.out hB)
  clear hB HT3 HB3 HK3 ho ho2
  have k0 : w4.cell? ⟨g4, 0, none⟩ = some (.slice A1 r.length c1) := (blk_cell HK4.out 0).trans rfl
  have k1 : w4.cell? ⟨g4, 1, none⟩ = some (.slice A2 p.length c2) := (blk_cell HK4.out 1).trans rfl
  go_wp2_with (fail)
  refine (make_any B g c1 c2 A1 A2 (tF l) r p pc w4 HT4.out (tF_good l) (fun j => tF_len l j (by omega)) (by rw [tF_all]; have := tL_len l; omega) (Kd.C_below H1.out HB4.out) (Kd.C_below H2.out HB4.out) (by omega) (by omega) HS1.out HS2.out).mono ?_
  rintro e w5 ⟨hPL, hB⟩
  rw [tF_all] at hPL
  obtain ⟨AD, AR, AK, AS, AM, cD, cR, cK, cS, cM, rfl, hD, hR, hKK, hS, hM⟩ := hPL
  have hpc : pCode pc = 0 := by unfold pCode; rw [if_pos HO.out]
  rw [hpc]
  have HPA := Aside0.mk (And.intro hD (And.intro hR (And.intro hKK (And.intro hS hM))))
  have HT5 := Aside0.mk (HT4.out.below hB)
  have HB5 := Aside0.mk (below_step HB4.out hB)
  have HK5 := Aside0.mk (blk_below HK4.out hB)
  clear hD hR hKK hS hM hB HT4 HB4 HK4 hpc k0 k1
  go_upto_region 11 with (fail)
  have hBx : Below w5.heap.size w5 (w5.alloc (.cells #[.slice AD (pFate 0 (tL l) r p pc).length cD, .slice AR (pFate 1 (tL l) r p pc).length cR, .slice AK (pFate 2 (tL l) r p pc).length cK, .slice AS (pStay (tL l) r p pc).length cS, .slice AM (pMove (tL l) r p pc).length cM] 36)) := below_alloc (Below.refl _ _) _
  have HGA : Aside0 ((w5.alloc (.cells #[.slice AD (pFate 0 (tL l) r p pc).length cD, .slice AR (pFate 1 (tL l) r p pc).length cR, .slice AK (pFate 2 (tL l) r p pc).length cK, .slice AS (pStay (tL l) r p pc).length cS, .slice AM (pMove (tL l) r p pc).length cM] 36)).heap[w5.heap.size]? = some (.cells #[.slice AD (pFate 0 (tL l) r p pc).length cD, .slice AR (pFate 1 (tL l) r p pc).length cR, .slice AK (pFate 2 (tL l) r p pc).length cK, .slice AS (pStay (tL l) r p pc).length cS, .slice AM (pMove (tL l) r p pc).length cM] 36 (0, 0))) := ⟨(MapKept.heap_alloc w5 _).1⟩
  have HPA6 := Aside0.mk (And.intro (And.intro HPA.out.1.1 (Kd.C_below HPA.out.1.2 hBx)) (And.intro (And.intro HPA.out.2.1.1 (Kd.C_below HPA.out.2.1.2 hBx)) (And.intro (And.intro HPA.out.2.2.1.1 (Kd.C_below HPA.out.2.2.1.2 hBx)) (And.intro (And.intro HPA.out.2.2.2.1.1 (Kd.C_below HPA.out.2.2.2.1.2 hBx)) (And.intro HPA.out.2.2.2.2.1 (Kd.C_below HPA.out.2.2.2.2.2 hBx))))))
  have HT6 := Aside0.mk (HT5.out.below hBx)
  have HB6 := Aside0.mk (below_step HB5.out hBx)
  have HK6 := Aside0.mk (blk_below HK5.out hBx)
  clear hBx HPA HT5 HB5 HK5
  generalize (w5.alloc (.cells #[.slice AD (pFate 0 (tL l) r p pc).length cD, .slice AR (pFate 1 (tL l) r p pc).length cR, .slice AK (pFate 2 (tL l) r p pc).length cK, .slice AS (pStay (tL l) r p pc).length cS, .slice AM (pMove (tL l) r p pc).length cM] 36)) = W6 at HGA HPA6 HT6 HB6 HK6 ⊢
  generalize w5.heap.size = ga at HGA ⊢
  have k0 : W6.cell? ⟨g4, 0, none⟩ = some (.slice A1 r.length c1) := (blk_cell HK6.out 0).trans rfl
  have k1 : W6.cell? ⟨g4, 1, none⟩ = some (.slice A2 p.length c2) := (blk_cell HK6.out 1).trans rfl
  go_wp2_with (fail)
  refine (make_any B g c1 c2 A1 A2 (tF l) r p (pc / 2) W6 HT6.out (tF_good l) (fun j => tF_len l j (by omega)) (by rw [tF_all]; have := tL_len l; omega) (Kd.C_below H1.out HB6.out) (Kd.C_below H2.out HB6.out) (by omega) (by omega) HS1.out HS2.out).mono ?_
  rintro e w7 ⟨hPL, hB⟩
  rw [tF_all] at hPL
  obtain ⟨XD, XR, XK, XS, XM, dD, dR, dK, dS, dM, rfl, hD, hR, hKK, hS, hM⟩ := hPL
  have hpc : pCode (pc / 2) = 0 := by unfold pCode; rw [if_pos HO2.out]
  rw [hpc]
  have HXD := Aside0.mk hD
  have HPA7 := Aside0.mk (And.intro (And.intro HPA6.out.1.1 (Kd.C_below HPA6.out.1.2 hB)) (And.intro (And.intro HPA6.out.2.1.1 (Kd.C_below HPA6.out.2.1.2 hB)) (And.intro (And.intro HPA6.out.2.2.1.1 (Kd.C_below HPA6.out.2.2.1.2 hB)) (And.intro (And.intro HPA6.out.2.2.2.1.1 (Kd.C_below HPA6.out.2.2.2.1.2 hB)) (And.intro HPA6.out.2.2.2.2.1 (Kd.C_below HPA6.out.2.2.2.2.2 hB))))))
  have HGA7 := Aside0.mk (blk_below HGA.out hB)
  have HT7 := Aside0.mk (HT6.out.below hB)
  have HB7 := Aside0.mk (below_step HB6.out hB)
  have HK7 := Aside0.mk (blk_below HK6.out hB)
  clear hD hR hKK hS hM hB HPA6 HGA HT6 HB6 HK6 hpc k0 k1
  go_upto_region 12 with (fail)
  have hBx : Below w7.heap.size w7 (w7.alloc (.cells #[.slice XD (pFate 0 (tL l) r p (pc / 2)).length dD, .slice XR (pFate 1 (tL l) r p (pc / 2)).length dR, .slice XK (pFate 2 (tL l) r p (pc / 2)).length dK, .slice XS (pStay (tL l) r p (pc / 2)).length dS, .slice XM (pMove (tL l) r p (pc / 2)).length dM] 36)) := below_alloc (Below.refl _ _) _
  have HGB : Aside0 ((w7.alloc (.cells #[.slice XD (pFate 0 (tL l) r p (pc / 2)).length dD, .slice XR (pFate 1 (tL l) r p (pc / 2)).length dR, .slice XK (pFate 2 (tL l) r p (pc / 2)).length dK, .slice XS (pStay (tL l) r p (pc / 2)).length dS, .slice XM (pMove (tL l) r p (pc / 2)).length dM] 36)).heap[w7.heap.size]? = some (.cells #[.slice XD (pFate 0 (tL l) r p (pc / 2)).length dD, .slice XR (pFate 1 (tL l) r p (pc / 2)).length dR, .slice XK (pFate 2 (tL l) r p (pc / 2)).length dK, .slice XS (pStay (tL l) r p (pc / 2)).length dS, .slice XM (pMove (tL l) r p (pc / 2)).length dM] 36 (0, 0))) := ⟨(MapKept.heap_alloc w7 _).1⟩
  have HPA8 := Aside0.mk (And.intro (And.intro HPA7.out.1.1 (Kd.C_below HPA7.out.1.2 hBx)) (And.intro (And.intro HPA7.out.2.1.1 (Kd.C_below HPA7.out.2.1.2 hBx)) (And.intro (And.intro HPA7.out.2.2.1.1 (Kd.C_below HPA7.out.2.2.1.2 hBx)) (And.intro (And.intro HPA7.out.2.2.2.1.1 (Kd.C_below HPA7.out.2.2.2.1.2 hBx)) (And.intro HPA7.out.2.2.2.2.1 (Kd.C_below HPA7.out.2.2.2.2.2 hBx))))))
  have HXD8 := Aside0.mk (And.intro HXD.out.1 (Kd.C_below HXD.out.2 hBx))
  have HGA8 := Aside0.mk (blk_below HGA7.out hBx)
  have HT8 := Aside0.mk (HT7.out.below hBx)
  have HB8 := Aside0.mk (below_step HB7.out hBx)
  have HK8 := Aside0.mk (blk_below HK7.out hBx)
  clear hBx HPA7 HGA7 HT7 HB7 HK7 HXD
  generalize (w7.alloc (.cells #[.slice XD (pFate 0 (tL l) r p (pc / 2)).length dD, .slice XR (pFate 1 (tL l) r p (pc / 2)).length dR, .slice XK (pFate 2 (tL l) r p (pc / 2)).length dK, .slice XS (pStay (tL l) r p (pc / 2)).length dS, .slice XM (pMove (tL l) r p (pc / 2)).length dM] 36)) = W8 at HGB HPA8 HXD8 HGA8 HT8 HB8 HK8 ⊢
  generalize w7.heap.size = gb at HGB ⊢
  have hdr := rew_less (L := tL l) (lr := r) (lp := p) HO.out HO2.out (by omega) (tL_chk l)
  have hdd := drop_same (L := tL l) (lr := r) (lp := p) HO2.out HO.out
  rw [hdd] at HGB HXD8
  obtain ⟨qS, hqS⟩ : ∃ x, x = (pStay (tL l) r p (pc / 2)).length := ⟨_, rfl⟩
  obtain ⟨qM, hqM⟩ : ∃ x, x = (pMove (tL l) r p (pc / 2)).length := ⟨_, rfl⟩
  obtain ⟨qK, hqK⟩ : ∃ x, x = (pFate 2 (tL l) r p (pc / 2)).length := ⟨_, rfl⟩
  obtain ⟨qR, hqR⟩ : ∃ x, x = (pFate 1 (tL l) r p (pc / 2)).length := ⟨_, rfl⟩
  rw [← hqS, ← hqM, ← hqK, ← hqR] at HGB
  rw [← hqR] at hdr
  have HN : Aside0 (((fT (tL l) r p pc).map (·.1)).Nodup ∧ ((sU (tL l) r p pc).map (·.1)).Nodup) := ⟨fT_nodup HO.out, sU_nodup HO.out (tL_sorted l)⟩
  have HSF : Aside0 (∀ x ∈ pStay (tL l) r p pc, fm (fT (tL l) r p pc) x.f1.f0.data.toList = 3) := ⟨fun x hx => stay_fate HO.out hx⟩
  have HMG : Aside0 (∀ id ∈ pMove (tL l) r p pc, (getP (tL l) id).2 = true ∧ fm (fT (tL l) r p pc) (getP (tL l) id).1.f0.data.toList = 2) := ⟨fun id h => move_get HO.out h⟩
  have HRT : Aside0 (∀ id ∈ r, (getP (tL l) id).2 = true → fm (sU (tL l) r p pc) id.data.toList ≠ 0) := ⟨fun id h1 h2 => reach_told HO.out (tL_sorted l) (tL_chk l) h1 h2⟩
  have HID : Aside0 (∀ id, id ∈ idsOf (tL l) → id.size = 32) := ⟨fun id h => by obtain ⟨x, hx, rfl⟩ := (idsOf_mem _ _).1 h; exact (size32 (tL_chk l x hx)).1⟩
  have HPK : Aside0 (∀ n, ∀ s ∈ pFate n (tL l) r p pc, s.size ≤ maxLen) := ⟨fun n s h => by
    have h1 := ((pFate_mem HO.out).1 h).1
    unfold pkL at h1
    rw [risL_mem, List.mem_append, List.mem_map] at h1
    rcases h1 with h1 | ⟨x, hx, rfl⟩
    · exact HS2.out s h1
    · have := (size32 (tL_chk l x hx)).2.1; unfold maxLen; omega⟩
  have HSI : Aside0 (∀ x ∈ pStay (tL l) r p pc, x.f0.size = 32 ∧ x.f1.f0.size ≤ maxLen) := ⟨fun x h => by
    obtain ⟨h1, h2⟩ := (stay_iff HO.out).1 h
    exact ⟨HID.out _ h1, HPK.out 2 _ ((memb_iff _ _).1 (stayQ_kept h2).2)⟩⟩
  have HMI : Aside0 (∀ id ∈ pMove (tL l) r p pc, id.size = 32 ∧ (getP (tL l) id).1.f0.size ≤ maxLen) := ⟨fun id h => by
    obtain ⟨h1, _, h3⟩ := (move_iff HO.out).1 h
    exact ⟨HID.out _ h1, HPK.out 1 _ h3⟩⟩
  have HLN : Aside0 ((pFate 0 (tL l) r p pc).length ≤ 100 ∧ (pFate 1 (tL l) r p pc).length ≤ 100 ∧ (pFate 2 (tL l) r p pc).length ≤ 100 ∧ (pStay (tL l) r p pc).length ≤ 100 ∧ (pMove (tL l) r p pc).length ≤ 100) := ⟨by
    have h1 := tL_len l
    have h2 := hFate_len 0 (tL l) r p pc
    have h3 := hFate_len 1 (tL l) r p pc
    have h4 := hFate_len 2 (tL l) r p pc
    have h5 := hStay_len (tL l) r p pc
    have h6 := hMove_len (tL l) r p pc
    omega⟩
  have hTT : fT (tL l) r p pc = tagT (pFate 0 (tL l) r p pc) (pFate 1 (tL l) r p pc) (pFate 2 (tL l) r p pc) := rfl
  have hUU : sU (tL l) r p pc = (pStay (tL l) r p pc).map (fun x => (x.f0, 1)) ++ (pMove (tL l) r p pc).map (fun s => (s, 2)) := rfl
  rw [hTT, hUU] at HN
  rw [hTT] at HSF HMG
  rw [hUU] at HRT
  clear hqS hqM hqK hqR hdd hTT hUU HID
  have HPKD := Aside0.mk (HPK.out 0)
  have HPKR := Aside0.mk (HPK.out 1)
  have HPKK := Aside0.mk (HPK.out 2)
  clear HPK
  generalize pFate 0 (tL l) r p pc = lD at *
  generalize pFate 1 (tL l) r p pc = lR at *
  generalize pFate 2 (tL l) r p pc = lK at *
  generalize pStay (tL l) r p pc = lS at *
  generalize pMove (tL l) r p pc = lM at *
  have a1 : W8.cell? ⟨ga, 1, none⟩ = some (.slice AR lR.length cR) := (blk_cell HGA8.out 1).trans rfl
  have a0 : W8.cell? ⟨ga, 0, none⟩ = some (.slice AD lD.length cD) := (blk_cell HGA8.out 0).trans rfl
  have b1 : W8.cell? ⟨gb, 1, none⟩ = some (.slice XR qR dR) := (blk_cell HGB.out 1).trans rfl
  have b0 : W8.cell? ⟨gb, 0, none⟩ = some (.slice XD lD.length dD) := (blk_cell HGB.out 0).trans rfl
  have hlt : decide (qR < lR.length) = false := decide_eq_false (by omega)
  go_wp2_with (fail)
  refine (same_calls AD XD cD dD lD lD W8 HPA8.out.1.2 HPA8.out.1.1 HXD8.out.2 HXD8.out.1 (by have := HLN.out.1; omega)).mono ?_
  rintro e w9 ⟨rfl, hB⟩
  rw [decide_eq_true (rfl : lD = lD)]
  have HPA9 := Aside0.mk (And.intro (And.intro HPA8.out.1.1 (Kd.C_below HPA8.out.1.2 hB)) (And.intro (And.intro HPA8.out.2.1.1 (Kd.C_below HPA8.out.2.1.2 hB)) (And.intro (And.intro HPA8.out.2.2.1.1 (Kd.C_below HPA8.out.2.2.1.2 hB)) (And.intro (And.intro HPA8.out.2.2.2.1.1 (Kd.C_below HPA8.out.2.2.2.1.2 hB)) (And.intro HPA8.out.2.2.2.2.1 (Kd.C_below HPA8.out.2.2.2.2.2 hB))))))
  have HGA9 := Aside0.mk (blk_below HGA8.out hB)
  have HT9 := Aside0.mk (HT8.out.below hB)
  have HB9 := Aside0.mk (below_step HB8.out hB)
  have HK9 := Aside0.mk (blk_below HK8.out hB)
  clear hB HPA8 HXD8 HGA8 HGB HT8 HB8 HK8 a0 a1 b0 b1 hlt hdr
  go_upto_region 15 with (fail)
  have hBx : Below w9.heap.size w9 (w9.alloc (.map #[] 0)) := below_alloc (Below.refl _ _) _
  have HF : Aside0 (IAt (w9.alloc (.map #[] 0)) w9.heap.size 0 (fun _ => 0)) := ⟨IAt.made w9⟩
  have HPA10 := Aside0.mk (And.intro (And.intro HPA9.out.1.1 (Kd.C_below HPA9.out.1.2 hBx)) (And.intro (And.intro HPA9.out.2.1.1 (Kd.C_below HPA9.out.2.1.2 hBx)) (And.intro (And.intro HPA9.out.2.2.1.1 (Kd.C_below HPA9.out.2.2.1.2 hBx)) (And.intro (And.intro HPA9.out.2.2.2.1.1 (Kd.C_below HPA9.out.2.2.2.1.2 hBx)) (And.intro HPA9.out.2.2.2.2.1 (Kd.C_below HPA9.out.2.2.2.2.2 hBx))))))
  have HGA10 := Aside0.mk (blk_below HGA9.out hBx)
  have HT10 := Aside0.mk (HT9.out.below hBx)
  have HB10 := Aside0.mk (below_step HB9.out hBx)
  have HK10 := Aside0.mk (blk_below HK9.out hBx)
  have HFW : Aside0 (w.heap.size ≤ w9.heap.size) := ⟨HB9.out.size⟩
  have HGAF : Aside0 (ga < w9.heap.size ∧ g4 < w9.heap.size) := ⟨blk_lt HGA9.out, blk_lt HK9.out⟩
  clear hBx HPA9 HGA9 HT9 HB9 HK9
  generalize (w9.alloc (.map #[] 0)) = W10 at HF HPA10 HGA10 HT10 HB10 HK10 ⊢
  generalize w9.heap.size = gf at HF HFW HGAF ⊢
  have a0 : W10.cell? ⟨ga, 0, none⟩ = some (.slice AD lD.length cD) := (blk_cell HGA10.out 0).trans rfl
  have a1 : W10.cell? ⟨ga, 1, none⟩ = some (.slice AR lR.length cR) := (blk_cell HGA10.out 1).trans rfl
  have a2 : W10.cell? ⟨ga, 2, none⟩ = some (.slice AK lK.length cK) := (blk_cell HGA10.out 2).trans rfl
  go_wp2_with (fail)
  have hBx : Below W10.heap.size W10 (W10.alloc (.cells #[.slice AD lD.length cD, .slice AR lR.length cR, .slice AK lK.length cK] 23)) := below_alloc (Below.refl _ _) _
  have HG3 : Aside0 ((W10.alloc (.cells #[.slice AD lD.length cD, .slice AR lR.length cR, .slice AK lK.length cK] 23)).heap[W10.heap.size]? = some (.cells #[.slice AD lD.length cD, .slice AR lR.length cR, .slice AK lK.length cK] 23 (0, 0))) := ⟨(MapKept.heap_alloc W10 _).1⟩
  have HF11 := Aside0.mk (HF.out.below hBx)
  have HPA11 := Aside0.mk (And.intro (And.intro HPA10.out.1.1 (Kd.C_below HPA10.out.1.2 hBx)) (And.intro (And.intro HPA10.out.2.1.1 (Kd.C_below HPA10.out.2.1.2 hBx)) (And.intro (And.intro HPA10.out.2.2.1.1 (Kd.C_below HPA10.out.2.2.1.2 hBx)) (And.intro (And.intro HPA10.out.2.2.2.1.1 (Kd.C_below HPA10.out.2.2.2.1.2 hBx)) (And.intro HPA10.out.2.2.2.2.1 (Kd.C_below HPA10.out.2.2.2.2.2 hBx))))))
  have HGA11 := Aside0.mk (blk_below HGA10.out hBx)
  have HT11 := Aside0.mk (HT10.out.below hBx)
  have HB11 := Aside0.mk (below_step HB10.out hBx)
  have HK11 := Aside0.mk (blk_below HK10.out hBx)
  have HGF : Aside0 (gf < W10.heap.size) := ⟨HF.out.lt⟩
  clear hBx HPA10 HGA10 HT10 HB10 HK10 HF a0 a1 a2
  generalize (W10.alloc (.cells #[.slice AD lD.length cD, .slice AR lR.length cR, .slice AK lK.length cK] 23)) = W11 at HG3 HF11 HPA11 HGA11 HT11 HB11 HK11 ⊢
  generalize W10.heap.size = gs at HG3 HGF ⊢
  obtain ⟨B1, hB1⟩ : ∃ B1, B1 = W11.heap.size := ⟨_, rfl⟩
  have HBE1 := Aside0.mk hB1
  clear hB1
  obtain ⟨T, hT⟩ : ∃ T, T = tagT lD lR lK := ⟨_, rfl⟩
  have HTE := Aside0.mk hT
  rw [← hT] at HN HSF HMG
  clear hT
  go_loopw [106] (fun v106 wr => ∃ k : Nat, k ≤ 3 ∧ v106 = .int .i64 k ∧ Aside0 (IAt wr gf (offL lD lR T.length k) (fm (T.take (offL lD lR T.length k)))) ∧ Aside0 (KeepB B1 gf W11 wr) ∧ Aside0 (B1 ≤ wr.heap.size)) (fun v106 _ => 3 - (intOf v106).toNat)
  case atStart => exact ⟨0, by omega, rfl, HF11, ⟨KeepB.of_below (Below.refl _ _) (by rw [HBE1.out]; exact Nat.le_refl _)⟩, ⟨by rw [HBE1.out]; exact Nat.le_refl _⟩⟩
  case round =>
    obtain ⟨k, hk, rfl, HM, HKB, HBS⟩ := hrel
    have HKE : Aside0 (KeepB W11.heap.size gf W11 wr) := ⟨by rw [← HBE1.out]; exact HKB.out⟩
    by_cases hlt : k < 3
    · have hcell : wr.cell? ⟨gs, k, none⟩ = some (.slice (three AD AR AK k) (three lD lR lK k).length (three cD cR cK k)) := by
        have h1 := cell_map HF11.out HKE.out (a := ⟨gs, k, none⟩) (v := .slice (three AD AR AK k) (three lD lR lK k).length (three cD cR cK k)) (by
          rw [blk_cell HG3.out]
          obtain rfl | rfl | rfl : k = 0 ∨ k = 1 ∨ k = 2 := by omega
          · rfl
          · rfl
          · rfl)
        exact h1
      have hck : Kd.C Kd.string W11 (three AD AR AK k) (three lD lR lK k).length (three lD lR lK k) := by
        obtain rfl | rfl | rfl : k = 0 ∨ k = 1 ∨ k = 2 := by omega
        · exact HPA11.out.1.2
        · exact HPA11.out.2.1.2
        · exact HPA11.out.2.2.1.2
      have hll : (three lD lR lK k).length ≤ 100 := by
        obtain rfl | rfl | rfl : k = 0 ∨ k = 1 ∨ k = 2 := by omega
        · exact HLN.out.1
        · exact HLN.out.2.1
        · exact HLN.out.2.2.1
      have hsz : ∀ s ∈ three lD lR lK k, s.size ≤ maxLen := by
        obtain rfl | rfl | rfl : k = 0 ∨ k = 1 ∨ k = 2 := by omega
        · exact HPKD.out
        · exact HPKR.out
        · exact HPKK.out
      have htag : ∀ j (hj : j < (three lD lR lK k).length), T[offL lD lR T.length k + j]? = some ((three lD lR lK k)[j], ((k : Int) + 1)) := fun j hj => by rw [HTE.out]; exact tag_at lD lR lK k j hlt hj
      have hoff : offL lD lR T.length k + (three lD lR lK k).length = offL lD lR T.length (k + 1) := by rw [HTE.out]; exact off_next lD lR lK k hlt
      have hol : offL lD lR T.length k ≤ 200 := by
        have h1 := HLN.out
        obtain rfl | rfl | rfl : k = 0 ∨ k = 1 ∨ k = 2 := by omega
        · unfold offL; simp
        · unfold offL; simp; omega
        · unfold offL; simp; omega
      have HCK := Aside0.mk hck
      have HSZ := Aside0.mk hsz
      have HTG := Aside0.mk htag
      have HOF := Aside0.mk hoff
      clear hck hsz htag hoff
      generalize three lD lR lK k = lk at hcell HCK hll HSZ HTG HOF
      generalize three AD AR AK k = Ak at hcell HCK
      generalize three cD cR cK k = ck at hcell
      generalize offL lD lR T.length k = o at HM HTG HOF hol
      have hk3 : decide ((k : Int) < 3) = true := decide_eq_true (by omega)
      go_wp2_with (fail)
      go_loopw [113] (fun v113 wr => ∃ j : Nat, j ≤ lk.length ∧ v113 = .int .i64 j ∧ Aside0 (IAt wr gf (o + j) (fm (T.take (o + j)))) ∧ Aside0 (KeepB B1 gf W11 wr) ∧ Aside0 (B1 ≤ wr.heap.size)) (fun v113 _ => lk.length - (intOf v113).toNat)
      case atStart => exact ⟨0, Nat.zero_le _, rfl, HM, HKB, HBS⟩
      case round =>
        clear HM HKB HBS HKE hcell
        obtain ⟨j, hj, rfl, HM, HKB, HBS⟩ := hrel
        have HKE : Aside0 (KeepB W11.heap.size gf W11 wr) := ⟨by rw [← HBE1.out]; exact HKB.out⟩
        by_cases hjt : j < lk.length
        · obtain ⟨ad, rfl, hx⟩ := Kd.at_string (C_map HF11.out HKE.out (fun _ _ h => h) HCK.out) (j : Int) (by omega) (by omega)
          rw [rd9_get hjt, Int.toNat_natCast] at hx
          have hs := HSZ.out lk[j] (List.getElem_mem hjt)
          obtain ⟨hn1, hn2⟩ := take_keys HN.out.1 (HTG.out j hjt)
          generalize lk[j] = s at hx hs hn1 hn2
          have HN1 := Aside0.mk hn1
          have HN2 := Aside0.mk hn2
          have HSS := Aside0.mk hs
          clear hn1 hn2 hs
          have hml : j < maxLen := by unfold maxLen; omega
          go_wp2_with (first
            | (at_lookup; refine wpList_lookup_i _ rfl _ _ 47 rfl Try.underlying47 gf (o + j) _ rfl HM.out s HSS.out rfl ?_; rw [fm_absent HN1.out])
            | (at_mapUpdate; refine wpList_update_i _ rfl _ _ _ 47 rfl Try.underlying47 gf (o + j) _ rfl HM.out (by unfold maxLen; omega) s HSS.out rfl ((k : Int) + 1) rfl ?_; intro w1 hm1 hg1; have HM1 := Aside0.mk (hm1.congr (fun x => fm_snoc HN1.out x)); have HK1 : Aside0 (KeepB B1 gf W11 w1) := ⟨HKB.out.trans (KeepB.map hg1 HBS.out)⟩; have HS1' : Aside0 (B1 ≤ w1.heap.size) := ⟨Nat.le_trans HBS.out hg1.size⟩; clear hm1 hg1))
          go_roundw
          case rel => exact ⟨j + 1, by omega, by go_num, ⟨by rw [← Nat.add_assoc, HN2.out]; exact HM1.out⟩, HK1, HS1'⟩
          case measure => simp [intOf]; omega
        · obtain rfl : j = lk.length := by omega
          go_wp2_with (fail)
          go_roundw
          case rel => exact ⟨k + 1, by omega, by go_num, ⟨by rw [← HOF.out]; exact HM.out⟩, HKB, HBS⟩
          case measure => simp [intOf]; omega
    · obtain rfl : k = 3 := by omega
      rw [show ((3 : Nat) : Int) = 3 from rfl]
      have hM3 : IAt wr gf T.length (fm T) := by
        have h := HM.out
        rw [show offL lD lR T.length 3 = T.length from rfl, List.take_length] at h
        exact h
      have HT12 := Aside0.mk (HT11.out.map HF11.out HKE.out)
      have HGA12 := Aside0.mk (HKE.out.blk HGA11.out (blk_lt HGA11.out) (by have := HGAF.out; omega))
      have HK12 := Aside0.mk (HKE.out.blk HK11.out (blk_lt HK11.out) (by have := HGAF.out; omega))
      have HB12 : Aside0 (Below w.heap.size w wr) := ⟨HKE.out.toBelow HB11.out HFW.out HB11.out.size⟩
      have HSC := Aside0.mk (And.intro HPA11.out.2.2.2.1.1 (C_map HF11.out HKE.out (fun _ _ h => k52_any h) HPA11.out.2.2.2.1.2))
      have HMC := Aside0.mk (And.intro HPA11.out.2.2.2.2.1 (C_map HF11.out HKE.out (fun _ _ h => h) HPA11.out.2.2.2.2.2))
      have HM12 := Aside0.mk hM3
      clear hM3 HM HKB HBS HKE HT11 HGA11 HK11 HB11 HPA11 HF11 HG3 HGF
      go_upto_region 27 with (fail)
      have hBx : Below wr.heap.size wr (wr.alloc (.map #[] 0)) := below_alloc (Below.refl _ _) _
      have HU0 : Aside0 (IAt (wr.alloc (.map #[] 0)) wr.heap.size 0 (fun _ => 0)) := ⟨IAt.made wr⟩
      have HT20 := Aside0.mk (HT12.out.below hBx)
      have HGA20 := Aside0.mk (blk_below HGA12.out hBx)
      have HK20 := Aside0.mk (blk_below HK12.out hBx)
      have HB20 := Aside0.mk (below_step HB12.out hBx)
      have HS20 := Aside0.mk (And.intro HSC.out.1 (Kd.C_below HSC.out.2 hBx))
      have HM20 := Aside0.mk (And.intro HMC.out.1 (Kd.C_below HMC.out.2 hBx))
      have HF20 := Aside0.mk (HM12.out.below hBx)
      have HGTF : Aside0 (gf < wr.heap.size ∧ ga < wr.heap.size ∧ g4 < wr.heap.size ∧ w.heap.size ≤ wr.heap.size) := ⟨HM12.out.lt, blk_lt HGA12.out, blk_lt HK12.out, HB12.out.size⟩
      clear hBx HT12 HGA12 HK12 HB12 HSC HMC HM12
      generalize (wr.alloc (.map #[] 0)) = W20 at HU0 HT20 HGA20 HK20 HB20 HS20 HM20 HF20 ⊢
      generalize wr.heap.size = gt at HU0 HGTF ⊢
      obtain ⟨B2, hB2⟩ : ∃ B2, B2 = W20.heap.size := ⟨_, rfl⟩
      have HBE2 := Aside0.mk hB2
      clear hB2
      obtain ⟨U, hU⟩ : ∃ U : List (ByteArray × Int), U = lS.map (fun x => (x.f0, 1)) ++ lM.map (fun s => (s, 2)) := ⟨_, rfl⟩
      have HUE := Aside0.mk hU
      rw [← hU] at HN HRT
      clear hU
      have a3 : W20.cell? ⟨ga, 3, none⟩ = some (.slice AS lS.length cS) := (blk_cell HGA20.out 3).trans rfl
      have HLS : Aside0 (lS.length ≤ 100) := ⟨HLN.out.2.2.2.1⟩
      have hls : lS.length ≤ 100 := HLN.out.2.2.2.1
      go_wp2_with (fail)
      go_loopw [131] (fun v131 wr => ∃ j : Nat, j ≤ lS.length ∧ v131 = .int .i64 j ∧ Aside0 (IAt wr gt j (fm (U.take j))) ∧ Aside0 (KeepB B2 gt W20 wr) ∧ Aside0 (B2 ≤ wr.heap.size)) (fun v131 _ => lS.length - (intOf v131).toNat)
      case atStart => exact ⟨0, Nat.zero_le _, rfl, HU0, ⟨KeepB.of_below (Below.refl _ _) (by rw [HBE2.out]; exact Nat.le_refl _)⟩, ⟨by rw [HBE2.out]; exact Nat.le_refl _⟩⟩
      case round =>
        clear a3
        obtain ⟨j, hj, rfl, HM, HKB, HBS⟩ := hrel
        have HKE : Aside0 (KeepB W20.heap.size gt W20 wr) := ⟨by rw [← HBE2.out]; exact HKB.out⟩
        by_cases hjt : j < lS.length
        · obtain ⟨ad, x, rfl, hx, q0, q1, q2, q3, q4, q5⟩ := at52 (C_map HU0.out HKE.out (fun _ _ h => k52_any h) HS20.out.2) j hjt
          have hxm : x ∈ lS := List.mem_of_getElem? hx
          have hu : U[j]? = some (x.f0, 1) := by rw [HUE.out, List.getElem?_append_left (by simpa using hjt), List.getElem?_map, hx]; rfl
          obtain ⟨hn1, hn2⟩ := take_keys HN.out.2 hu
          have HN1 := Aside0.mk hn1
          have HN2 := Aside0.mk hn2
          have HSZ := Aside0.mk (HSI.out x hxm)
          have HSF1 := Aside0.mk (HSF.out x hxm)
          have HFR := Aside0.mk (HF20.out.kept HKE.out.toGrown (fun e => by injection e with e; have := HGTF.out; omega))
          have hml : j < maxLen := by unfold maxLen; omega
          clear hn1 hn2 hu hxm hx
          go_wp2_with (first
            | (at_lookup; refine wpList_lookup_i _ rfl _ _ 47 rfl Try.underlying47 gf T.length (fm T) rfl (HFR.out.below (below_alloc (Below.refl _ _) _)) x.f1.f0 HSZ.out.2 rfl ?_; rw [HSF1.out])
            | (at_lookup; refine wpList_lookup_iG _ (wanted_on rfl rfl rfl rfl) _ _ 47 rfl Try.underlying47 gt j (fm (U.take j)) rfl (HM.out.below (below_alloc (Below.refl _ _) _)) x.f0 (by have := HSZ.out.1; unfold maxLen; omega) rfl ?_; rw [fm_absent HN1.out])
            | (at_mapUpdate; refine wpList_update_i _ rfl _ _ _ 47 rfl Try.underlying47 gt j _ rfl (HM.out.below (below_alloc (Below.refl _ _) _)) (by unfold maxLen; omega) x.f0 (by have := HSZ.out.1; unfold maxLen; omega) rfl 1 rfl ?_; intro w1 hm1 hg1; have HM1 := Aside0.mk (hm1.congr (fun y => fm_snoc HN1.out y)); have HK1 : Aside0 (KeepB B2 gt W20 w1) := ⟨(HKB.out.trans (KeepB.of_below (below_alloc (Below.refl wr.heap.size wr) _) HBS.out)).trans (KeepB.map hg1 (by have := HBS.out; simp; omega))⟩; have HS1' : Aside0 (B2 ≤ w1.heap.size) := ⟨Nat.le_trans (by have := HBS.out; simp; omega) hg1.size⟩; clear hm1 hg1))
          go_roundw
          case rel => exact ⟨j + 1, by omega, by go_num, ⟨by rw [HN2.out]; exact HM1.out⟩, HK1, HS1'⟩
          case measure => simp [intOf]; omega
        · obtain rfl : j = lS.length := by omega
          have a4 : wr.cell? ⟨ga, 4, none⟩ = some (.slice AM lM.length cM) := (blk_cell (HKE.out.blk HGA20.out (blk_lt HGA20.out) (by have := HGTF.out; omega)) 4).trans rfl
          have hlm : lM.length ≤ 100 := HLN.out.2.2.2.2
          go_wp2_with (fail)
          go_loopw [155] (fun v155 wr => ∃ j : Nat, j ≤ lM.length ∧ v155 = .int .i64 j ∧ Aside0 (IAt wr gt (lS.length + j) (fm (U.take (lS.length + j)))) ∧ Aside0 (KeepB B2 gt W20 wr) ∧ Aside0 (B2 ≤ wr.heap.size)) (fun v155 _ => lM.length - (intOf v155).toNat)
          case atStart => exact ⟨0, Nat.zero_le _, rfl, HM, HKB, HBS⟩
          case round =>
            clear a4 HM HKB HBS HKE
            obtain ⟨j, hj, rfl, HM, HKB, HBS⟩ := hrel
            have HKE : Aside0 (KeepB W20.heap.size gt W20 wr) := ⟨by rw [← HBE2.out]; exact HKB.out⟩
            by_cases hjt : j < lM.length
            · obtain ⟨ad, rfl, hx⟩ := Kd.at_string (C_map HU0.out HKE.out (fun _ _ h => h) HM20.out.2) (j : Int) (by omega) (by omega)
              rw [rd9_get hjt, Int.toNat_natCast] at hx
              have hmem := List.getElem_mem hjt
              have hu : U[lS.length + j]? = some (lM[j], 2) := by rw [HUE.out, List.getElem?_append_right (by simp), List.length_map, Nat.add_sub_cancel_left, List.getElem?_map, List.getElem?_eq_getElem hjt]; rfl
              generalize lM[j] = id at hx hmem hu
              obtain ⟨hn1, hn2⟩ := take_keys HN.out.2 hu
              have HN1 := Aside0.mk hn1
              have HN2 := Aside0.mk hn2
              have HSZ := Aside0.mk (HMI.out id hmem)
              obtain ⟨hg1, hg2⟩ := HMG.out id hmem
              have HFR := Aside0.mk (HF20.out.kept HKE.out.toGrown (fun e => by injection e with e; have := HGTF.out; omega))
              have HTW := Aside0.mk (HT20.out.map HU0.out HKE.out)
              have hml : j < maxLen := by unfold maxLen; omega
              have hget := get_calls B g (tF l) id wr HTW.out (by have := tF_len l (bk id) (by omega); omega) (tF_good l (bk id)).1
              rw [getP_all (tF_good l), tF_all] at hget
              have hszp := HSZ.out.2
              obtain ⟨q, b, hq⟩ : ∃ q b, getP (tL l) id = (q, b) := ⟨_, _, rfl⟩
              rw [hq] at hget hg1 hg2 hszp
              simp only at hg1 hg2 hszp hget
              subst hg1
              have HQ2 := Aside0.mk hg2
              have HQZ := Aside0.mk hszp
              clear hn1 hn2 hu hmem hq hg2 hszp
              go_wp2_with (fail)
              refine hget.mono ?_
              rintro e w31 ⟨rfl, hB⟩
              have HB31 := Aside0.mk hB
              clear hB hget
              go_upto_region 38 with (fail)
              have HB32 : Aside0 (Below wr.heap.size wr (w31.alloc (.cells #[.string q.f0, .int .i64 q.f1, .int .i64 q.f2, .int .i64 q.f3, .int .i64 q.f4] 50))) := ⟨below_alloc HB31.out _⟩
              have HX32 : Aside0 ((w31.alloc (.cells #[.string q.f0, .int .i64 q.f1, .int .i64 q.f2, .int .i64 q.f3, .int .i64 q.f4] 50)).heap[w31.heap.size]? = some (.cells #[.string q.f0, .int .i64 q.f1, .int .i64 q.f2, .int .i64 q.f3, .int .i64 q.f4] 50 (0, 0))) := ⟨(MapKept.heap_alloc w31 _).1⟩
              generalize (w31.alloc (.cells #[.string q.f0, .int .i64 q.f1, .int .i64 q.f2, .int .i64 q.f3, .int .i64 q.f4] 50)) = W32 at HB32 HX32 ⊢
              generalize w31.heap.size = gx at HX32 ⊢
              have x0 : W32.cell? ⟨gx, 0, none⟩ = some (.string q.f0) := (blk_cell HX32.out 0).trans rfl
              have HM32 := Aside0.mk (HM.out.below HB32.out)
              have HF32 := Aside0.mk (HFR.out.below HB32.out)
              have HK32 : Aside0 (KeepB B2 gt W20 W32) := ⟨HKB.out.trans (KeepB.of_below HB32.out HBS.out)⟩
              have HS32 : Aside0 (B2 ≤ W32.heap.size) := ⟨Nat.le_trans HBS.out HB32.out.size⟩
              clear HM HFR HKB HBS HKE HB31 HB32 HX32 hx HTW
              go_wp2_with (first
                | (at_lookup; refine wpList_lookup_iG _ (wanted_on rfl rfl rfl rfl) _ _ 47 rfl Try.underlying47 gf T.length (fm T) rfl HF32.out q.f0 HQZ.out rfl ?_; rw [HQ2.out])
                | (at_lookup; refine wpList_lookup_iG _ (wanted_on rfl rfl rfl rfl) _ _ 47 rfl Try.underlying47 gt (lS.length + j) (fm (U.take (lS.length + j))) rfl HM32.out id (by have := HSZ.out.1; unfold maxLen; omega) rfl ?_; rw [fm_absent HN1.out])
                | (at_mapUpdate; refine wpList_update_i _ rfl _ _ _ 47 rfl Try.underlying47 gt (lS.length + j) _ rfl HM32.out (by unfold maxLen; omega) id (by have := HSZ.out.1; unfold maxLen; omega) rfl 2 rfl ?_; intro w1 hm1 hg1; have HM1 := Aside0.mk (hm1.congr (fun y => fm_snoc HN1.out y)); have HK1 : Aside0 (KeepB B2 gt W20 w1) := ⟨HK32.out.trans (KeepB.map hg1 HS32.out)⟩; have HS1' : Aside0 (B2 ≤ w1.heap.size) := ⟨Nat.le_trans HS32.out hg1.size⟩; clear hm1 hg1))
              go_roundw
              case rel => exact ⟨j + 1, by omega, by go_num, ⟨by rw [← Nat.add_assoc, HN2.out]; exact HM1.out⟩, HK1, HS1'⟩
              case measure => simp [intOf]; omega
            · obtain rfl : j = lM.length := by omega
              have hMU : IAt wr gt (lS.length + lM.length) (fm U) := by
                have h := HM.out
                rwa [List.take_of_length_le (by rw [HUE.out]; simp)] at h
              have HMU := Aside0.mk hMU
              have HTW := Aside0.mk (HT20.out.map HU0.out HKE.out)
              have HBW : Aside0 (Below w.heap.size w wr) := ⟨HKE.out.toBelow HB20.out (by have := HGTF.out; omega) HB20.out.size⟩
              have a5 : wr.cell? ⟨g4, 0, none⟩ = some (.slice A1 r.length c1) := (blk_cell (HKE.out.blk HK20.out (blk_lt HK20.out) (by have := HGTF.out; omega)) 0).trans rfl
              obtain ⟨W40, hW40⟩ : ∃ W40, W40 = wr := ⟨_, rfl⟩
              rw [← hW40] at HMU HTW HBW
              have HW0 : Aside0 (Below W40.heap.size W40 wr) := ⟨by rw [hW40]; exact Below.refl _ _⟩
              clear hMU HM HKB HBS HKE hW40
              go_wp2_with (fail)
              go_loopw [186] (fun v186 wr => ∃ j : Nat, j ≤ r.length ∧ v186 = .int .i64 j ∧ Aside0 (Below W40.heap.size W40 wr)) (fun v186 _ => r.length - (intOf v186).toNat)
              case atStart => exact ⟨0, Nat.zero_le _, rfl, HW0⟩
              case round =>
                clear a5 HW0
                obtain ⟨j, hj, rfl, HW⟩ := hrel
                by_cases hjt : j < r.length
                · obtain ⟨ad, hA1, hx⟩ := Kd.at_string (Kd.C_below H1.out (below_step HBW.out HW.out)) (j : Int) (by omega) (by omega)
                  rw [rd9_get hjt, Int.toNat_natCast] at hx
                  have hmem := List.getElem_mem hjt
                  have hs := HS1.out r[j] hmem
                  have hrt := HRT.out r[j] hmem
                  generalize r[j] = id at hx hs hrt
                  have HSZ := Aside0.mk hs
                  have hml : j < maxLen := by unfold maxLen; omega
                  have hget := get_calls B g (tF l) id wr (HTW.out.below HW.out) (by have := tF_len l (bk id) (by omega); omega) (tF_good l (bk id)).1
                  rw [getP_all (tF_good l), tF_all] at hget
                  obtain ⟨q, b, hq⟩ : ∃ q b, getP (tL l) id = (q, b) := ⟨_, _, rfl⟩
                  rw [hq] at hget hrt
                  simp only at hrt hget
                  subst hA1
                  clear hs hmem hq
                  have HRTI := Aside0.mk hrt
                  clear hrt
                  go_wp2_with (fail)
                  refine hget.mono ?_
                  rintro e w31 ⟨rfl, hB⟩
                  have HB31 := Aside0.mk hB
                  clear hB hget
                  go_upto_region 46 with (fail)
                  have HB32 : Aside0 (Below W40.heap.size W40 (w31.alloc (.cells #[.string q.f0, .int .i64 q.f1, .int .i64 q.f2, .int .i64 q.f3, .int .i64 q.f4] 50))) := ⟨below_alloc (below_step HW.out HB31.out) _⟩
                  generalize (w31.alloc (.cells #[.string q.f0, .int .i64 q.f1, .int .i64 q.f2, .int .i64 q.f3, .int .i64 q.f4] 50)) = W32 at HB32 ⊢
                  have HM32 := Aside0.mk (HMU.out.below HB32.out)
                  clear HB31 HW hx
                  cases b with
                  | false =>
                    go_wp2_with (fail)
                    go_roundw
                    case rel => exact ⟨j + 1, by omega, by go_num, HB32⟩
                    case measure => simp [intOf]; omega
                  | true =>
                    have hne := HRTI.out rfl
                    obtain ⟨vv, hvv⟩ : ∃ vv, vv = fm U id.data.toList := ⟨_, rfl⟩
                    rw [← hvv] at hne
                    have HVV := Aside0.mk hvv
                    have hnb : (vv == 0) = false := beq_eq_false_iff_ne.2 hne
                    clear hvv hne
                    go_wp2_with (first | (at_lookup; refine wpList_lookup_iG _ (wanted_on rfl rfl rfl rfl) _ _ 47 rfl Try.underlying47 gt (lS.length + lM.length) (fm U) rfl HM32.out id HSZ.out rfl ?_; rw [← HVV.out]))
                    go_roundw
                    case rel => exact ⟨j + 1, by omega, by go_num, HB32⟩
                    case measure => simp [intOf]; omega
                · obtain rfl : j = r.length := by omega
                  go_wp2_with (fail)
                  go_ret
                  exact ⟨rfl, below_step HBW.out HW.out⟩
end Go.Proofs.Ytoiedcnhojkpiaa.Q
