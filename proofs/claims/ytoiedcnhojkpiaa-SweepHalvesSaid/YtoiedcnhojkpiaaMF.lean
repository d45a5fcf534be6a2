/- Of the proofs about sweep: several texts, joined. -/
import Derived.Test.YtoiedcnhojkpiaaME
namespace Go.Proofs.Ytoiedcnhojkpiaa.Q
open Go.RowKit Go.Maps Go.Proofs.YtoiedcnhojkpiaaW.PrintWords Go.Proofs.YtoiedcnhojkpiaaW.PrintLast Go.Proofs.YtoiedcnhojkpiaaW.PrintMore
/-! ### Maps from texts to two numbers -/
def wD (p : Int × Int) : DataW Unit := .agg [.lit (.int .i64 p.1), .lit (.int .i64 p.2)]
def wElem : Value → Option (DataW Unit × List MemPlace)
  | .agg cs => match cs.toList with
    | [.int .i64 a, .int .i64 b] => some (wD (a, b), [])
    | _ => none
  | _ => none
theorem wElem_mk (a b : Int) : wElem (.agg #[.int .i64 a, .int .i64 b]) = some (wD (a, b), []) := rfl
theorem wElem_inv {v : Value} {p : Int × Int} {ps : List MemPlace} (h : wElem v = some (wD p, ps)) : v = .agg #[.int .i64 p.1, .int .i64 p.2] := by
  unfold wElem at h
  split at h
  · rename_i cs
    split at h
    · rename_i a b hcs
      have e : cs = #[.int .i64 a, .int .i64 b] := Array.toList_inj.1 hcs
      simp only [wD, Option.some.injEq, Prod.mk.injEq, DataW.agg.injEq, List.cons.injEq, DataW.lit.injEq, Lit.int.injEq, true_and, and_true] at h
      rw [e, h.1.1, h.1.2]
    · cases h
  · cases h
theorem zero123 (w : World) : (zeroValue 123).run Try.prog w = .ok (.agg #[.int .i64 0, .int .i64 0]) w := by kernel_rfl
/-- Block b is a map of at most n entries that reads as f, (0, 0) where it has none. -/
def WAt (w : World) (b n : Nat) (f : List UInt8 → Int × Int) : Prop :=
  ∃ D : DataW Unit, w.ownsMap Try.prog 9 wElem b n D ∧ ∀ x, (Maps.has D (.string x) = true ∧ ∀ z, D.atKey (.string x) z = wD (f x)) ∨ (Maps.has D (.string x) = false ∧ f x = (0, 0))
theorem WAt.made (w : World) : WAt (w.alloc (.map #[] 0)) w.heap.size 0 (fun _ => (0, 0)) := ⟨_, World.ownsMap_made w _ _ _, fun _ => .inr ⟨rfl, rfl⟩⟩
theorem WAt.kept {w w' : World} {b n : Nat} {f : List UInt8 → Int × Int} {row : Option Nat} (h : WAt w b n f) (hg : w.grownBy w' row) (hne : some b ≠ row) : WAt w' b n f := by
  obtain ⟨D, h1, h2⟩ := h
  exact ⟨D, h1.kept hg hne, h2⟩
theorem WAt.below {w w' : World} {b n : Nat} {f : List UInt8 → Int × Int} (h : WAt w b n f) (hb : Below w.heap.size w w') : WAt w' b n f := h.kept (grown_of_below hb none) (by simp)
theorem WAt.congr {w : World} {b n : Nat} {f g : List UInt8 → Int × Int} (h : WAt w b n f) (hfg : ∀ x, f x = g x) : WAt w b n g := by
  rwa [show g = f from funext fun x => (hfg x).symm]
section
variable (w : World) {ops : Array Oper} {rest : List Oper} {o : Oper} {a : Act} {Q : Exit → Act → World → Prop}
theorem WAt.look {w : World} {t b n : Nat} {f : List UInt8 → Int × Int} {s : ByteArray} (h : WAt w b n f) (ht : Try.prog.underlying t = some (.map 9 123)) (hs : s.size ≤ maxLen) : (Instr.lookup t (.map (some b)) (.string s) false).run Try.prog w = .ok (.agg #[.int .i64 (f s.data.toList).1, .int .i64 (f s.data.toList).2]) w := by
  obtain ⟨D, h1, h2⟩ := h
  obtain ⟨v, ps, hrun, hR⟩ := h1.lookup law9 ht (zero123 w) (wElem_mk 0 0) (WideMaps.keyOf_string_mk Try.underlying9 hs)
  rcases h2 s.data.toList with ⟨_, h3⟩ | ⟨h3, h4⟩
  · rw [h3] at hR
    rw [hrun, wElem_inv hR]
  · rw [atKey_of_not_has h3] at hR
    rw [hrun, wElem_inv hR, h4]
theorem wpList_lookup_w (hg : o.guard = none) (m x : Operand) (t : TypeId) (hop : o.op = Op.lookup t m x false) (ht : Try.prog.underlying t = some (.map 9 123)) (b n : Nat) (f : List UInt8 → Int × Int)
    (hm : a.eval m = .map (some b)) (hown : WAt w b n f) (s : ByteArray) (hs : s.size ≤ maxLen) (hx : a.eval x = .string s)
    (hK : wpList Try.prog ops Q rest (a.put o.dst (.agg #[.int .i64 (f s.data.toList).1, .int .i64 (f s.data.toList).2])) w) : wpList Try.prog ops Q (o :: rest) a w := by
  refine wpList_plain hg fun K' hK' => ?_
  have hrun := hown.look ht hs
  unfold Oper.wp
  simp [execOp, hop, hm, hx, hrun, Result.andThen]
  exact hK' _ _ hK
theorem wpList_update_w (hg : o.guard = none) (m x v : Operand) (t : TypeId) (hop : o.op = Op.mapUpdate t m x v) (ht : Try.prog.underlying t = some (.map 9 123)) (b n : Nat) (f : List UInt8 → Int × Int)
    (hm : a.eval m = .map (some b)) (hown : WAt w b n f) (hn : n < maxLen) (s : ByteArray) (hs : s.size ≤ maxLen) (hx : a.eval x = .string s) (p q : Int) (hv : a.eval v = .agg #[.int .i64 p, .int .i64 q])
    (hK : ∀ w', WAt w' b (n + 1) (fun y => if y = s.data.toList then (p, q) else f y) → w.grownBy w' (some b) → wpList Try.prog ops Q rest (a.put o.dst undef) w') : wpList Try.prog ops Q (o :: rest) a w := by
  obtain ⟨D, h1, h2⟩ := hown
  have hkey := WideMaps.keyOf_string_mk (P := Try.prog) Try.underlying9 hs
  refine wpList_mapUpdate_own w hg m x v t hop 9 123 law9 ht _ b n D hm h1 hn _ _ _ hx hv hkey (wD (p, q)) [] (wElem_mk p q) (fun w' hw hgw => hK w' ⟨_, hw, fun y => ?_⟩ hgw)
  have hk : WideAt.IsKeyLit (.string s.data.toList) := law9.key hkey
  by_cases e : y = s.data.toList
  · subst e
    exact .inl ⟨has_put_same h1.isMap hk _, fun z => by rw [atKey_put_same h1.isMap hk]; simp⟩
  · have hne : Lit.string y ≠ Lit.string s.data.toList := fun h => e (by injection h)
    rcases h2 y with ⟨h3, h4⟩ | ⟨h3, h4⟩
    · exact .inl ⟨by rw [has_put_other hne]; exact h3, fun z => by rw [atKey_put_other hne, h4]; simp [e]⟩
    · exact .inr ⟨by rw [has_put_other hne]; exact h3, by simp [e, h4]⟩
end
/-! ### The plain law -/
def eq50 (a b : S50) : Bool := a.f0.toList == b.f0.toList && (a.f1 == b.f1 && (a.f2 == b.f2 && (a.f3 == b.f3 && a.f4 == b.f4)))
theorem eq50_iff (a b : S50) : eq50 a b = true ↔ a = b := by
  unfold eq50
  simp only [Bool.and_eq_true, beq_iff_eq]
  constructor
  · rintro ⟨h0, h1, h2, h3, h4⟩
    exact S50.eta_ (eq_of_toList h0) h1 h2 h3 h4
  · rintro rfl
    simp
/-- Does an item's place count as used? -/
def live (l : List S52) (reach : List UInt8 → Bool) (x : S52) : Bool := reach x.f0.data.toList && eq50 (getP l x.f0).1 x.f1
def wStep (F : Nat → List S52) (reach : List UInt8 → Bool) (f : List UInt8 → Int × Int) (x : S52) : List UInt8 → Int × Int := fun y =>
  if y = x.f1.f0.data.toList then ((f x.f1.f0.data.toList).1 + (if live (F (bk x.f0)) reach x = true then x.f1.f3 else 0), (f x.f1.f0.data.toList).2 + x.f1.f3) else f y
def wOf (F : Nat → List S52) (reach : List UInt8 → Bool) (l : List S52) : List UInt8 → Int × Int := l.foldl (wStep F reach) (fun _ => (0, 0))
theorem wOf_take (F : Nat → List S52) (reach : List UInt8 → Bool) (l : List S52) (k : Nat) (h : k < l.length) : wOf F reach (l.take (k + 1)) = wStep F reach (wOf F reach (l.take k)) l[k] := by
  unfold wOf
  rw [List.take_succ_eq_append_getElem h, List.foldl_append]
  rfl
theorem wOf_bound (F : Nat → List S52) (reach : List UInt8 → Bool) : ∀ (l : List S52) (f : List UInt8 → Int × Int) (n : Nat), (∀ x ∈ l, 0 ≤ x.f1.f3 ∧ x.f1.f3 ≤ 65536) → (∀ y, 0 ≤ (f y).1 ∧ (f y).1 ≤ n * 65536 ∧ 0 ≤ (f y).2 ∧ (f y).2 ≤ n * 65536) →
    ∀ y, 0 ≤ (l.foldl (wStep F reach) f y).1 ∧ (l.foldl (wStep F reach) f y).1 ≤ (n + l.length : Nat) * 65536 ∧ 0 ≤ (l.foldl (wStep F reach) f y).2 ∧ (l.foldl (wStep F reach) f y).2 ≤ (n + l.length : Nat) * 65536
  | [], f, n, _, h, y => by simpa using h y
  | a :: l, f, n, hl, h, y => by
    have h1 := hl a (by simp)
    have := wOf_bound F reach l (wStep F reach f a) (n + 1) (fun x hx => hl x (by simp [hx])) (fun z => by
      unfold wStep
      have h2 := h a.f1.f0.data.toList
      have h3 := h z
      split
      · split <;> (simp only; omega)
      · omega) y
    simp only [List.foldl_cons, List.length_cons]
    rwa [show n + (l.length + 1) = n + 1 + l.length by omega]
/-- A row stays while a map is written. -/
theorem R_map {α : Type} {d : Kd α} {e base b : Nat} {w w1 : World} {ok : Nat → Prop} {v : Value} {xs : List α} {es : Array MapEntry} {cl : Nat} (h : Kd.R d e w base ok v xs) (hb : w.heap[b]? = some (.map es cl)) (hg : w.grownBy w1 (some b)) : Kd.R d e w1 base ok v xs := by
  refine Kd.R_mono (Kd.R_grown (Kd.R_bound h) hg (fun k hk he => ?_)) (fun k hk => hk.1)
  obtain ⟨_, _, _, q, hq, cells, hc⟩ := hk
  injection he with he
  rw [he, hb] at hc
  injection hc with hc
  cases hc
theorem WAt.blk {w : World} {b n : Nat} {f : List UInt8 → Int × Int} (h : WAt w b n f) : ∃ es cl, w.heap[b]? = some (.map es cl) := by
  obtain ⟨D, ⟨es, cl, hb, _⟩, _⟩ := h
  exact ⟨es, cl, hb⟩
theorem SetAt.blk {w : World} {b n : Nat} {p : List UInt8 → Bool} (h : SetAt w b n p) : ∃ es cl, w.heap[b]? = some (.map es cl) := by
  obtain ⟨D, ⟨es, cl, hb, _⟩, _⟩ := h
  exact ⟨es, cl, hb⟩
theorem allF_mem (F : Nat → List S52) (x : S52) : x ∈ allF F ↔ ∃ j, j < 256 ∧ x ∈ F j := by
  unfold allF
  simp only [List.mem_flatten, List.mem_map, List.mem_range]
  constructor
  · rintro ⟨l, ⟨j, hj, rfl⟩, hx⟩
    exact ⟨j, hj, hx⟩
  · rintro ⟨j, hj, hx⟩
    exact ⟨_, ⟨j, hj, rfl⟩, hx⟩
theorem size32 {x : S52} (h : chk x = true) : x.f0.size = 32 ∧ x.f1.f0.size = 32 ∧ 1 ≤ x.f1.f3 ∧ x.f1.f3 ≤ 65536 := by
  have := of_decide_eq_true h
  exact ⟨this.2.1, this.2.2.1, this.2.2.2.2.1.1, this.2.2.2.2.1.2⟩
set_option maxHeartbeats 4000000 in
set_option maxRecDepth 100000 in
theorem weigh_calls (base g gr nr : Nat) (F : Nat → List S52) (reach : List UInt8 → Bool) (w : World) (h : Tab w base g F) (hr : SetAt w gr nr reach) (hG : GoodF F) (hF : ∀ j, (F j).length ≤ 2000) (hl : (allF F).length ≤ 5000) :
    Calls Try.prog 35 #[.pointer (some ⟨g, 0, none⟩), .map (some gr)] w fun e w' => e = .returned (.map (some w.heap.size)) ∧ WAt w' w.heap.size (allF F).length (wOf F reach (allF F)) ∧ Below w.heap.size w w' := by
  have hmm := @run_makeMap Try.prog
  have HT := Aside0.mk h
  have HRE := Aside0.mk hr
  have HG := Aside0.mk hG
  have HF := Aside0.mk hF
  have HL := Aside0.mk hl
  have HGA : Aside0 (∀ x ∈ allF F, chk x = true) := ⟨fun x hx => by obtain ⟨j, _, hj⟩ := (allF_mem F x).1 hx; exact ((hG j).2 x hj).2⟩
  have hA := fun (W : World) (hW : Tab W base g F) => all_calls base g F W hW (by omega)
  clear h hr hG hF hl
  generalize allF F = l at hA HL HGA ⊢
  go_enter Try.func35, Try.ntmps35
  go_wp2_with (fail)
  refine (hA _ (HT.out.below (below_alloc (Below.refl _ _) _))).mono ?_
  rintro e w1 ⟨v, rfl, hR, hB⟩
  obtain ⟨A, c, rfl, _, _⟩ := Kd.R_reads hR
  have HC := Aside0.mk (Kd.R_lower hR (show w.heap.size ≤ _ by simp))
  have HM := Aside0.mk ((WAt.made w).below hB)
  have HB0 := Aside0.mk (below_step ((Below.refl w.heap.size w).alloc (Nat.le_refl _) (.map #[] 0)) hB)
  clear hR hB hA
  have hlb : l.length ≤ 5000 := HL.out
  go_wp2_with (fail)
  go_loopw [15] (fun v15 wr => ∃ k : Nat, k ≤ l.length ∧ v15 = .int .i64 k ∧ Aside0 (WAt wr w.heap.size k (wOf F reach (l.take k))) ∧ Aside0 (Below w.heap.size w wr) ∧ Aside0 (Kd.R k52 52 wr w.heap.size (fun _ => True) (.slice A l.length c) l)) (fun v15 _ => l.length - (intOf v15).toNat)
  case atStart => exact ⟨0, Nat.zero_le _, rfl, HM, HB0, HC⟩
  case round =>
    clear HB0 HC HM
    obtain ⟨k, hk, rfl, HM, HB, HC⟩ := hrel
    by_cases hlt : k < l.length
    · obtain ⟨ad, x, rfl, hx, h0, h1, h2, h3, h4, h5⟩ := at52 (C_of_R HC.out).1 k hlt
      have HX := Aside0.mk (wOf_take F reach l k hlt)
      have hx2 : l[k] = x := (List.getElem?_eq_some_iff.1 hx).2
      rw [hx2] at HX
      have hxl : x ∈ l := by rw [← hx2]; exact List.getElem_mem hlt
      obtain ⟨s0, s1, s2, s3⟩ := size32 (HGA.out x hxl)
      have hwb := wOf_bound F reach (l.take k) (fun _ => (0, 0)) 0 (fun y hy => by have := size32 (HGA.out y (List.mem_of_mem_take hy)); omega) (fun y => by simp) x.f1.f0.data.toList
      rw [← wOf] at hwb
      have hkl : (l.take k).length ≤ 5000 := by rw [List.length_take]; omega
      clear hx hx2 hxl
      generalize wOf F reach (l.take k) = f at HX HM hwb
      obtain ⟨a, b, hab⟩ : ∃ a b, f x.f1.f0.data.toList = (a, b) := ⟨_, _, rfl⟩
      rw [hab] at hwb
      simp only [Nat.zero_add] at hwb
      obtain ⟨ha0, ha1, hb0, hb1⟩ := hwb
      have ha2 : a ≤ 400000000 := by omega
      have hb2 : b ≤ 400000000 := by omega
      have HAB := Aside0.mk hab
      clear ha1 hb1 hkl hab
      go_upto_region 7 with (first | (at_lookup; refine wpList_lookup_w _ rfl _ _ 86 rfl Try.underlying86 w.heap.size k f rfl (HM.out.below (below_alloc (Below.refl _ _) _)) x.f1.f0 (by unfold maxLen; omega) rfl ?_; rw [HAB.out]))
      have HBX : Aside0 (Below wr.heap.size wr ((wr.alloc (.cells #[.string x.f0, .string x.f1.f0, .int .i64 x.f1.f1, .int .i64 x.f1.f2, .int .i64 x.f1.f3, .int .i64 x.f1.f4] 52)).alloc (.cells #[.int .i64 a, .int .i64 (b + x.f1.f3)] 123))) := ⟨below_alloc (below_alloc (Below.refl _ _) _) _⟩
      have HKX : Aside0 (((wr.alloc (.cells #[.string x.f0, .string x.f1.f0, .int .i64 x.f1.f1, .int .i64 x.f1.f2, .int .i64 x.f1.f3, .int .i64 x.f1.f4] 52)).alloc (.cells #[.int .i64 a, .int .i64 (b + x.f1.f3)] 123)).heap[wr.heap.size]? = some (.cells #[.string x.f0, .string x.f1.f0, .int .i64 x.f1.f1, .int .i64 x.f1.f2, .int .i64 x.f1.f3, .int .i64 x.f1.f4] 52 (0, 0))) := ⟨blk_below (MapKept.heap_alloc wr _).1 (below_alloc (Below.refl _ _) _)⟩
      have HKW : Aside0 (((wr.alloc (.cells #[.string x.f0, .string x.f1.f0, .int .i64 x.f1.f1, .int .i64 x.f1.f2, .int .i64 x.f1.f3, .int .i64 x.f1.f4] 52)).alloc (.cells #[.int .i64 a, .int .i64 (b + x.f1.f3)] 123)).heap[wr.heap.size + 1]? = some (.cells #[.int .i64 a, .int .i64 (b + x.f1.f3)] 123 (0, 0))) := ⟨by have := (MapKept.heap_alloc (wr.alloc (.cells #[.string x.f0, .string x.f1.f0, .int .i64 x.f1.f1, .int .i64 x.f1.f2, .int .i64 x.f1.f3, .int .i64 x.f1.f4] 52)) (.cells #[.int .i64 a, .int .i64 (b + x.f1.f3)] 123)).1; simpa using this⟩
      generalize ((wr.alloc (.cells #[.string x.f0, .string x.f1.f0, .int .i64 x.f1.f1, .int .i64 x.f1.f2, .int .i64 x.f1.f3, .int .i64 x.f1.f4] 52)).alloc (.cells #[.int .i64 a, .int .i64 (b + x.f1.f3)] 123)) = W at HBX HKX HKW ⊢
      have HM2 := Aside0.mk (HM.out.below HBX.out)
      have HB2 := Aside0.mk (below_step HB.out HBX.out)
      have HC2 := Aside0.mk (Kd.R_below HC.out HBX.out)
      have HGE : Aside0 (w.heap.size ≤ wr.heap.size) := ⟨HB.out.size⟩
      clear HM HB HC HBX h0 h1 h2 h3 h4 h5
      generalize wr.heap.size = gx at HKX HKW HGE ⊢
      have c0 : W.cell? ⟨gx, 0, none⟩ = some (.string x.f0) := (blk_cell HKX.out 0).trans rfl
      go_wp2_with (fail)
      refine (get_calls base g F x.f0 W (HT.out.below HB2.out) (by have := HF.out (bk x.f0); omega) (HG.out (bk x.f0)).1).mono ?_
      rintro e w2 ⟨rfl, hB⟩
      have HM3 := Aside0.mk (HM2.out.below hB)
      have HB3 := Aside0.mk (below_step HB2.out hB)
      have HC3 := Aside0.mk (Kd.R_below HC2.out hB)
      have HKX3 := Aside0.mk (blk_below HKX.out hB)
      have HKW3 := Aside0.mk (blk_below HKW.out hB)
      clear HM2 HB2 HC2 HKX HKW c0 hB
      have HLV : Aside0 (live (F (bk x.f0)) reach x = (reach x.f0.data.toList && eq50 (getP (F (bk x.f0)) x.f0).1 x.f1)) := ⟨rfl⟩
      generalize (getP (F (bk x.f0)) x.f0).1 = ow at HLV ⊢
      generalize (getP (F (bk x.f0)) x.f0).2 = okk
      go_upto_region 8 with (fail)
      have HBX : Aside0 (Below w2.heap.size w2 (w2.alloc (.cells #[.string ow.f0, .int .i64 ow.f1, .int .i64 ow.f2, .int .i64 ow.f3, .int .i64 ow.f4] 50))) := ⟨below_alloc (Below.refl _ _) _⟩
      have HKO : Aside0 ((w2.alloc (.cells #[.string ow.f0, .int .i64 ow.f1, .int .i64 ow.f2, .int .i64 ow.f3, .int .i64 ow.f4] 50)).heap[w2.heap.size]? = some (.cells #[.string ow.f0, .int .i64 ow.f1, .int .i64 ow.f2, .int .i64 ow.f3, .int .i64 ow.f4] 50 (0, 0))) := ⟨(MapKept.heap_alloc w2 _).1⟩
      generalize (w2.alloc (.cells #[.string ow.f0, .int .i64 ow.f1, .int .i64 ow.f2, .int .i64 ow.f3, .int .i64 ow.f4] 50)) = W4 at HBX HKO ⊢
      have HM4 := Aside0.mk (HM3.out.below HBX.out)
      have HB4 := Aside0.mk (below_step HB3.out HBX.out)
      have HC4 := Aside0.mk (Kd.R_below HC3.out HBX.out)
      have HKX4 := Aside0.mk (blk_below HKX3.out HBX.out)
      have HKW4 := Aside0.mk (blk_below HKW3.out HBX.out)
      clear HM3 HB3 HC3 HKX3 HKW3 HBX
      generalize w2.heap.size = go at HKO ⊢
      have x0 : W4.cell? ⟨gx, 0, none⟩ = some (.string x.f0) := (blk_cell HKX4.out 0).trans rfl
      have x1 : W4.cell? ⟨gx, 1, none⟩ = some (.string x.f1.f0) := (blk_cell HKX4.out 1).trans rfl
      have x2 : W4.cell? ⟨gx, 2, none⟩ = some (.int .i64 x.f1.f1) := (blk_cell HKX4.out 2).trans rfl
      have x3 : W4.cell? ⟨gx, 3, none⟩ = some (.int .i64 x.f1.f2) := (blk_cell HKX4.out 3).trans rfl
      have x4 : W4.cell? ⟨gx, 4, none⟩ = some (.int .i64 x.f1.f3) := (blk_cell HKX4.out 4).trans rfl
      have x5 : W4.cell? ⟨gx, 5, none⟩ = some (.int .i64 x.f1.f4) := (blk_cell HKX4.out 5).trans rfl
      have y0 : W4.cell? ⟨go, 0, none⟩ = some (.string ow.f0) := (blk_cell HKO.out 0).trans rfl
      have y1 : W4.cell? ⟨go, 1, none⟩ = some (.int .i64 ow.f1) := (blk_cell HKO.out 1).trans rfl
      have y2 : W4.cell? ⟨go, 2, none⟩ = some (.int .i64 ow.f2) := (blk_cell HKO.out 2).trans rfl
      have y3 : W4.cell? ⟨go, 3, none⟩ = some (.int .i64 ow.f3) := (blk_cell HKO.out 3).trans rfl
      have y4 : W4.cell? ⟨go, 4, none⟩ = some (.int .i64 ow.f4) := (blk_cell HKO.out 4).trans rfl
      have z0 : W4.cell? ⟨gx + 1, 0, none⟩ = some (.int .i64 a) := (blk_cell HKW4.out 0).trans rfl
      have z1 : W4.cell? ⟨gx + 1, 1, none⟩ = some (.int .i64 (b + x.f1.f3)) := (blk_cell HKW4.out 1).trans rfl
      have zf := blk_frozen HKW4.out 0
      have hkm : k < maxLen := by unfold maxLen; omega
      have hsm : x.f1.f0.size ≤ maxLen := by unfold maxLen; omega
      have hbr : b + x.f1.f3 ≤ 800000000 := by omega
      have har : a + x.f1.f3 ≤ 800000000 := by omega
      by_cases hre : reach x.f0.data.toList = true
      · by_cases hee : eq50 ow x.f1 = true
        · have HLT : Aside0 (live (F (bk x.f0)) reach x = true) := ⟨by rw [HLV.out, hre, hee]; rfl⟩
          have hee2 := (eq50_iff _ _).1 hee
          clear hee
          subst hee2
          have HW : Aside0 (∀ y, (if y = x.f1.f0.data.toList then (a + x.f1.f3, b + x.f1.f3) else f y) = wStep F reach f x y) := ⟨fun y => by unfold wStep; rw [HLT.out, HAB.out]; simp⟩
          have HGX : Aside0 (w.heap.size < gx + 1 ∧ ∀ es cl, W4.heap[w.heap.size]? = some (.map es cl) → w.heap.size ≠ gx + 1) := ⟨by have := HGE.out; omega, fun _ _ _ => by have := HGE.out; omega⟩
          have HMS : Aside0 (WAt (W4.setCell ⟨gx + 1, 0, none⟩ (.int .i64 (a + x.f1.f3))) w.heap.size k f) := ⟨HM4.out.kept (setCells_grown (gx + 1) [.int .i64 (a + x.f1.f3)] 0 W4) (fun e => by injection e with e; have := HGX.out.1; omega)⟩
          have HBS : Aside0 (Below w.heap.size w (W4.setCell ⟨gx + 1, 0, none⟩ (.int .i64 (a + x.f1.f3)))) := ⟨below_set HB4.out (by have := HGX.out.1; omega)⟩
          have HCS : Aside0 (Kd.R k52 52 (W4.setCell ⟨gx + 1, 0, none⟩ (.int .i64 (a + x.f1.f3))) w.heap.size (fun _ => True) (.slice (some ad) l.length c) l) := ⟨Kd.R_set HC4.out HKW4.out (by decide) 0 _⟩
          go_wp2_with (first | (at_lookup; refine wpList_lookup_set _ rfl _ _ 81 rfl Try.underlying81 gr nr reach rfl (HRE.out.below HB4.out) x.f0 (by unfold maxLen; omega) rfl ?_) | (at_mapUpdate; refine wpList_update_w _ rfl _ _ _ 86 rfl Try.underlying86 w.heap.size k f rfl HMS.out hkm x.f1.f0 hsm rfl (a + x.f1.f3) (b + x.f1.f3) rfl ?_; intro w6 hm6 hg6; obtain ⟨es6, cl6, hb6⟩ := (HMS.out).blk; have HM6 := Aside0.mk hm6; have HB6 := Aside0.mk (below_map HBS.out hg6 HBS.out.size (Nat.le_refl _)); have HC6 := Aside0.mk (R_map HCS.out hb6 hg6); clear hm6 hg6 hb6))
          go_roundw
          case rel => exact ⟨k + 1, by omega, by go_num, ⟨by rw [HX.out]; exact HM6.out.congr HW.out⟩, HB6, HC6⟩
          case measure => simp [intOf]; omega
        · have hee2 : eq50 ow x.f1 = false := eq_false_of_ne_true hee
          have HW : Aside0 (∀ y, (if y = x.f1.f0.data.toList then (a, b + x.f1.f3) else f y) = wStep F reach f x y) := ⟨fun y => by unfold wStep; rw [HLV.out, hre, hee2, HAB.out]; simp⟩
          clear hee
          unfold eq50 at hee2
          go_wp2_with (first | (at_lookup; refine wpList_lookup_set _ rfl _ _ 81 rfl Try.underlying81 gr nr reach rfl (HRE.out.below HB4.out) x.f0 (by unfold maxLen; omega) rfl ?_) | (at_mapUpdate; refine wpList_update_w _ rfl _ _ _ 86 rfl Try.underlying86 w.heap.size k f rfl HM4.out (by unfold maxLen; omega) x.f1.f0 (by unfold maxLen; omega) rfl (a) (b + x.f1.f3) rfl ?_; intro w6 hm6 hg6; obtain ⟨es6, cl6, hb6⟩ := (HM4.out).blk; have HM6 := Aside0.mk hm6; have HB6 := Aside0.mk (below_map HB4.out hg6 HB4.out.size (Nat.le_refl _)); have HC6 := Aside0.mk (R_map HC4.out hb6 hg6); clear hm6 hg6 hb6))
          all_goals first | (exfalso; have e0 : ow.f0.toList = x.f1.f0.toList := (by assumption); have e1 : ow.f1 = x.f1.f1 := (by assumption); have e2 : ow.f2 = x.f1.f2 := (by assumption); have e3 : ow.f3 = x.f1.f3 := (by assumption); have e4 : ow.f4 = x.f1.f4 := (by assumption); rw [e0, e1, e2, e3, e4] at hee2; simp at hee2; done) | skip
          all_goals go_roundw
          all_goals first
            | exact ⟨k + 1, by omega, by go_num, ⟨by rw [HX.out]; exact HM6.out.congr HW.out⟩, HB6, HC6⟩
            | (simp [intOf]; omega)
      · have hre2 := eq_false_of_ne_true hre
        have HW : Aside0 (∀ y, (if y = x.f1.f0.data.toList then (a, b + x.f1.f3) else f y) = wStep F reach f x y) := ⟨fun y => by unfold wStep; rw [HLV.out, hre2, HAB.out]; simp⟩
        clear hre
        go_wp2_with (first | (at_lookup; refine wpList_lookup_set _ rfl _ _ 81 rfl Try.underlying81 gr nr reach rfl (HRE.out.below HB4.out) x.f0 (by unfold maxLen; omega) rfl ?_) | (at_mapUpdate; refine wpList_update_w _ rfl _ _ _ 86 rfl Try.underlying86 w.heap.size k f rfl HM4.out (by unfold maxLen; omega) x.f1.f0 (by unfold maxLen; omega) rfl (a) (b + x.f1.f3) rfl ?_; intro w6 hm6 hg6; obtain ⟨es6, cl6, hb6⟩ := (HM4.out).blk; have HM6 := Aside0.mk hm6; have HB6 := Aside0.mk (below_map HB4.out hg6 HB4.out.size (Nat.le_refl _)); have HC6 := Aside0.mk (R_map HC4.out hb6 hg6); clear hm6 hg6 hb6))
        go_roundw
        case rel => exact ⟨k + 1, by omega, by go_num, ⟨by rw [HX.out]; exact HM6.out.congr HW.out⟩, HB6, HC6⟩
        case measure => simp [intOf]; omega
    · obtain rfl : k = l.length := by omega
      go_wp2_with (fail)
      go_ret
      exact ⟨rfl, by have := HM.out; rwa [List.take_length] at this, HB.out⟩
end Go.Proofs.Ytoiedcnhojkpiaa.Q
/- sweep's fates: walked. -/
namespace Go.Proofs.Ytoiedcnhojkpiaa.Q
open Go.RowKit Go.Maps Go.Proofs.YtoiedcnhojkpiaaW.PrintWords Go.Proofs.YtoiedcnhojkpiaaW.PrintLast Go.Proofs.YtoiedcnhojkpiaaW.PrintMore
/-- No row is both. -/
def Dis (u v : Value) : Prop := ∀ k, u.ownBlock = some k → v.ownBlock ≠ some k
theorem Dis.symm {u v : Value} (h : Dis u v) : Dis v u := fun k hk he => h k he hk
theorem Dis.nil (v : Value) : Dis (.slice none 0 0) v := fun k hk => by cases hk
theorem keep_dis {α : Type} {d : Kd α} {e B : Nat} {W w1 : World} {u v v1 : Value} {xs : List α} (hu : Kd.R d e W B (fun _ => True) u xs) (hE : d.E = []) (hd : Dis u v) (hg : W.grownBy w1 v.ownBlock) (hat : v1.ownBlock = v.ownBlock ∨ ∃ b, v1.ownBlock = some b ∧ W.heap.size ≤ b) : Kd.R d e w1 B (fun _ => True) u xs ∧ Dis u v1 := by
  refine ⟨Kd.R_grown2 hu hE hg (fun k hk he => hd k he.symm hk), fun k hk he => ?_⟩
  rcases hat with h | ⟨b, h, hb⟩
  · rw [h] at he
    exact hd k hk he
  · rw [h] at he
    injection he with he
    obtain ⟨inner, ho⟩ := Kd.R_own hu
    have := own_lt ho k hk
    omega
/-- What becomes of a pack. -/
def fate (f : List UInt8 → Int × Int) (percent : Int) (s : ByteArray) : Nat :=
  if (f s.data.toList).1 = 0 then 0 else if ((f s.data.toList).2 - (f s.data.toList).1) * 100 ≤ percent * (f s.data.toList).2 then 2 else 1
def fated (f : List UInt8 → Int × Int) (percent : Int) (n : Nat) (l : List ByteArray) : List ByteArray := l.filter fun s => fate f percent s == n
theorem fated_take (f : List UInt8 → Int × Int) (percent : Int) (n : Nat) (l : List ByteArray) (k : Nat) (h : k < l.length) : fated f percent n (l.take (k + 1)) = fated f percent n (l.take k) ++ (if fate f percent l[k] == n then [l[k]] else []) := by
  unfold fated
  rw [List.take_succ_eq_append_getElem h, List.filter_append]
  congr 1
  by_cases hf : fate f percent l[k] == n
  · rw [if_pos hf]; simp [hf]
  · rw [if_neg hf]; simp [hf]
theorem fated_len (f : List UInt8 → Int × Int) (percent : Int) (n : Nat) (l : List ByteArray) : (fated f percent n l).length ≤ l.length := List.length_filter_le _ _
theorem KeepB.W {base g gm n : Nat} {w w1 : World} {f : List UInt8 → Int × Int} (h : KeepB base g w w1) (hw : WAt w gm n f) (h1 : gm < base) (h2 : gm ≠ g) : WAt w1 gm n f := by
  obtain ⟨D, ⟨es, cl, hb, r⟩, h3⟩ := hw
  exact ⟨D, ⟨es, cl, (h.block gm h1 h2).trans hb, r⟩, h3⟩
theorem KeepB.Cs {base g n : Nat} {w w1 : World} {ad : Addr} {xs : List ByteArray} (h : KeepB base g w w1) (hc : Kd.C Kd.string w (some ad) n xs) (h1 : ad.block < base) (h2 : ad.block ≠ g) : Kd.C Kd.string w1 (some ad) n xs :=
  ⟨hc.1, hc.2.1, fun hn => by
    obtain ⟨ad', e, hc2⟩ := hc.2.2 hn
    injection e with e
    subst e
    refine ⟨ad, rfl, fun j p hj => ?_⟩
    obtain ⟨c, hs, hr, hcell⟩ := hc2 j p hj
    refine ⟨c, hs, hr, fun i u hu => ?_⟩
    have hb : (ad.add (j * Kd.string.sz + i)).block = ad.block := by unfold Addr.add; split <;> rfl
    have := hcell i u hu
    rwa [World.cell?_of_block (w := w) (w' := w1) (by rw [hb]; exact h.block _ h1 h2)]⟩
theorem KeepB.below {B g : Nat} {w w1 w2 : World} (h : KeepB B g w w1) (hb : Below B w1 w2) (_ : B ≤ w1.heap.size) : KeepB B g w w2 := ⟨hb.os.trans h.os, hb.tape.trans h.tape, hb.output.trans h.output, Nat.le_trans h.size hb.size, fun k hk hg => (hb.block k hk).trans (h.block k hk hg)⟩
set_option maxHeartbeats 8000000 in
set_option maxRecDepth 100000 in
theorem fates_calls (gp gm nm c : Nat) (A : Option Addr) (l : List ByteArray) (f : List UInt8 → Int × Int) (percent : Int) (w : World) (vS vM : Value) (hp : w.heap[gp]? = some (.cells #[.slice none 0 0, .slice none 0 0, .slice none 0 0, vS, vM] 36 (0, 0))) (hr : Kd.C Kd.string w A l.length l) (hA : ∀ ad, A = some ad → ad.block < w.heap.size ∧ ad.block ≠ gp) (hl : l.length ≤ 10000) (hs : ∀ s ∈ l, s.size ≤ maxLen)
    (hm : WAt w gm nm f) (hmp : gm ≠ gp) (hf : ∀ y, 0 ≤ (f y).1 ∧ (f y).1 ≤ 400000000 ∧ 0 ≤ (f y).2 ∧ (f y).2 ≤ 400000000) (hpc : 0 ≤ percent ∧ percent ≤ 100) :
    Calls Try.prog 33 #[.pointer (some ⟨gp, 0, none⟩), .slice A l.length c, .map (some gm), .int .i64 percent] w fun e w' => e = .returned (.tuple #[]) ∧ ∃ vD vR vK, w'.heap[gp]? = some (.cells #[vD, vR, vK, vS, vM] 36 (0, 0)) ∧ Kd.R Kd.string 9 w' w.heap.size (fun _ => True) vD (fated f percent 0 l) ∧ Kd.R Kd.string 9 w' w.heap.size (fun _ => True) vR (fated f percent 1 l) ∧ Kd.R Kd.string 9 w' w.heap.size (fun _ => True) vK (fated f percent 2 l) ∧ Dis vD vR ∧ Dis vD vK ∧ Dis vR vK ∧ KeepB w.heap.size gp w w' := by
  have HP := Aside0.mk hp
  have HR := Aside0.mk hr
  have HA := Aside0.mk hA
  have HM := Aside0.mk hm
  have HMP := Aside0.mk hmp
  have HFB := Aside0.mk hf
  have HSZ := Aside0.mk hs
  have HBW : Aside0 (Below w.heap.size w w) := ⟨Below.refl _ _⟩
  clear hp hr hA hm hmp hf hs
  obtain ⟨hpc0, hpc1⟩ := hpc
  obtain ⟨B, hB⟩ : ∃ B, B = w.heap.size := ⟨_, rfl⟩
  rw [← hB]
  rw [← hB] at HA HBW
  have HBE := Aside0.mk hB
  clear hB
  go_enter Try.func33, Try.ntmps33
  go_wp2_with (fail)
  go_loopw [14] (fun v14 wr => ∃ k : Nat, k ≤ l.length ∧ v14 = .int .i64 k ∧ ∃ vD vR vK, Aside0 (wr.heap[gp]? = some (.cells #[vD, vR, vK, vS, vM] 36 (0, 0))) ∧ Aside0 (Kd.R Kd.string 9 wr B (fun _ => True) vD (fated f percent 0 (l.take k))) ∧ Aside0 (Kd.R Kd.string 9 wr B (fun _ => True) vR (fated f percent 1 (l.take k))) ∧ Aside0 (Kd.R Kd.string 9 wr B (fun _ => True) vK (fated f percent 2 (l.take k))) ∧ Aside0 (Dis vD vR) ∧ Aside0 (Dis vD vK) ∧ Aside0 (Dis vR vK) ∧ Aside0 (KeepB B gp w wr) ∧ Aside0 (B ≤ wr.heap.size)) (fun v14 _ => l.length - (intOf v14).toNat)
  case atStart => exact ⟨0, Nat.zero_le _, rfl, _, _, _, HP, ⟨Kd.R_nil Kd.string 9 _ _ _⟩, ⟨Kd.R_nil Kd.string 9 _ _ _⟩, ⟨Kd.R_nil Kd.string 9 _ _ _⟩, ⟨Dis.nil _⟩, ⟨Dis.nil _⟩, ⟨Dis.nil _⟩, ⟨KeepB.of_below (Below.refl _ _) (by rw [HBE.out]; exact Nat.le_refl _)⟩, ⟨by rw [HBE.out]; exact Nat.le_refl _⟩⟩
  case round =>
    obtain ⟨k, hk, rfl, vD, vR, vK, HPW, HD, HRW, HKW, D1, D2, D3, HKB, HBS⟩ := hrel
    by_cases hlt : k < l.length
    · obtain ⟨ad, rfl, _⟩ := Kd.at_string HR.out (k : Int) (by omega) (by omega)
      obtain ⟨ha1, ha2⟩ := HA.out ad rfl
      obtain ⟨ad', e, hx⟩ := Kd.at_string (HKB.out.Cs HR.out ha1 ha2) (k : Int) (by omega) (by omega)
      injection e with e
      subst e
      have hd : rdOf ByteArray.empty l (k : Int) = l[k] := by unfold rdOf; simp [List.getD_eq_getElem?_getD, List.getElem?_eq_getElem hlt]
      rw [hd, Int.toNat_natCast] at hx
      have HT := Aside0.mk (fun n => fated_take f percent n l k hlt)
      have HSK : Aside0 (l[k].size ≤ maxLen) := ⟨HSZ.out _ (List.getElem_mem hlt)⟩
      have HLN : Aside0 (∀ n, (fated f percent n (l.take k)).length ≤ 10000) := ⟨fun n => by have := fated_len f percent n (l.take k); have := List.length_take_le k l; omega⟩
      clear hd ha1 ha2
      generalize l[k] = s at hx HT HSK
      obtain ⟨a, b, hab⟩ : ∃ a b, f s.data.toList = (a, b) := ⟨_, _, rfl⟩
      have hfb := HFB.out s.data.toList
      rw [hab] at hfb
      obtain ⟨ha0, ha1, hb0, hb1⟩ : 0 ≤ a ∧ a ≤ 400000000 ∧ 0 ≤ b ∧ b ≤ 400000000 := hfb
      have HAB := Aside0.mk hab
      have hml : k < maxLen := by unfold maxLen; omega
      clear hab
      have HMW : Aside0 (WAt wr gm nm f) := ⟨HKB.out.W HM.out (by rw [HBE.out]; obtain ⟨es, cl, h⟩ := HM.out.blk; exact (Array.getElem?_eq_some_iff.1 h).1) HMP.out⟩
      go_upto_region 4 with (first | (at_lookup; refine wpList_lookup_w _ rfl _ _ 86 rfl Try.underlying86 gm nm f rfl HMW.out s HSK.out rfl ?_; rw [HAB.out]))
      have HBX : Aside0 (Below wr.heap.size wr (wr.alloc (.cells #[.int .i64 a, .int .i64 b] 123))) := ⟨below_alloc (Below.refl _ _) _⟩
      have hg : (wr.alloc (.cells #[.int .i64 a, .int .i64 b] 123)).heap[wr.heap.size]? = some (.cells #[.int .i64 a, .int .i64 b] 123 (0, 0)) := (MapKept.heap_alloc wr _).1
      generalize (wr.alloc (.cells #[.int .i64 a, .int .i64 b] 123)) = W at HBX hg ⊢
      have HPW1 := Aside0.mk (blk_below HPW.out HBX.out)
      have HD1 := Aside0.mk (Kd.R_below HD.out HBX.out)
      have HRW1 := Aside0.mk (Kd.R_below HRW.out HBX.out)
      have HKW1 := Aside0.mk (Kd.R_below HKW.out HBX.out)
      have HKB1 := Aside0.mk (HKB.out.trans (KeepB.of_below HBX.out HBS.out))
      have HBS1 : Aside0 (B ≤ W.heap.size) := ⟨Nat.le_trans HBS.out HBX.out.size⟩
      have HBB : Aside0 (Below B W W) := ⟨Below.refl _ _⟩
      clear HPW HD HRW HKW HKB HBS HBX HMW hx
      have HPW := HPW1
      clear HPW1
      generalize wr.heap.size = gx at hg ⊢
      have z0 : W.cell? ⟨gx, 0, none⟩ = some (.int .i64 a) := (blk_cell hg 0).trans rfl
      have z1 : W.cell? ⟨gx, 1, none⟩ = some (.int .i64 b) := (blk_cell hg 1).trans rfl
      have p0 : W.cell? ⟨gp, 0, none⟩ = some vD := (blk_cell HPW.out 0).trans rfl
      have p1 : W.cell? ⟨gp, 1, none⟩ = some vR := (blk_cell HPW.out 1).trans rfl
      have p2 : W.cell? ⟨gp, 2, none⟩ = some vK := (blk_cell HPW.out 2).trans rfl
      clear hg
      by_cases ca : a = 0
      · have HF : Aside0 (fate f percent s = 0) := ⟨by unfold fate; rw [HAB.out, if_pos ca]⟩
        have cb : (a == 0) = true := beq_iff_eq.2 ca
        clear ca
        go_wp2_with (first | ((with_reducible refine gate_builtin (b := .append) (xs := #[.tmp 44, .tmp 46]) rfl ?_); at_builtin; refine Kd.R_append Kd.string (w0 := W) B ?hg (.tmp 44) (.tmp 46) 23 9 (.string ⟨#[]⟩) 16 ?ho Try.underlying23 info9 rfl (by decide) (by omega) vD (fated f percent 0 (l.take k)) (s) [.string s] (fun _ => True) (fun _ => False) ?hs ?hx ?aP (fun _ hk => hk.elim) (fun _ _ => trivial) ?aO ?aB ?aS ?aL ?_; (case hg => rfl); (case ho => rfl); (case hs => rfl); (case hx => rfl); (case aP => exact rfl); (case aB => exact HBB.out); (case aO => exact HD1.out); (case aS => exact HBS1.out); (case aL => have := HLN.out 0; omega); intro v9 w9 ho hb hg hat; obtain ⟨A9, c9, hv9⟩ := Kd.R_slice ho; subst hv9; obtain ⟨n9, hn9⟩ : ∃ n9, n9 = (fated f percent 0 (l.take k) ++ [s]).length := ⟨_, rfl⟩; rw [← hn9] at ho hat ⊢; clear hn9; have HKR := Aside0.mk (keep_dis HRW1.out rfl (Aside0.mk D1.out.symm).out hg hat); have HKK := Aside0.mk (keep_dis HKW1.out rfl (Aside0.mk D2.out.symm).out hg hat); have HO9 := Aside0.mk ho; have HB9 := Aside0.mk hb; have HG9 := Aside0.mk hg; have HP9 : Aside0 (w9.heap[gp]? = some (.cells #[vD, vR, vK, vS, vM] 36 (0, 0))) := ⟨(hg.block gp (blk_lt HPW.out) (Kd.R_ne HD1.out HPW.out (by decide))).trans HPW.out⟩; have hp9 : w9.cell? ⟨gp, 0, none⟩ = some (vD) := (blk_cell HP9.out 0).trans rfl; have hf9 := blk_frozen HP9.out 0; clear ho hb hg hat))
        go_roundw
        case rel => exact ⟨k + 1, by omega, by go_num, (.slice A9 n9 c9), vR, vK, ⟨blk_set HP9.out 0 _⟩, ⟨by rw [HT.out 0, HF.out]; simpa using Kd.R_set HO9.out HP9.out (by decide) _ _⟩, ⟨by rw [HT.out 1, HF.out]; simpa using Kd.R_set HKR.out.1 HP9.out (by decide) _ _⟩, ⟨by rw [HT.out 2, HF.out]; simpa using Kd.R_set HKK.out.1 HP9.out (by decide) _ _⟩, ⟨HKR.out.2.symm⟩, ⟨HKK.out.2.symm⟩, D3, ⟨(HKB1.out.below HB9.out HBS1.out).trans (KeepB.set _ _ _)⟩, ⟨by have := HB9.out.size; have := HBS1.out; simp; omega⟩⟩
        case measure => simp [intOf]; omega
      · have cb : (a == 0) = false := beq_eq_false_iff_ne.2 ca
        obtain ⟨pq, hpq⟩ : ∃ pq, pq = percent * b := ⟨_, rfl⟩
        have hpq0 : 0 ≤ pq := by rw [hpq]; exact Int.mul_nonneg hpc0 hb0
        have hpq1 : pq ≤ 100 * 400000000 := by rw [hpq]; exact Int.mul_le_mul hpc1 hb1 hb0 (by decide)
        have wpq : IntKind.i64.wrap (percent * b) = pq := by rw [IntKind.wrap_i64, ← hpq]; omega
        by_cases cc : (b - a) * 100 ≤ pq
        · have HF : Aside0 (fate f percent s = 2) := ⟨by unfold fate; rw [HAB.out, if_neg ca, if_pos (by rw [← hpq]; exact cc)]⟩
          clear ca hpq
          go_wp2_with (first | ((with_reducible refine gate_builtin (b := .append) (xs := #[.tmp 62, .tmp 64]) rfl ?_); at_builtin; refine Kd.R_append Kd.string (w0 := W) B ?hg (.tmp 62) (.tmp 64) 23 9 (.string ⟨#[]⟩) 16 ?ho Try.underlying23 info9 rfl (by decide) (by omega) vK (fated f percent 2 (l.take k)) (s) [.string s] (fun _ => True) (fun _ => False) ?hs ?hx ?aP (fun _ hk => hk.elim) (fun _ _ => trivial) ?aO ?aB ?aS ?aL ?_; (case hg => rfl); (case ho => rfl); (case hs => rfl); (case hx => rfl); (case aP => exact rfl); (case aB => exact HBB.out); (case aO => exact HKW1.out); (case aS => exact HBS1.out); (case aL => have := HLN.out 2; omega); intro v9 w9 ho hb hg hat; obtain ⟨A9, c9, hv9⟩ := Kd.R_slice ho; subst hv9; obtain ⟨n9, hn9⟩ : ∃ n9, n9 = (fated f percent 2 (l.take k) ++ [s]).length := ⟨_, rfl⟩; rw [← hn9] at ho hat ⊢; clear hn9; have HKD := Aside0.mk (keep_dis HD1.out rfl D2.out hg hat); have HKR := Aside0.mk (keep_dis HRW1.out rfl D3.out hg hat); have HO9 := Aside0.mk ho; have HB9 := Aside0.mk hb; have HG9 := Aside0.mk hg; have HP9 : Aside0 (w9.heap[gp]? = some (.cells #[vD, vR, vK, vS, vM] 36 (0, 0))) := ⟨(hg.block gp (blk_lt HPW.out) (Kd.R_ne HKW1.out HPW.out (by decide))).trans HPW.out⟩; have hp9 : w9.cell? ⟨gp, 2, none⟩ = some (vK) := (blk_cell HP9.out 2).trans rfl; have hf9 := blk_frozen HP9.out 2; clear ho hb hg hat))
          go_roundw
          case rel => exact ⟨k + 1, by omega, by go_num, vD, vR, (.slice A9 n9 c9), ⟨blk_set HP9.out 2 _⟩, ⟨by rw [HT.out 0, HF.out]; simpa using Kd.R_set HKD.out.1 HP9.out (by decide) _ _⟩, ⟨by rw [HT.out 1, HF.out]; simpa using Kd.R_set HKR.out.1 HP9.out (by decide) _ _⟩, ⟨by rw [HT.out 2, HF.out]; simpa using Kd.R_set HO9.out HP9.out (by decide) _ _⟩, D1, ⟨HKD.out.2⟩, ⟨HKR.out.2⟩, ⟨(HKB1.out.below HB9.out HBS1.out).trans (KeepB.set _ _ _)⟩, ⟨by have := HB9.out.size; have := HBS1.out; simp; omega⟩⟩
          case measure => simp [intOf]; omega
        · have HF : Aside0 (fate f percent s = 1) := ⟨by unfold fate; rw [HAB.out, if_neg ca, if_neg (by rw [← hpq]; exact cc)]⟩
          clear ca hpq
          go_wp2_with (first | ((with_reducible refine gate_builtin (b := .append) (xs := #[.tmp 30, .tmp 32]) rfl ?_); at_builtin; refine Kd.R_append Kd.string (w0 := W) B ?hg (.tmp 30) (.tmp 32) 23 9 (.string ⟨#[]⟩) 16 ?ho Try.underlying23 info9 rfl (by decide) (by omega) vR (fated f percent 1 (l.take k)) (s) [.string s] (fun _ => True) (fun _ => False) ?hs ?hx ?aP (fun _ hk => hk.elim) (fun _ _ => trivial) ?aO ?aB ?aS ?aL ?_; (case hg => rfl); (case ho => rfl); (case hs => rfl); (case hx => rfl); (case aP => exact rfl); (case aB => exact HBB.out); (case aO => exact HRW1.out); (case aS => exact HBS1.out); (case aL => have := HLN.out 1; omega); intro v9 w9 ho hb hg hat; obtain ⟨A9, c9, hv9⟩ := Kd.R_slice ho; subst hv9; obtain ⟨n9, hn9⟩ : ∃ n9, n9 = (fated f percent 1 (l.take k) ++ [s]).length := ⟨_, rfl⟩; rw [← hn9] at ho hat ⊢; clear hn9; have HKD := Aside0.mk (keep_dis HD1.out rfl D1.out hg hat); have HKK := Aside0.mk (keep_dis HKW1.out rfl (Aside0.mk D3.out.symm).out hg hat); have HO9 := Aside0.mk ho; have HB9 := Aside0.mk hb; have HG9 := Aside0.mk hg; have HP9 : Aside0 (w9.heap[gp]? = some (.cells #[vD, vR, vK, vS, vM] 36 (0, 0))) := ⟨(hg.block gp (blk_lt HPW.out) (Kd.R_ne HRW1.out HPW.out (by decide))).trans HPW.out⟩; have hp9 : w9.cell? ⟨gp, 1, none⟩ = some (vR) := (blk_cell HP9.out 1).trans rfl; have hf9 := blk_frozen HP9.out 1; clear ho hb hg hat))
          go_roundw
          case rel => exact ⟨k + 1, by omega, by go_num, vD, (.slice A9 n9 c9), vK, ⟨blk_set HP9.out 1 _⟩, ⟨by rw [HT.out 0, HF.out]; simpa using Kd.R_set HKD.out.1 HP9.out (by decide) _ _⟩, ⟨by rw [HT.out 1, HF.out]; simpa using Kd.R_set HO9.out HP9.out (by decide) _ _⟩, ⟨by rw [HT.out 2, HF.out]; simpa using Kd.R_set HKK.out.1 HP9.out (by decide) _ _⟩, ⟨HKD.out.2⟩, D2, ⟨HKK.out.2.symm⟩, ⟨(HKB1.out.below HB9.out HBS1.out).trans (KeepB.set _ _ _)⟩, ⟨by have := HB9.out.size; have := HBS1.out; simp; omega⟩⟩
          case measure => simp [intOf]; omega
    · obtain rfl : k = l.length := by omega
      go_wp2_with (fail)
      go_end0
      refine ⟨rfl, vD, vR, vK, HPW.out, ?_, ?_, ?_, D1.out, D2.out, D3.out, HKB.out⟩
      · have := HD.out; rwa [List.take_length] at this
      · have := HRW.out; rwa [List.take_length] at this
      · have := HKW.out; rwa [List.take_length] at this
end Go.Proofs.Ytoiedcnhojkpiaa.Q
/- sweep's stays, walked. -/
namespace Go.Proofs.Ytoiedcnhojkpiaa.Q
open Go.RowKit Go.Maps Go.Proofs.YtoiedcnhojkpiaaW.PrintWords Go.Proofs.YtoiedcnhojkpiaaW.PrintLast Go.Proofs.YtoiedcnhojkpiaaW.PrintMore
/-- The place at which an id stays. -/
def stayP (reach : Bool) (kept : List UInt8 → Bool) : List S50 → S50 × Bool
  | [] => (z50, false)
  | p :: ps => if kept p.f0.data.toList then (p, true) else if reach then (z50, false) else stayP reach kept ps
def v50 (p : S50) : Value := .agg #[.string p.f0, .int .i64 p.f1, .int .i64 p.f2, .int .i64 p.f3, .int .i64 p.f4]
theorem z50_v : v50 z50 = .agg #[.string ⟨#[]⟩, .int .i64 0, .int .i64 0, .int .i64 0, .int .i64 0] := rfl
set_option maxHeartbeats 8000000 in
set_option maxRecDepth 100000 in
theorem stays_calls (A : Option Addr) (c : Nat) (l : List S50) (reach : Bool) (gk nk : Nat) (kept : List UInt8 → Bool) (w : World) (hr : Kd.C k50 w A l.length l) (hl : l.length ≤ 100000) (hk : SetAt w gk nk kept) (hs : ∀ x ∈ l, x.f0.size ≤ maxLen) :
    Calls Try.prog 38 #[.slice A l.length c, .bool reach, .map (some gk)] w fun e w' => e = .returned (.tuple #[v50 (stayP reach kept l).1, .bool (stayP reach kept l).2]) ∧ Below w.heap.size w w' := by
  have HR := Aside0.mk hr
  have HK := Aside0.mk hk
  have HS := Aside0.mk hs
  clear hr hk hs
  go_enter Try.func38, Try.ntmps38
  go_upto_region 1 with (fail)
  have HB0 : Aside0 (Below w.heap.size w (w.alloc (.cells #[.string ⟨#[]⟩, .int .i64 0, .int .i64 0, .int .i64 0, .int .i64 0] 50))) := ⟨below_alloc (Below.refl _ _) _⟩
  have HG0 : Aside0 ((w.alloc (.cells #[.string ⟨#[]⟩, .int .i64 0, .int .i64 0, .int .i64 0, .int .i64 0] 50)).heap[w.heap.size]? = some (.cells #[.string ⟨#[]⟩, .int .i64 0, .int .i64 0, .int .i64 0, .int .i64 0] 50 (0, 0))) := ⟨(MapKept.heap_alloc w _).1⟩
  generalize hW : (w.alloc (.cells #[.string ⟨#[]⟩, .int .i64 0, .int .i64 0, .int .i64 0, .int .i64 0] 50)) = W at HB0 HG0 ⊢
  clear hW
  go_wp2_with (fail)
  go_loopw [12] (fun v12 wr => ∃ k : Nat, k ≤ l.length ∧ v12 = .int .i64 k ∧ Aside0 (stayP reach kept (l.drop k) = stayP reach kept l) ∧ Aside0 (wr.heap[w.heap.size]? = some (.cells #[.string ⟨#[]⟩, .int .i64 0, .int .i64 0, .int .i64 0, .int .i64 0] 50 (0, 0))) ∧ Aside0 (Below w.heap.size w wr)) (fun v12 _ => l.length - (intOf v12).toNat)
  case atStart => exact ⟨0, Nat.zero_le _, rfl, ⟨by rw [List.drop_zero]⟩, HG0, HB0⟩
  case round =>
    clear HB0 HG0
    obtain ⟨k, hk, rfl, HE, HG, HB⟩ := hrel
    by_cases hlt : k < l.length
    · obtain ⟨ad, q0, q1, q2, q3, q4, q5⟩ := at_T50 (Kd.C_below HR.out HB.out) (k : Int) (by omega) (by omega)
      have hd : rd_T50 l (k : Int) = l[k] := by unfold rd_T50; simp [List.getD_eq_getElem?_getD, List.getElem?_eq_getElem hlt]
      have HC : Aside0 (stayP reach kept l = if kept l[k].f0.data.toList then (l[k], true) else if reach then (z50, false) else stayP reach kept (l.drop (k + 1))) := ⟨by rw [← HE.out, List.drop_eq_getElem_cons hlt]; rfl⟩
      have HSK : Aside0 (l[k].f0.size ≤ maxLen) := ⟨HS.out _ (List.getElem_mem hlt)⟩
      rw [hd] at q1 q2 q3 q4 q5
      rw [Int.toNat_natCast] at q1 q2 q3 q4 q5
      subst q0
      clear hd
      generalize l[k] = p at q1 q2 q3 q4 q5 HC HSK
      have hml : k < maxLen := by unfold maxLen; omega
      go_upto_region 4 with (fail)
      have HBX : Aside0 (Below wr.heap.size wr (wr.alloc (.cells #[.string p.f0, .int .i64 p.f1, .int .i64 p.f2, .int .i64 p.f3, .int .i64 p.f4] 50))) := ⟨below_alloc (Below.refl _ _) _⟩
      have hg : (wr.alloc (.cells #[.string p.f0, .int .i64 p.f1, .int .i64 p.f2, .int .i64 p.f3, .int .i64 p.f4] 50)).heap[wr.heap.size]? = some (.cells #[.string p.f0, .int .i64 p.f1, .int .i64 p.f2, .int .i64 p.f3, .int .i64 p.f4] 50 (0, 0)) := (MapKept.heap_alloc wr _).1
      generalize (wr.alloc (.cells #[.string p.f0, .int .i64 p.f1, .int .i64 p.f2, .int .i64 p.f3, .int .i64 p.f4] 50)) = W1 at HBX hg ⊢
      have HB1 := Aside0.mk (below_step HB.out HBX.out)
      have HG1 := Aside0.mk (blk_below HG.out HBX.out)
      have HKW := Aside0.mk (HK.out.below HB1.out)
      clear HB HG HBX q1 q2 q3 q4 q5
      generalize wr.heap.size = gx at hg ⊢
      have x0 : W1.cell? ⟨gx, 0, none⟩ = some (.string p.f0) := (blk_cell hg 0).trans rfl
      have x1 : W1.cell? ⟨gx, 1, none⟩ = some (.int .i64 p.f1) := (blk_cell hg 1).trans rfl
      have x2 : W1.cell? ⟨gx, 2, none⟩ = some (.int .i64 p.f2) := (blk_cell hg 2).trans rfl
      have x3 : W1.cell? ⟨gx, 3, none⟩ = some (.int .i64 p.f3) := (blk_cell hg 3).trans rfl
      have x4 : W1.cell? ⟨gx, 4, none⟩ = some (.int .i64 p.f4) := (blk_cell hg 4).trans rfl
      clear hg
      have z0 : W1.cell? ⟨w.heap.size, 0, none⟩ = some (.string ⟨#[]⟩) := (blk_cell HG1.out 0).trans rfl
      have f0 := blk_frozen HG1.out 0
      have z1 : W1.cell? ⟨w.heap.size, 1, none⟩ = some (.int .i64 0) := (blk_cell HG1.out 1).trans rfl
      have f1 := blk_frozen HG1.out 1
      have z2 : W1.cell? ⟨w.heap.size, 2, none⟩ = some (.int .i64 0) := (blk_cell HG1.out 2).trans rfl
      have f2 := blk_frozen HG1.out 2
      have z3 : W1.cell? ⟨w.heap.size, 3, none⟩ = some (.int .i64 0) := (blk_cell HG1.out 3).trans rfl
      have f3 := blk_frozen HG1.out 3
      have z4 : W1.cell? ⟨w.heap.size, 4, none⟩ = some (.int .i64 0) := (blk_cell HG1.out 4).trans rfl
      have f4 := blk_frozen HG1.out 4
      by_cases ck : kept p.f0.data.toList = true
      · have HC1 : Aside0 (stayP reach kept l = (p, true)) := ⟨by rw [HC.out, if_pos ck]⟩
        go_wp2_with (first | (at_lookup; refine wpList_lookup_set _ rfl _ _ 81 rfl Try.underlying81 gk nk kept rfl HKW.out p.f0 HSK.out rfl ?_; rw [ck]))
        have hK := set5_blk HG1.out (.string p.f0) (.int .i64 p.f1) (.int .i64 p.f2) (.int .i64 p.f3) (.int .i64 p.f4)
        have hB := set5_below HB1.out (Nat.le_refl _) (.string p.f0) (.int .i64 p.f1) (.int .i64 p.f2) (.int .i64 p.f3) (.int .i64 p.f4)
        change bodyPost Try.prog Try.f38 _ _ _ (set5 W1 w.heap.size (.string p.f0) (.int .i64 p.f1) (.int .i64 p.f2) (.int .i64 p.f3) (.int .i64 p.f4))
        generalize set5 W1 w.heap.size (.string p.f0) (.int .i64 p.f1) (.int .i64 p.f2) (.int .i64 p.f3) (.int .i64 p.f4) = W9 at hK hB ⊢
        have c0 : W9.cell? ⟨w.heap.size, 0, none⟩ = some (.string p.f0) := (blk_cell hK 0).trans rfl
        have c1 : W9.cell? ⟨w.heap.size, 1, none⟩ = some (.int .i64 p.f1) := (blk_cell hK 1).trans rfl
        have c2 : W9.cell? ⟨w.heap.size, 2, none⟩ = some (.int .i64 p.f2) := (blk_cell hK 2).trans rfl
        have c3 : W9.cell? ⟨w.heap.size, 3, none⟩ = some (.int .i64 p.f3) := (blk_cell hK 3).trans rfl
        have c4 : W9.cell? ⟨w.heap.size, 4, none⟩ = some (.int .i64 p.f4) := (blk_cell hK 4).trans rfl
        exact bodyPost_ret (v := .tuple #[.agg #[.string p.f0, .int .i64 p.f1, .int .i64 p.f2, .int .i64 p.f3, .int .i64 p.f4], .bool true]) (by simp [results, Try.results38, go_sem, c0, c1, c2, c3, c4]) rfl ⟨by rw [HC1.out]; rfl, hB⟩
      · have HC1 : Aside0 (stayP reach kept l = if reach then (z50, false) else stayP reach kept (l.drop (k + 1))) := ⟨by rw [HC.out, if_neg ck]⟩
        have ck1 : kept p.f0.data.toList = false := by simpa using ck
        cases reach with
        | true =>
          have HC2 : Aside0 (stayP true kept l = (z50, false)) := ⟨HC1.out⟩
          go_wp2_with (first | (at_lookup; refine wpList_lookup_set _ rfl _ _ 81 rfl Try.underlying81 gk nk kept rfl HKW.out p.f0 HSK.out rfl ?_; rw [ck1]))
          have hK := set5_blk HG1.out (.string ⟨#[]⟩) (.int .i64 0) (.int .i64 0) (.int .i64 0) (.int .i64 0)
          have hB := set5_below HB1.out (Nat.le_refl _) (.string ⟨#[]⟩) (.int .i64 0) (.int .i64 0) (.int .i64 0) (.int .i64 0)
          change bodyPost Try.prog Try.f38 _ _ _ (set5 W1 w.heap.size (.string ⟨#[]⟩) (.int .i64 0) (.int .i64 0) (.int .i64 0) (.int .i64 0))
          generalize set5 W1 w.heap.size (.string ⟨#[]⟩) (.int .i64 0) (.int .i64 0) (.int .i64 0) (.int .i64 0) = W9 at hK hB ⊢
          have c0 : W9.cell? ⟨w.heap.size, 0, none⟩ = some (.string ⟨#[]⟩) := (blk_cell hK 0).trans rfl
          have c1 : W9.cell? ⟨w.heap.size, 1, none⟩ = some (.int .i64 0) := (blk_cell hK 1).trans rfl
          have c2 : W9.cell? ⟨w.heap.size, 2, none⟩ = some (.int .i64 0) := (blk_cell hK 2).trans rfl
          have c3 : W9.cell? ⟨w.heap.size, 3, none⟩ = some (.int .i64 0) := (blk_cell hK 3).trans rfl
          have c4 : W9.cell? ⟨w.heap.size, 4, none⟩ = some (.int .i64 0) := (blk_cell hK 4).trans rfl
          exact bodyPost_ret (v := .tuple #[.agg #[.string ⟨#[]⟩, .int .i64 0, .int .i64 0, .int .i64 0, .int .i64 0], .bool false]) (by simp [results, Try.results38, go_sem, c0, c1, c2, c3, c4]) rfl ⟨by rw [HC2.out]; rfl, hB⟩
        | false =>
          have HC2 : Aside0 (stayP false kept (l.drop (k + 1)) = stayP false kept l) := ⟨HC1.out.symm⟩
          go_wp2_with (first | (at_lookup; refine wpList_lookup_set _ rfl _ _ 81 rfl Try.underlying81 gk nk kept rfl HKW.out p.f0 HSK.out rfl ?_; rw [ck1]))
          go_roundw
          case rel => exact ⟨k + 1, by omega, by go_num, HC2, HG1, HB1⟩
          case measure => simp [intOf]; omega
    · obtain rfl : k = l.length := by omega
      have HE2 : Aside0 (stayP reach kept l = (z50, false)) := ⟨by rw [← HE.out, List.drop_length]; rfl⟩
      have z0 : wr.cell? ⟨w.heap.size, 0, none⟩ = some (.string ⟨#[]⟩) := (blk_cell HG.out 0).trans rfl
      have f0 := blk_frozen HG.out 0
      have z1 : wr.cell? ⟨w.heap.size, 1, none⟩ = some (.int .i64 0) := (blk_cell HG.out 1).trans rfl
      have f1 := blk_frozen HG.out 1
      have z2 : wr.cell? ⟨w.heap.size, 2, none⟩ = some (.int .i64 0) := (blk_cell HG.out 2).trans rfl
      have f2 := blk_frozen HG.out 2
      have z3 : wr.cell? ⟨w.heap.size, 3, none⟩ = some (.int .i64 0) := (blk_cell HG.out 3).trans rfl
      have f3 := blk_frozen HG.out 3
      have z4 : wr.cell? ⟨w.heap.size, 4, none⟩ = some (.int .i64 0) := (blk_cell HG.out 4).trans rfl
      have f4 := blk_frozen HG.out 4
      go_wp2_with (fail)
      have hK := set5_blk HG.out (.string ⟨#[]⟩) (.int .i64 0) (.int .i64 0) (.int .i64 0) (.int .i64 0)
      have hB := set5_below HB.out (Nat.le_refl _) (.string ⟨#[]⟩) (.int .i64 0) (.int .i64 0) (.int .i64 0) (.int .i64 0)
      change bodyPost Try.prog Try.f38 _ _ _ (set5 wr w.heap.size (.string ⟨#[]⟩) (.int .i64 0) (.int .i64 0) (.int .i64 0) (.int .i64 0))
      generalize set5 wr w.heap.size (.string ⟨#[]⟩) (.int .i64 0) (.int .i64 0) (.int .i64 0) (.int .i64 0) = W9 at hK hB ⊢
      have c0 : W9.cell? ⟨w.heap.size, 0, none⟩ = some (.string ⟨#[]⟩) := (blk_cell hK 0).trans rfl
      have c1 : W9.cell? ⟨w.heap.size, 1, none⟩ = some (.int .i64 0) := (blk_cell hK 1).trans rfl
      have c2 : W9.cell? ⟨w.heap.size, 2, none⟩ = some (.int .i64 0) := (blk_cell hK 2).trans rfl
      have c3 : W9.cell? ⟨w.heap.size, 3, none⟩ = some (.int .i64 0) := (blk_cell hK 3).trans rfl
      have c4 : W9.cell? ⟨w.heap.size, 4, none⟩ = some (.int .i64 0) := (blk_cell hK 4).trans rfl
      exact bodyPost_ret (v := .tuple #[.agg #[.string ⟨#[]⟩, .int .i64 0, .int .i64 0, .int .i64 0, .int .i64 0], .bool false]) (by simp [results, Try.results38, go_sem, c0, c1, c2, c3, c4]) rfl ⟨by rw [HE2.out]; rfl, hB⟩
end Go.Proofs.Ytoiedcnhojkpiaa.Q
