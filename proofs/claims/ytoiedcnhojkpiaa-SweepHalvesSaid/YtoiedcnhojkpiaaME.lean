/- Of the proofs about sweep: several texts, joined. -/
import Derived.Test.YtoiedcnhojkpiaaMD
import Derived.Shelf.Spec.SlicesInsert
import Derived.Lib.AppendZerosOnto
import Derived.Deep.RegionLaw
namespace Go.Proofs.Ytoiedcnhojkpiaa.Q
open Go.RowKit Go.Lib Go.Proofs.YtoiedcnhojkpiaaW.PrintWords Go.Proofs.YtoiedcnhojkpiaaW.PrintLast Go.Proofs.YtoiedcnhojkpiaaW.PrintMore
/-! ### Cells -/
def enc52 (x : S52) : List Value := [.string x.f0, .string x.f1.f0, .int .i64 x.f1.f1, .int .i64 x.f1.f2, .int .i64 x.f1.f3, .int .i64 x.f1.f4]
def cells52 (l : List S52) : List Value := l.flatMap enc52
theorem cells52_len : ∀ l : List S52, (cells52 l).length = l.length * 6
  | [] => rfl
  | a :: l => by
    have h := cells52_len l
    unfold cells52 at h ⊢
    rw [List.flatMap_cons, List.length_append, h]
    simp [enc52]
    omega
theorem cells52_append (a b : List S52) : cells52 (a ++ b) = cells52 a ++ cells52 b := List.flatMap_append
theorem cells52_take (l : List S52) (i : Nat) (h : i ≤ l.length) : (cells52 l).take (i * 6) = cells52 (l.take i) := by
  conv => lhs; rw [← List.take_append_drop i l, cells52_append]
  rw [List.take_append_of_le_length (by rw [cells52_len, List.length_take]; omega), List.take_of_length_le (by rw [cells52_len, List.length_take]; omega)]
theorem cells52_drop (l : List S52) (i : Nat) (h : i ≤ l.length) : (cells52 l).drop (i * 6) = cells52 (l.drop i) := by
  conv => lhs; rw [← List.take_append_drop i l, cells52_append]
  have e : (cells52 (l.take i)).length = i * 6 := by rw [cells52_len, List.length_take]; omega
  rw [← e, List.drop_left]
theorem cells52_one (l : List S52) : ∀ v ∈ cells52 l, v.oneCell' = true := by
  intro v hv
  obtain ⟨x, _, hx⟩ := List.mem_flatMap.1 hv
  simp only [enc52, List.mem_cons, List.not_mem_nil, or_false] at hx
  rcases hx with rfl | rfl | rfl | rfl | rfl | rfl <;> rfl
theorem reps_of_cells {w : World} {base : Nat} {ok : Nat → Prop} (l : List S52) : Reps (Kd.M k52 w base ok) 6 l (cells52 l) := by
  refine ⟨cells52_len l, fun j p hj => ?_⟩
  obtain ⟨hl, hp⟩ := List.getElem?_eq_some_iff.1 hj
  rw [cells52_drop l j (by omega), List.drop_eq_getElem_cons hl, hp]
  show Kd.M k52 w base ok p ((enc52 p ++ cells52 _).take 6)
  rw [List.take_left' (by rfl)]
  exact k52_mkM _ _ _ p
theorem cells_of_reps {w : World} {base : Nat} {ok : Nat → Prop} : ∀ (l : List S52) (inner : List Value), Reps (Kd.M k52 w base ok) 6 l inner → inner = cells52 l
  | [], inner, h => by
    have := h.1
    simpa [cells52] using this
  | a :: l, inner, h => by
    have h0 := k52_openM (h.2 0 a rfl)
    rw [Nat.zero_mul, List.drop_zero] at h0
    have h1 : Reps (Kd.M k52 w base ok) 6 l (inner.drop 6) := by
      refine ⟨by rw [List.length_drop, h.1, List.length_cons]; omega, fun j p hj => ?_⟩
      have := h.2 (j + 1) p (by simpa using hj)
      rwa [List.drop_drop, show 6 + j * 6 = (j + 1) * 6 by omega]
    have h2 := cells_of_reps l _ h1
    rw [← List.take_append_drop 6 inner, h0, h2]
    rfl
theorem own52 {w : World} {base : Nat} {ok : Nat → Prop} {v : Value} {l : List S52} (h : Kd.R k52 52 w base ok v l) : w.ownsRow base 52 6 v l.length (cells52 l) := by
  obtain ⟨_, inner, ho, hr⟩ := h
  have hh : inner = cells52 l := cells_of_reps (w := w) (base := base) (ok := fun k => ok k ∧ some k ≠ v.ownBlock) l inner hr
  subst hh
  exact ho
theorem row52 {w : World} {base : Nat} {v : Value} {l : List S52} (h : w.ownsRow base 52 6 v l.length (cells52 l)) : Kd.R k52 52 w base (fun _ => True) v l := ⟨fun _ _ => trivial, cells52 l, h, reps_of_cells l⟩
/-! ### Cells written, and a copy of elements of more cells -/
def setL (cur : Array Value) : Nat → List Value → Array Value
  | _, [] => cur
  | o, v :: r => setL (cur.setIfInBounds o v) (o + 1) r
theorem setL_size : ∀ (vs : List Value) (cur : Array Value) (o : Nat), (setL cur o vs).size = cur.size
  | [], _, _ => rfl
  | v :: r, cur, o => by rw [setL, setL_size r]; simp
theorem setL_list : ∀ (vs : List Value) (cur : Array Value) (o : Nat), o + vs.length ≤ cur.size → (setL cur o vs).toList = cur.toList.take o ++ vs ++ cur.toList.drop (o + vs.length)
  | [], cur, o, _ => by simp [setL]
  | v :: r, cur, o, h => by
    simp only [List.length_cons] at h
    rw [setL, setL_list r _ _ (by simp; omega), Array.toList_setIfInBounds]
    have h1 : o < cur.toList.length := by simp; omega
    rw [List.take_succ_eq_append_getElem (by simpa using h1), List.take_set_of_le (Nat.le_refl _)]
    simp only [List.getElem_set_self, List.length_cons]
    rw [List.drop_set_of_lt (by omega), show o + 1 + r.length = o + (r.length + 1) by omega]
    simp
theorem setCells_blk (g t : Nat) : ∀ (vs : List Value) (o : Nat) (w : World) (cur : Array Value), w.heap[g]? = some (.cells cur t (0, 0)) → (w.setCells g o vs).heap[g]? = some (.cells (setL cur o vs) t (0, 0))
  | [], _, _, _, h => h
  | v :: r, o, _, _, h => setCells_blk g t r (o + 1) _ _ (blk_set h o v)
theorem setCells_other (g : Nat) : ∀ (vs : List Value) (o : Nat) (w : World) (i : Nat), i ≠ g → (w.setCells g o vs).heap[i]? = w.heap[i]?
  | [], _, _, _, _ => rfl
  | v :: r, o, w, i, h => by
    show ((w.setCell ⟨g, o, none⟩ v).setCells g (o + 1) r).heap[i]? = w.heap[i]?
    rw [setCells_other g r (o + 1) _ i h]
    exact Below.heap_setCell w ⟨g, o, none⟩ v i h
theorem setCells_grown (g : Nat) : ∀ (vs : List Value) (o : Nat) (w : World), w.grownBy (w.setCells g o vs) (some g)
  | [], _, w => grown_of_below (Below.refl _ _) _
  | v :: r, o, w => by
    have h1 : w.grownBy (w.setCell ⟨g, o, none⟩ v) (some g) := ⟨rfl, rfl, rfl, by simp, fun k _ hk => Below.heap_setCell w ⟨g, o, none⟩ v k (fun e => hk (by rw [e]))⟩
    exact h1.trans (setCells_grown g r (o + 1) _)
theorem run_copy_cellsK {P : Program} (w : World) (dT sT ty elem K : TypeId) (b o dLen dCap : Nat) (a : Addr) (sLen sCap : Nat) (cs : List Value)
    (hu : P.underlying dT = some (.slice elem)) (hs : (P.info? elem).map (·.size) = some K) (hn : cs.length = Nat.min sLen dLen * K)
    (hsrc : ∀ j v, cs[j]? = some v → w.cell? (a.add j) = some v) (hc : ∀ j, j < cs.length → (w.cell? ⟨b, o + j, none⟩).isSome = true) (hf : ∀ j, j < cs.length → w.frozen? ⟨b, o + j, none⟩ = false) (h1 : ∀ v ∈ cs, v.oneCell' = true) :
    (Builtin.copy_ #[dT, sT] ty #[.slice (some ⟨b, o, none⟩) dLen dCap, .slice (some a) sLen sCap]).run P w = .ok (goInt (Nat.min sLen dLen)) (w.setCells b o cs) := by
  have hl := run_loadCells_list (P := P) w a cs hsrc
  have hst := run_storeCells_cells (P := P) b o cs 0 w (by simpa using hc) (by simpa using hf) h1
  cases hq : P.info? elem with
  | none => simp [hq] at hs
  | some i =>
    have hi : i.size = K := by simpa [hq] using hs
    simp [Builtin.copy_, run_underlying hu, Builtin.lenOf, Builtin.firstCells, sizeOf, typeInfo, hq, hi, ← hn, hl, hst]
theorem alloc_drewR (w : World) (o : Obj) : (w.alloc o).drew = w.drew.alloc o := rfl
theorem drew_heap (w : World) (k : Nat) : w.drew.heap[k]? = w.heap[k]? := rfl
/-! ### The four roads -/
theorem size52 (w : World) : (sizeOf 52).run Try.prog w = .ok 6 w := Try.sizeOf52 w
theorem info52s : (Try.prog.info? 52).map (·.size) = some 6 := by kernel_rfl
set_option maxHeartbeats 4000000 in
set_option maxRecDepth 100000 in
/-- There is room, ahead of the end: in place. -/
theorem ins_shift (g n c i gx : Nat) (cur : Array Value) (l : List S52) (x : S52) (w : World) (hb : w.heap[g]? = some (.cells cur 52 (0, 0))) (hcs : cur.size = c * 6) (hcl : cur.toList.take (n * 6) = cells52 l) (hn : n = l.length) (hi : i < n) (hroom : n + 1 ≤ c) (hl : n ≤ 100000)
    (hx : w.heap[gx]? = some (.cells #[.string x.f0, .string x.f1.f0, .int .i64 x.f1.f1, .int .i64 x.f1.f2, .int .i64 x.f1.f3, .int .i64 x.f1.f4] 52 (0, 0))) (hne : gx ≠ g) :
    Calls Try.prog 27 #[.slice (some ⟨g, 0, none⟩) n c, .int .i64 i, .slice (some ⟨gx, 0, none⟩) 1 1] w fun e w' => e = .returned (.slice (some ⟨g, 0, none⟩) (n + 1) c) ∧ w' = (w.drew.setCells g ((i + 1) * 6) (cells52 (l.drop i))).setCells g (i * 6) (enc52 x) := by
  have hov : ∀ lb cb, (callFunc 58 #[.slice (some ⟨gx, 0, none⟩) 1 1, .slice (some ⟨g, (i + 1) * 6, none⟩) lb cb]).run Try.prog w = .ok (.value (.bool false)) w := fun lb cb => by
    rw [run_callFunc_extern Try.func58 (by kernel_rfl) (by kernel_rfl) (by kernel_rfl) (e := Extern.SlicesOverlaps.overlaps #[22, 22] #[4]) (by kernel_rfl),
      Lib.run_overlaps_apart w 22 4 52 Try.underlying22 6 size52 ⟨gx, 0, none⟩ ⟨g, (i + 1) * 6, none⟩ 1 1 lb cb hne 52 52 6 cur.size (by simp [World.shape?, hx]) (by simp [World.shape?, hb]) (by omega) (blk_frozen hx 0) (blk_frozen hx 6)]
    rfl
  have hg : ∀ W : World, (∀ k, W.heap[k]? = w.heap[k]?) → ∀ j, j < (n + 1) * 6 → (W.cell? ⟨g, j, none⟩).isSome = true := fun W hW j hj => by
    rw [blk_cell ((hW g).trans hb) j, Array.getElem?_eq_getElem (show j < cur.size by omega)]
    rfl
  have hrd : ∀ j v, (cells52 (l.drop i))[j]? = some v → w.cell? ⟨g, i * 6 + j, none⟩ = some v := fun j v hj => by
    rw [← cells52_drop l i (by omega), ← hcl, List.getElem?_drop] at hj
    rw [blk_cell hb, ← Array.getElem?_toList]
    have h1 : i * 6 + j < (cur.toList.take (n * 6)).length := (List.getElem?_eq_some_iff.1 hj).1
    rwa [List.getElem?_take_of_lt (by rw [List.length_take] at h1; omega)] at hj
  have hlen : (cells52 (l.drop i)).length = (n - i) * 6 := by rw [cells52_len, List.length_drop, hn]
  have hmin : Nat.min (n + 1 - i) (n - i) = n - i := by simp only [Nat.min_def]; split <;> omega
  have hcp1 : ∀ ty dc sc, (Builtin.copy_ #[22, 22] ty #[.slice (some ⟨g, (i + 1) * 6, none⟩) (n - i) dc, .slice (some ⟨g, i * 6, none⟩) (n + 1 - i) sc]).run Try.prog w.drew = .ok (goInt (Nat.min (n + 1 - i) (n - i))) (w.drew.setCells g ((i + 1) * 6) (cells52 (l.drop i))) := fun ty dc sc =>
    run_copy_cellsK w.drew 22 22 ty 52 6 g ((i + 1) * 6) (n - i) dc ⟨g, i * 6, none⟩ (n + 1 - i) sc (cells52 (l.drop i)) Try.underlying22 info52s (by rw [hlen, hmin]) (fun j v hj => by rw [Addr.add_lit]; exact hrd j v hj) (fun j hj => hg w.drew (fun _ => rfl) _ (by rw [hlen] at hj; omega)) (fun j _ => blk_frozen hb _) (cells52_one _)
  obtain ⟨W1, hW1⟩ : ∃ W1, W1 = w.drew.setCells g ((i + 1) * 6) (cells52 (l.drop i)) := ⟨_, rfl⟩
  have hb1 : W1.heap[g]? = some (.cells (setL cur ((i + 1) * 6) (cells52 (l.drop i))) 52 (0, 0)) := by rw [hW1]; exact setCells_blk g 52 _ _ _ _ hb
  have hx1 : W1.heap[gx]? = some (.cells #[.string x.f0, .string x.f1.f0, .int .i64 x.f1.f1, .int .i64 x.f1.f2, .int .i64 x.f1.f3, .int .i64 x.f1.f4] 52 (0, 0)) := by rw [hW1]; exact (setCells_other g _ _ _ gx hne).trans hx
  have hmin2 : Nat.min 1 (n + 1 - i) = 1 := by simp only [Nat.min_def]; split <;> omega
  have hcp2 : ∀ (W : World), (∀ k : Nat, W.heap[k]? = W1.heap[k]?) → ∀ ty dc, (Builtin.copy_ #[22, 22] ty #[.slice (some ⟨g, i * 6, none⟩) (n + 1 - i) dc, .slice (some ⟨gx, 0, none⟩) 1 1]).run Try.prog W = .ok (goInt (Nat.min 1 (n + 1 - i))) (W.setCells g (i * 6) (enc52 x)) := fun W hW ty dc =>
    run_copy_cellsK W 22 22 ty 52 6 g (i * 6) (n + 1 - i) dc ⟨gx, 0, none⟩ 1 1 (enc52 x) Try.underlying22 info52s (by rw [hmin2]; rfl)
      (fun j v hj => by
        rw [Addr.add_lit, blk_cell ((hW gx).trans hx1), Nat.zero_add, ← Array.getElem?_toList]
        exact hj)
      (fun j hj => by
        rw [blk_cell ((hW g).trans hb1), Array.getElem?_eq_getElem (by rw [setL_size]; have : j < 6 := hj; omega)]
        rfl)
      (fun j _ => blk_frozen ((hW g).trans hb1) _) (fun v hv => cells52_one [x] v (by simpa [cells52] using hv))
  rw [← hW1] at hcp1
  have HN := Aside0.mk hn
  have k1 : IntKind.i64.wrap ((i : Int) + 1) = (i : Int) + 1 := by rw [IntKind.wrap_i64]; omega
  have k2 : (0 : Int) ≤ (i : Int) + 1 := by omega
  have k3 : i ≤ n := by omega
  have k4 : ((i : Int) + 1).toNat = i + 1 := by omega
  have k5 : ¬ (c = i + 1) := by omega
  have k6 : (i : Int) + 1 ≤ (n : Int) + 1 := by omega
  have k7 : ¬ (c = i) := by omega
  have k8 : n + 1 - (i + 1) = n - i := by omega
  have k9 : (i : Int) ≤ (n : Int) + 1 := by omega
  clear hn hg hrd hlen hmin hmin2 hb1 hx1 hcl hcs
  go_enter Try.func27, Try.ntmps27
  go_wp2_with (simp only [hov])
  go_region_law (refine step_copy_runI rfl _ _ 22 22 rfl _ _ (by simp [Act.eval, Act.put]) (by simp [Act.eval, Act.put]) (hcp1 _ _ _) ?_)
  go_wp2_with (at_builtin; refine wpList_copy_runI _ rfl _ _ 22 22 rfl _ _ rfl rfl (hcp2 _ (fun _ => rfl) _ _) ?_)
  go_ret
  exact ⟨rfl, rfl⟩
/-- What lies in the new row at first. -/
def rowZ (l : List S52) (n i G : Nat) : Array Value := (cells52 (l.take i)).toArray ++ Builtin.zeroCells (Value.agg #[.string ⟨#[]⟩, .string ⟨#[]⟩, .int .i64 0, .int .i64 0, .int .i64 0, .int .i64 0]).cells (n + 1 - i) ++ Builtin.zeroCells (Value.agg #[.string ⟨#[]⟩, .string ⟨#[]⟩, .int .i64 0, .int .i64 0, .int .i64 0, .int .i64 0]).cells (G - (n + 1))
theorem zero6 (m : Nat) : (Builtin.zeroCells (Value.agg #[.string ⟨#[]⟩, .string ⟨#[]⟩, .int .i64 0, .int .i64 0, .int .i64 0, .int .i64 0]).cells m).size = m * 6 := zeroCells_size _ m
theorem rowZ_size (l : List S52) (n i G : Nat) (hn : n = l.length) (hi : i ≤ n) (hG : n + 1 ≤ G) : (rowZ l n i G).size = G * 6 := by
  unfold rowZ
  rw [Array.size_append, Array.size_append, zero6, zero6]
  have : (cells52 (l.take i)).toArray.size = i * 6 := by
    show (cells52 (l.take i)).length = _
    rw [cells52_len, List.length_take]
    omega
  omega
set_option maxHeartbeats 4000000 in
set_option maxRecDepth 100000 in
/-- There is no room, ahead of the end: a new row. -/
theorem ins_grow (g n c i gx : Nat) (cur : Array Value) (l : List S52) (x : S52) (w : World) (hb : w.heap[g]? = some (.cells cur 52 (0, 0))) (hcl : cur.toList.take (n * 6) = cells52 l) (hn : n = l.length) (hi : i < n) (hnc : n ≤ c) (hroom : c < n + 1) (hl : n ≤ 100000)
    (hx : w.heap[gx]? = some (.cells #[.string x.f0, .string x.f1.f0, .int .i64 x.f1.f1, .int .i64 x.f1.f2, .int .i64 x.f1.f3, .int .i64 x.f1.f4] 52 (0, 0))) :
    Calls Try.prog 27 #[.slice (some ⟨g, 0, none⟩) n c, .int .i64 i, .slice (some ⟨gx, 0, none⟩) 1 1] w fun e w' => e = .returned (.slice (some ⟨w.heap.size, 0, none⟩) (n + 1) (grownCap w (n + 1) c 52)) ∧
      ∃ W : World, (∀ k : Nat, W.heap[k]? = (w.drew.alloc (.cells (rowZ l n i (grownCap w (n + 1) c 52)) 52)).heap[k]?) ∧ Below w.heap.size w W ∧ ∃ W2 : World, (∀ k : Nat, W2.heap[k]? = (W.setCells w.heap.size (i * 6) (enc52 x)).heap[k]?) ∧ Below w.heap.size w W2 ∧ w' = W2.setCells w.heap.size ((i + 1) * 6) (cells52 (l.drop i)) := by
  obtain ⟨i0, hi0, hz0, hzs, hzb⟩ := info_parts info52
  have hgw : g < w.heap.size := blk_lt hb
  have hxw : gx < w.heap.size := blk_lt hx
  have hrd : ∀ (k : Nat) (m : Nat), k + m ≤ n → ∀ j v, (cells52 ((l.drop k).take m))[j]? = some v → w.cell? ⟨g, k * 6 + j, none⟩ = some v := fun k m hkm j v hj => by
    have hj6 : j < m * 6 := by have := (List.getElem?_eq_some_iff.1 hj).1; rw [cells52_len, List.length_take] at this; omega
    rw [← cells52_take _ _ (by rw [List.length_drop]; omega), ← cells52_drop l k (by omega), ← hcl, List.getElem?_take_of_lt hj6, List.getElem?_drop] at hj
    rw [blk_cell hb, ← Array.getElem?_toList]
    rwa [List.getElem?_take_of_lt (by omega)] at hj
  have hold : (Builtin.firstCells i0.size i (.slice (some ⟨g, 0, none⟩) i c)).run Try.prog w.drew = .ok (cells52 (l.take i)).toArray w.drew := by
    rw [hzs]
    refine run_firstCells_some w.drew 6 i ⟨g, 0, none⟩ i c (cells52 (l.take i)) (by rw [cells52_len, List.length_take]; omega) (fun j v hj => ?_)
    have := hrd 0 i (by omega) j v (by simpa using hj)
    rw [Addr.add_lit]
    simpa using this
  have hik : i + (n + 1 - i) = n + 1 := by omega
  have hkk : (n : Int) + 1 - (i : Int) = ((n + 1 - i : Nat) : Int) := by omega
  have hrz : ∀ ty, (Builtin.append_ #[22, 3] ty #[.slice (some ⟨g, 0, none⟩) i c, .int .i64 ((n : Int) + 1 - (i : Int))]).run Try.prog w =
      .ok (.slice (some ⟨w.heap.size, 0, none⟩) (n + 1) (grownCap w (n + 1) c 52)) (w.drew.alloc (.cells (rowZ l n i (grownCap w (n + 1) c 52)) 52)) := fun ty => by
    have h := Lib.run_append_grow_zeros w 22 3 ty 52 i0 _ .i64 .i64 Try.underlying22 Try.underlying3 hi0 hz0 (some ⟨g, 0, none⟩) i c _ hold (n + 1 - i) (by omega) (by omega) (by omega) (by omega) (by rw [hzb]; omega) (by rw [hzb, hik]; exact growslice_fits hroom (by omega))
    rw [hik] at h
    rw [hkk]
    exact h
  have hGn : n + 1 ≤ grownCap w (n + 1) c 52 := grownCap_ge w _ _ _
  have hG63 : grownCap w (n + 1) c 52 ≤ 9223372036854775807 := by
    have := grownCap_le_maxLen w (n + 1) c 52 (by unfold maxLen; omega)
    unfold maxLen at this
    exact this
  generalize grownCap w (n + 1) c 52 = G at hrz hGn hG63 ⊢
  have hRs := rowZ_size l n i G hn (by omega) hGn
  generalize rowZ l n i G = ROW at hrz hRs ⊢
  obtain ⟨W1, hW1⟩ : ∃ W1, W1 = w.drew.alloc (.cells ROW 52) := ⟨_, rfl⟩
  have hB1 : Below w.heap.size w W1 := by rw [hW1]; exact (below_drew (Below.refl _ _)).alloc (Nat.le_refl _) _
  have hN : W1.heap[w.heap.size]? = some (.cells ROW 52 (0, 0)) := by rw [hW1]; exact (MapKept.heap_alloc w.drew _).1
  have hO : ∀ k, k < w.heap.size → W1.heap[k]? = w.heap[k]? := fun k hk => hB1.block k hk
  have hmin2 : Nat.min 1 (n + 1 - i) = 1 := by simp only [Nat.min_def]; split <;> omega
  have hcpA : ∀ (W : World), (∀ k : Nat, W.heap[k]? = W1.heap[k]?) → ∀ ty dc, (Builtin.copy_ #[22, 22] ty #[.slice (some ⟨w.heap.size, i * 6, none⟩) (n + 1 - i) dc, .slice (some ⟨gx, 0, none⟩) 1 1]).run Try.prog W = .ok (goInt (Nat.min 1 (n + 1 - i))) (W.setCells w.heap.size (i * 6) (enc52 x)) := fun W hW ty dc =>
    run_copy_cellsK W 22 22 ty 52 6 w.heap.size (i * 6) (n + 1 - i) dc ⟨gx, 0, none⟩ 1 1 (enc52 x) Try.underlying22 info52s (by rw [hmin2]; rfl)
      (fun j v hj => by
        rw [Addr.add_lit, blk_cell ((hW gx).trans ((hO gx hxw).trans hx)), Nat.zero_add, ← Array.getElem?_toList]
        exact hj)
      (fun j hj => by
        rw [blk_cell ((hW _).trans hN), Array.getElem?_eq_getElem (by have : j < 6 := hj; omega)]
        rfl)
      (fun j _ => blk_frozen ((hW _).trans hN) _) (fun v hv => cells52_one [x] v (by simpa [cells52] using hv))
  have hlen : (cells52 (l.drop i)).length = (n - i) * 6 := by rw [cells52_len, List.length_drop, hn]
  have hmin : Nat.min (n - i) (n - i) = n - i := by simp only [Nat.min_def]; split <;> omega
  have hcpB : ∀ (W V : World), (∀ k : Nat, W.heap[k]? = (V.setCells w.heap.size (i * 6) (enc52 x)).heap[k]?) → (∀ k : Nat, V.heap[k]? = W1.heap[k]?) → ∀ ty dc sc, (Builtin.copy_ #[22, 22] ty #[.slice (some ⟨w.heap.size, (i + 1) * 6, none⟩) (n - i) dc, .slice (some ⟨g, i * 6, none⟩) (n - i) sc]).run Try.prog W = .ok (goInt (Nat.min (n - i) (n - i))) (W.setCells w.heap.size ((i + 1) * 6) (cells52 (l.drop i))) := fun W V hW hV ty dc sc =>
    run_copy_cellsK W 22 22 ty 52 6 w.heap.size ((i + 1) * 6) (n - i) dc ⟨g, i * 6, none⟩ (n - i) sc (cells52 (l.drop i)) Try.underlying22 info52s (by rw [hlen, hmin])
      (fun j v hj => by
        rw [Addr.add_lit, World.cell?_of_block (a := ⟨g, i * 6 + j, none⟩) (((hW g).trans (setCells_other w.heap.size _ _ _ g (by omega))).trans ((hV g).trans (hO g hgw)))]
        exact hrd i (n - i) (by omega) j v (by rwa [List.take_of_length_le (by rw [List.length_drop]; omega)]))
      (fun j hj => by
        rw [blk_cell ((hW _).trans (setCells_blk _ 52 _ _ _ _ ((hV _).trans hN))), Array.getElem?_eq_getElem (by rw [setL_size]; rw [hlen] at hj; omega)]
        rfl)
      (fun j _ => blk_frozen ((hW _).trans (setCells_blk _ 52 _ _ _ _ ((hV _).trans hN))) _) (cells52_one _)
  have k1 : IntKind.i64.wrap ((i : Int) + 1) = (i : Int) + 1 := by rw [IntKind.wrap_i64]; omega
  have k2 : (0 : Int) ≤ (i : Int) + 1 := by omega
  have k3 : i ≤ n := by omega
  have k4 : ((i : Int) + 1).toNat = i + 1 := by omega
  have k5 : ¬ (G = i + 1) := by omega
  have k6 : (i : Int) + 1 ≤ (n : Int) + 1 := by omega
  have k7 : ¬ (c = i) := by omega
  have k8 : n + 1 - (i + 1) = n - i := by omega
  have k9 : (i : Int) ≤ (n : Int) + 1 := by omega
  have k10 : ¬ (G = i) := by omega
  have k11 : (c : Int) < (n : Int) + 1 := by omega
  have hcpC := hcpB ((w.alloc (.cells ROW 52)).drew.setCells w.heap.size (i * 6) (enc52 x)).drew (w.alloc (.cells ROW 52)).drew (fun k => drew_heap _ k) (fun k => by rw [hW1, alloc_drewR])
  have HN := Aside0.mk hn
  clear hcpB hn hcl hrd hold hik hkk hRs hN hO hmin2 hlen hmin hi0 hz0 hzs hzb
  go_enter Try.func27, Try.ntmps27
  go_wp2_with (first
    | (at_builtin; refine Lib.wpList_append_run _ rfl _ _ _ _ rfl _ _ rfl rfl _ _ (hrz _) ?_)
    | (at_builtin; refine wpList_copy_runI _ rfl _ _ 22 22 rfl _ _ rfl rfl (hcpA (w.alloc (.cells ROW 52)).drew (fun k => by rw [hW1, alloc_drewR]) _ _) ?_))
  have HW1 := Aside0.mk hW1
  have HB1 := Aside0.mk hB1
  clear hrz hcpA hB1 hW1
  have hB2 : Below w.heap.size w ((w.alloc (.cells ROW 52)).drew) := below_drew ((Below.refl _ _).alloc (Nat.le_refl _) _)
  have HB2 : Aside0 (Below w.heap.size w ((w.alloc (.cells ROW 52)).drew.setCells w.heap.size (i * 6) (enc52 x))) := ⟨pw_below_grown hB2 (some w.heap.size) hB2.size (setCells_grown _ _ _ _) (fun k hk => by injection hk with hk; omega)⟩
  have HK2 : Aside0 (∀ k : Nat, ((w.alloc (.cells ROW 52)).drew.setCells w.heap.size (i * 6) (enc52 x)).heap[k]? = (W1.setCells w.heap.size (i * 6) (enc52 x)).heap[k]?) := ⟨fun k => by rw [HW1.out, alloc_drewR]⟩
  generalize (w.alloc (.cells ROW 52)).drew.setCells w.heap.size (i * 6) (enc52 x) = W2 at hcpC HB2 HK2 ⊢
  clear hB2
  go_region_law (refine step_copy_runI rfl _ _ 22 22 rfl _ _ (by simp [Act.eval, Act.put]) (by simp [Act.eval, Act.put]) (hcpC _ _ _) ?_)
  go_wp2
  go_ret
  exact ⟨rfl, W1, fun _ => by rw [HW1.out], HB1.out, W2.drew, HK2.out, below_drew HB2.out, rfl⟩
theorem splice_shift (cur : Array Value) (P E D : List Value) (hP : cur.toList.take P.length = P) (hs : P.length + E.length + D.length ≤ cur.size) :
    (setL (setL cur (P.length + E.length) D) P.length E).toList.take (P.length + E.length + D.length) = P ++ E ++ D := by
  have hPl : P.length ≤ cur.toList.length := by simp; omega
  rw [setL_list _ _ _ (by rw [setL_size]; omega), setL_list _ _ _ (by omega)]
  have h1 : (cur.toList.take (P.length + E.length) ++ D ++ cur.toList.drop (P.length + E.length + D.length)).take P.length = P := by
    rw [List.append_assoc, List.take_append_of_le_length (by simp; omega), List.take_take, Nat.min_eq_left (by omega), hP]
  have h2 : (cur.toList.take (P.length + E.length) ++ D ++ cur.toList.drop (P.length + E.length + D.length)).drop (P.length + E.length) = D ++ cur.toList.drop (P.length + E.length + D.length) := by
    rw [List.append_assoc, List.drop_left' (by simp; omega)]
  rw [h1, h2, ← List.append_assoc]
  exact List.take_left' (by simp; omega)
theorem splice_new (cur : Array Value) (P E D : List Value) (hP : cur.toList.take P.length = P) (hs : P.length + E.length + D.length ≤ cur.size) :
    (setL (setL cur P.length E) (P.length + E.length) D).toList.take (P.length + E.length + D.length) = P ++ E ++ D := by
  have hPl : P.length ≤ cur.toList.length := by simp; omega
  rw [setL_list _ _ _ (by rw [setL_size]; omega), setL_list _ _ _ (by omega), hP]
  have h1 : (P ++ E ++ cur.toList.drop (P.length + E.length)).take (P.length + E.length) = P ++ E := List.take_left' (by simp)
  rw [h1]
  exact List.take_left' (by simp; omega)
theorem cells52_ins (l : List S52) (x : S52) (i : Nat) : cells52 (l.take i) ++ enc52 x ++ cells52 (l.drop i) = cells52 (l.take i ++ x :: l.drop i) := by
  rw [cells52_append, List.append_assoc]
  rfl
set_option maxHeartbeats 4000000 in
set_option maxRecDepth 100000 in
/-- At the end. -/
theorem ins_end (v : Value) (base gx : Nat) (l : List S52) (x : S52) (w : World) (h : Kd.R k52 52 w base (fun _ => True) v l) (hl : l.length ≤ 99999) (hbase : base ≤ w.heap.size) (hx : w.heap[gx]? = some (.cells #[.string x.f0, .string x.f1.f0, .int .i64 x.f1.f1, .int .i64 x.f1.f2, .int .i64 x.f1.f3, .int .i64 x.f1.f4] 52 (0, 0))) :
    Calls Try.prog 27 #[v, .int .i64 l.length, .slice (some ⟨gx, 0, none⟩) 1 1] w fun e w' => ∃ v', e = .returned v' ∧ Kd.R k52 52 w' base (fun _ => True) v' (l ++ [x]) ∧ w.grownBy w' v.ownBlock ∧ (v'.ownBlock = v.ownBlock ∨ ∃ b, v'.ownBlock = some b ∧ w.heap.size ≤ b) := by
  obtain ⟨A, c, rfl, hle, hC⟩ := Kd.R_reads h
  have HX : Aside0 (ReadsRow (Kd.K k52 w) 6 w (some ⟨gx, 0, none⟩) 1 [x]) := ⟨⟨rfl, by omega, fun _ => ⟨_, rfl, fun j p hj => by
    have hj0 : j = 0 := by have := (List.getElem?_eq_some_iff.1 hj).1; simpa using this
    subst hj0
    have hp : p = x := by simpa using hj.symm
    subst hp
    exact ⟨enc52 p, rfl, k52_mk w p, fun i u hu => by rw [Nat.zero_mul, Nat.zero_add, add_plain, blk_cell hx i, ← Array.getElem?_toList]; exact hu⟩⟩⟩⟩
  have HO := Aside0.mk h
  have HB := Aside0.mk (Below.refl base w)
  have HBS := Aside0.mk hbase
  clear h hC hx hbase
  by_cases hc : c = l.length
  · subst hc
    cases A with
    | none =>
      go_enter Try.func27, Try.ntmps27
      go_wp2_with (first | ((with_reducible refine gate_builtin (b := .append) (xs := #[.tmp 23, .tmp 24]) rfl ?_); at_builtin; refine Kd.R_append_rows k52 (Rr := Kd.K k52 w) (w0 := w) base ?hg (.tmp 23) (.tmp 24) 22 52 (.agg #[.string ⟨#[]⟩, .string ⟨#[]⟩, .int .i64 0, .int .i64 0, .int .i64 0, .int .i64 0]) 64 ?ho Try.underlying22 info52 rfl (by decide) (by omega) (.slice none l.length l.length) (l) ([x]) (some ⟨gx, 0, none⟩) 1 1 (fun _ => True) (fun _ => False) ?hs ?hx ?aO ?aR ?aK (fun _ hk => hk.elim) (fun _ _ => trivial) ?aB ?aS ?aL ?_; (case hg => rfl); (case ho => rfl); (case hs => rfl); (case hx => rfl); (case aO => exact HO.out); (case aR => exact HX.out); (case aK => exact fun x cs h => flat_M52 h); (case aB => exact HB.out); (case aS => exact HBS.out); (case aL => omega); intro v9 w9 ho hb hg hat; have HO9 := Aside0.mk ho; have HG9 := Aside0.mk hg; have HA9 := Aside0.mk hat; clear ho hb hg hat))
      go_ret
      exact ⟨_, rfl, HO9.out, HG9.out, HA9.out⟩
    | some ad =>
      go_enter Try.func27, Try.ntmps27
      go_wp2_with (first | ((with_reducible refine gate_builtin (b := .append) (xs := #[.tmp 23, .tmp 24]) rfl ?_); at_builtin; refine Kd.R_append_rows k52 (Rr := Kd.K k52 w) (w0 := w) base ?hg (.tmp 23) (.tmp 24) 22 52 (.agg #[.string ⟨#[]⟩, .string ⟨#[]⟩, .int .i64 0, .int .i64 0, .int .i64 0, .int .i64 0]) 64 ?ho Try.underlying22 info52 rfl (by decide) (by omega) (.slice (some ad) l.length l.length) (l) ([x]) (some ⟨gx, 0, none⟩) 1 1 (fun _ => True) (fun _ => False) ?hs ?hx ?aO ?aR ?aK (fun _ hk => hk.elim) (fun _ _ => trivial) ?aB ?aS ?aL ?_; (case hg => rfl); (case ho => rfl); (case hs => rfl); (case hx => rfl); (case aO => exact HO.out); (case aR => exact HX.out); (case aK => exact fun x cs h => flat_M52 h); (case aB => exact HB.out); (case aS => exact HBS.out); (case aL => omega); intro v9 w9 ho hb hg hat; have HO9 := Aside0.mk ho; have HG9 := Aside0.mk hg; have HA9 := Aside0.mk hat; clear ho hb hg hat))
      go_ret
      exact ⟨_, rfl, HO9.out, HG9.out, HA9.out⟩
  · cases A with
    | none =>
      go_enter Try.func27, Try.ntmps27
      go_wp2_with (first | ((with_reducible refine gate_builtin (b := .append) (xs := #[.tmp 23, .tmp 24]) rfl ?_); at_builtin; refine Kd.R_append_rows k52 (Rr := Kd.K k52 w) (w0 := w) base ?hg (.tmp 23) (.tmp 24) 22 52 (.agg #[.string ⟨#[]⟩, .string ⟨#[]⟩, .int .i64 0, .int .i64 0, .int .i64 0, .int .i64 0]) 64 ?ho Try.underlying22 info52 rfl (by decide) (by omega) (.slice none l.length c) (l) ([x]) (some ⟨gx, 0, none⟩) 1 1 (fun _ => True) (fun _ => False) ?hs ?hx ?aO ?aR ?aK (fun _ hk => hk.elim) (fun _ _ => trivial) ?aB ?aS ?aL ?_; (case hg => rfl); (case ho => rfl); (case hs => rfl); (case hx => rfl); (case aO => exact HO.out); (case aR => exact HX.out); (case aK => exact fun x cs h => flat_M52 h); (case aB => exact HB.out); (case aS => exact HBS.out); (case aL => omega); intro v9 w9 ho hb hg hat; have HO9 := Aside0.mk ho; have HG9 := Aside0.mk hg; have HA9 := Aside0.mk hat; clear ho hb hg hat))
      go_ret
      exact ⟨_, rfl, HO9.out, HG9.out, HA9.out⟩
    | some ad =>
      go_enter Try.func27, Try.ntmps27
      go_wp2_with (first | ((with_reducible refine gate_builtin (b := .append) (xs := #[.tmp 23, .tmp 24]) rfl ?_); at_builtin; refine Kd.R_append_rows k52 (Rr := Kd.K k52 w) (w0 := w) base ?hg (.tmp 23) (.tmp 24) 22 52 (.agg #[.string ⟨#[]⟩, .string ⟨#[]⟩, .int .i64 0, .int .i64 0, .int .i64 0, .int .i64 0]) 64 ?ho Try.underlying22 info52 rfl (by decide) (by omega) (.slice (some ad) l.length c) (l) ([x]) (some ⟨gx, 0, none⟩) 1 1 (fun _ => True) (fun _ => False) ?hs ?hx ?aO ?aR ?aK (fun _ hk => hk.elim) (fun _ _ => trivial) ?aB ?aS ?aL ?_; (case hg => rfl); (case ho => rfl); (case hs => rfl); (case hx => rfl); (case aO => exact HO.out); (case aR => exact HX.out); (case aK => exact fun x cs h => flat_M52 h); (case aB => exact HB.out); (case aS => exact HBS.out); (case aL => omega); intro v9 w9 ho hb hg hat; have HO9 := Aside0.mk ho; have HG9 := Aside0.mk hg; have HA9 := Aside0.mk hat; clear ho hb hg hat))
      go_ret
      exact ⟨_, rfl, HO9.out, HG9.out, HA9.out⟩
theorem insert_calls (v : Value) (base gx i : Nat) (l : List S52) (x : S52) (w : World) (h : Kd.R k52 52 w base (fun _ => True) v l) (hi : i ≤ l.length) (hl : l.length ≤ 99999) (hbase : base ≤ w.heap.size) (hx : w.heap[gx]? = some (.cells #[.string x.f0, .string x.f1.f0, .int .i64 x.f1.f1, .int .i64 x.f1.f2, .int .i64 x.f1.f3, .int .i64 x.f1.f4] 52 (0, 0))) (hne : v.ownBlock ≠ some gx) :
    Calls Try.prog 27 #[v, .int .i64 i, .slice (some ⟨gx, 0, none⟩) 1 1] w fun e w' => ∃ v', e = .returned v' ∧ Kd.R k52 52 w' base (fun _ => True) v' (l.take i ++ x :: l.drop i) ∧ w.grownBy w' v.ownBlock ∧ (v'.ownBlock = v.ownBlock ∨ ∃ b, v'.ownBlock = some b ∧ w.heap.size ≤ b) := by
  by_cases he : i = l.length
  · subst he
    rw [List.take_length, List.drop_length]
    exact ins_end v base gx l x w h hl hbase hx
  · have hlt : i < l.length := by omega
    have ho := own52 h
    rcases ho.2 with ⟨_, h0⟩ | ⟨g, c, cur, rfl, hg, hb, h1, h2, h3, h4⟩
    · omega
    · have hgx : gx ≠ g := fun e => hne (by rw [e]; rfl)
      have hPl : (cells52 (l.take i)).length = i * 6 := by rw [cells52_len, List.length_take]; omega
      have hDl : (cells52 (l.drop i)).length = (l.length - i) * 6 := by rw [cells52_len, List.length_drop]
      have hEl : (enc52 x).length = 6 := rfl
      have hP : cur.toList.take (cells52 (l.take i)).length = cells52 (l.take i) := by
        rw [hPl, ← cells52_take l i hi, ← h4, List.take_take, Nat.min_eq_left (by omega)]
      have hn1 : (cells52 (l.take i)).length + (enc52 x).length + (cells52 (l.drop i)).length = (l.length + 1) * 6 := by rw [hPl, hDl, hEl]; omega
      have hi1 : (cells52 (l.take i)).length + (enc52 x).length = (i + 1) * 6 := by rw [hPl, hEl]; omega
      have hlen : (l.take i ++ x :: l.drop i).length = l.length + 1 := by simp; omega
      by_cases hroom : l.length + 1 ≤ c
      · refine (ins_shift g l.length c i gx cur l x w hb h3 h4 rfl hlt hroom (by omega) hx hgx).mono ?_
        rintro e w' ⟨rfl, rfl⟩
        have hbl := setCells_blk g 52 (enc52 x) (i * 6) _ _ (setCells_blk g 52 (cells52 (l.drop i)) ((i + 1) * 6) w.drew cur hb)
        have hgr : w.grownBy ((w.drew.setCells g ((i + 1) * 6) (cells52 (l.drop i))).setCells g (i * 6) (enc52 x)) (some g) := ((grown_of_below (below_drew (Below.refl _ _)) _).trans (setCells_grown g _ _ _)).trans (setCells_grown g _ _ _)
        refine ⟨_, rfl, row52 ?_, hgr, .inl rfl⟩
        rw [hlen]
        refine ⟨by rw [cells52_len, hlen], .inr ⟨g, c, _, rfl, hg, hbl, hroom, h2, by rw [setL_size, setL_size, h3], ?_⟩⟩
        have hs := splice_shift cur (cells52 (l.take i)) (enc52 x) (cells52 (l.drop i)) hP (by rw [hn1]; omega)
        rw [hn1, hi1, hPl, cells52_ins] at hs
        exact hs
      · refine (ins_grow g l.length c i gx cur l x w hb h4 rfl hlt h1 (by omega) (by omega) hx).mono ?_
        rintro e w' ⟨rfl, W, hW, hBW, W2, hW2, hBW2, rfl⟩
        have hG := grownCap_ge w (l.length + 1) c 52
        have hG2 := grownCap_le_maxLen w (l.length + 1) c 52 (by unfold maxLen; omega)
        generalize grownCap w (l.length + 1) c 52 = G at hW hG hG2 ⊢
        have hRs := rowZ_size l l.length i G rfl hi hG
        have hR0 : (rowZ l l.length i G).toList.take (cells52 (l.take i)).length = cells52 (l.take i) := by
          unfold rowZ
          rw [Array.append_assoc, Array.toList_append]
          exact List.take_left
        have hb1 : W.heap[w.heap.size]? = some (.cells (rowZ l l.length i G) 52 (0, 0)) := (hW _).trans (MapKept.heap_alloc w.drew _).1
        generalize rowZ l l.length i G = ROW at hRs hR0 hb1
        have hbl := setCells_blk w.heap.size 52 (cells52 (l.drop i)) ((i + 1) * 6) W2 _ ((hW2 _).trans (setCells_blk w.heap.size 52 (enc52 x) (i * 6) W ROW hb1))
        have hgr : w.grownBy (W2.setCells w.heap.size ((i + 1) * 6) (cells52 (l.drop i))) (some g) := grown_of_below (pw_below_grown hBW2 (some w.heap.size) hBW2.size (setCells_grown _ _ _ _) (fun k hk => by injection hk with hk; omega)) _
        refine ⟨_, rfl, row52 ?_, hgr, .inr ⟨w.heap.size, rfl, Nat.le_refl _⟩⟩
        rw [hlen]
        refine ⟨by rw [cells52_len, hlen], .inr ⟨w.heap.size, G, _, rfl, hbase, hbl, hG, hG2, by rw [setL_size, setL_size, hRs], ?_⟩⟩
        have hs := splice_new ROW (cells52 (l.take i)) (enc52 x) (cells52 (l.drop i)) hR0 (by rw [hn1, hRs]; omega)
        rw [hn1, hi1, hPl, cells52_ins] at hs
        exact hs
end Go.Proofs.Ytoiedcnhojkpiaa.Q
/- lookup's Add: walked. -/
namespace Go.Proofs.Ytoiedcnhojkpiaa.Q
open Go.RowKit Go.Proofs.YtoiedcnhojkpiaaW.PrintWords Go.Proofs.YtoiedcnhojkpiaaW.PrintLast Go.Proofs.YtoiedcnhojkpiaaW.PrintMore
/-! ### The plain law -/
def isIn (l : List S52) (x : S52) : Bool := l.any fun y => ordS y x == 0
theorem isIn_iff (l : List S52) (x : S52) : isIn l x = true ↔ x ∈ l := by
  unfold isIn
  rw [List.any_eq_true]
  constructor
  · rintro ⟨y, hy, he⟩
    rwa [← (ordS_zero y x).1 (beq_iff_eq.1 he)]
  · exact fun h => ⟨x, h, beq_iff_eq.2 ((ordS_zero x x).2 rfl)⟩
/-- A list in order with an item more, if it is not there. -/
def putS (l : List S52) (x : S52) : List S52 := if isIn l x = true then l else l.filter (fun y => decide (ordS y x < 0)) ++ x :: l.filter (fun y => !decide (ordS y x < 0))
theorem putS_mem (l : List S52) (x y : S52) : y ∈ putS l x ↔ y ∈ l ∨ y = x := by
  unfold putS
  split
  · rename_i h
    have := (isIn_iff l x).1 h
    constructor
    · exact .inl
    · rintro (h | rfl)
      · exact h
      · exact this
  · simp only [List.mem_append, List.mem_cons, List.mem_filter]
    constructor
    · rintro (h | h | h)
      · exact .inl h.1
      · exact .inr h
      · exact .inl h.1
    · rintro (h | h)
      · by_cases hd : ordS y x < 0
        · exact .inl ⟨h, decide_eq_true hd⟩
        · exact .inr (.inr ⟨h, by rw [decide_eq_false hd]; rfl⟩)
      · exact .inr (.inl h)
theorem putS_sorted (l : List S52) (x : S52) (h : Sorted l) : Sorted (putS l x) := by
  unfold putS
  split
  · exact h
  · rename_i hn
    have hx : ∀ y ∈ l, ordS y x ≠ 0 := fun y hy he => hn ((isIn_iff l x).2 (by rw [← (ordS_zero y x).1 he]; exact hy))
    have hge : ∀ y ∈ l, ¬ ordS y x < 0 → ordS x y < 0 := fun y hy hlt => by
      have h1 := hx y hy
      rw [ordS_flip y x]
      omega
    refine List.pairwise_append.2 ⟨h.filter _, List.pairwise_cons.2 ⟨fun y hy => ?_, h.filter _⟩, fun a ha b hb => ?_⟩
    · obtain ⟨h1, h2⟩ := List.mem_filter.1 hy
      exact hge y h1 (by simpa using h2)
    · obtain ⟨h1, h2⟩ := List.mem_filter.1 ha
      rcases List.mem_cons.1 hb with rfl | hb
      · exact of_decide_eq_true h2
      · obtain ⟨h3, h4⟩ := List.mem_filter.1 hb
        exact ordS_trans (of_decide_eq_true h2) (hge b h3 (by simpa using h4))
theorem putS_cut {l : List S52} {x : S52} {i : Nat} (hs : Sorted l) (hc : Cut l (fun y => ordS y x) i) (hni : l[i]? ≠ some x) : putS l x = l.take i ++ x :: l.drop i := by
  have h1 : ∀ y ∈ l.take i, ordS y x < 0 := fun y hy => by
    obtain ⟨k, hk, rfl⟩ := List.getElem_of_mem hy
    have hki : k < i := by have := List.length_take_le i l; simp at hk; omega
    have hkl : k < l.length := by simp at hk; omega
    rw [List.getElem_take]
    exact hc.2.1 k _ hki (List.getElem?_eq_getElem hkl)
  have h2 : ∀ y ∈ l.drop i, ¬ ordS y x < 0 := fun y hy => by
    obtain ⟨k, hk, rfl⟩ := List.getElem_of_mem hy
    have hkl : i + k < l.length := by simp at hk; omega
    rw [List.getElem_drop]
    exact Int.not_lt.2 (hc.2.2 (i + k) _ (by omega) (List.getElem?_eq_getElem hkl))
  have h3 : isIn l x = false := by
    refine eq_false_of_ne_true fun h => ?_
    obtain ⟨k, hk, he⟩ := List.getElem_of_mem ((isIn_iff l x).1 h)
    have hkx : l[k]? = some x := by rw [List.getElem?_eq_getElem hk, he]
    have hz : ordS x x = 0 := (ordS_zero x x).2 rfl
    rcases Nat.lt_trichotomy k i with hki | rfl | hki
    · have h6 : ordS x x < 0 := hc.2.1 k x hki hkx
      omega
    · exact hni hkx
    · have hil : i < l.length := by omega
      have h5 : 0 ≤ ordS l[i] x := hc.2.2 i _ (Nat.le_refl _) (List.getElem?_eq_getElem hil)
      have h4 := hs.lt hki (List.getElem?_eq_getElem hil) hkx
      omega
  unfold putS
  rw [if_neg (by rw [h3]; decide)]
  conv => lhs; rw [← List.take_append_drop i l]
  rw [List.filter_append, List.filter_append, List.filter_eq_self.2 (fun y hy => decide_eq_true (h1 y hy)), List.filter_eq_nil_iff.2 (fun y hy => by rw [decide_eq_true_eq]; exact h2 y hy), List.filter_eq_nil_iff.2 (fun y hy => by rw [decide_eq_true (h1 y hy)]; decide), List.filter_eq_self.2 (fun y hy => by rw [decide_eq_false (h2 y hy)]; rfl)]
  simp
def upF (F : Nat → List S52) (x : S52) : Nat → List S52 := fun j => if j = bk x.f0 then putS (F j) x else F j
def addF (F : Nat → List S52) (l : List S52) : Nat → List S52 := l.foldl upF F
theorem addF_take (F : Nat → List S52) (l : List S52) (k : Nat) (h : k < l.length) : addF F (l.take (k + 1)) = upF (addF F (l.take k)) l[k] := by
  unfold addF
  rw [List.take_succ_eq_append_getElem h, List.foldl_append]
  rfl
/-- Each list in order, of its own ids, of items that may be. -/
def GoodF (F : Nat → List S52) : Prop := ∀ j, Sorted (F j) ∧ ∀ x ∈ F j, bk x.f0 = j ∧ chk x = true
theorem GoodF.up {F : Nat → List S52} (h : GoodF F) {x : S52} (hx : chk x = true) : GoodF (upF F x) := by
  intro j
  unfold upF
  split
  · rename_i hj
    refine ⟨putS_sorted _ _ (h j).1, fun y hy => ?_⟩
    rcases (putS_mem _ _ _).1 hy with h1 | rfl
    · exact (h j).2 y h1
    · exact ⟨hj.symm, hx⟩
  · exact h j
theorem GoodF.add {F : Nat → List S52} (h : GoodF F) : ∀ (l : List S52), (∀ x ∈ l, chk x = true) → GoodF (addF F l) := by
  intro l
  unfold addF
  induction l generalizing F with
  | nil => exact fun _ => h
  | cons a l ih => exact fun hl => ih (h.up (hl a (by simp))) (fun x hx => hl x (by simp [hx]))
theorem putS_len (l : List S52) (x : S52) : (putS l x).length ≤ l.length + 1 := by
  unfold putS
  split
  · omega
  · have h := (List.filter_append_perm (fun y => decide (ordS y x < 0)) l).length_eq
    simp only [List.length_append, List.length_cons] at h ⊢
    omega
theorem addF_len (F : Nat → List S52) (n : Nat) (h : ∀ j, (F j).length ≤ n) : ∀ (l : List S52) j, (addF F l j).length ≤ n + l.length := by
  intro l
  unfold addF
  induction l generalizing F n with
  | nil => intro j; simpa using h j
  | cons a l ih =>
    intro j
    have := ih (upF F a) (n + 1) (fun j => by
      unfold upF
      split
      · have := putS_len (F j) a; have := h j; omega
      · have := h j; omega) j
    simp only [List.foldl_cons, List.length_cons]
    omega
/-! ### The walk -/
/-- Below base nothing has turned but block g. -/
structure KeepB (base g : Nat) (w w' : World) : Prop where
  os : w'.os = w.os
  tape : w'.tape = w.tape
  output : w'.output = w.output
  size : w.heap.size ≤ w'.heap.size
  block : ∀ k, k < base → k ≠ g → w'.heap[k]? = w.heap[k]?
theorem KeepB.of_below {base g : Nat} {w w' : World} (h : Below w.heap.size w w') (hb : base ≤ w.heap.size) : KeepB base g w w' := ⟨h.os, h.tape, h.output, h.size, fun k hk _ => h.block k (Nat.lt_of_lt_of_le hk hb)⟩
theorem KeepB.trans {base g : Nat} {w w1 w2 : World} (h : KeepB base g w w1) (k : KeepB base g w1 w2) : KeepB base g w w2 := ⟨k.os.trans h.os, k.tape.trans h.tape, k.output.trans h.output, Nat.le_trans h.size k.size, fun i hi hg => (k.block i hi hg).trans (h.block i hi hg)⟩
theorem KeepB.grown {base g : Nat} {w w1 : World} {row : Option Nat} (h : w.grownBy w1 row) (hb : base ≤ w.heap.size) (hr : ∀ k, row = some k → base ≤ k) : KeepB base g w w1 := ⟨h.os, h.tape, h.output, h.size, fun k hk _ => h.block k (Nat.lt_of_lt_of_le hk hb) (fun e => by have := hr k e.symm; omega)⟩
theorem KeepB.set {base g : Nat} (w : World) (j : Nat) (v : Value) : KeepB base g w (w.setCell ⟨g, j, none⟩ v) := ⟨rfl, rfl, rfl, by simp, fun k _ hg => Below.heap_setCell w ⟨g, j, none⟩ v k hg⟩
theorem KeepB.C {base g n : Nat} {w w1 : World} {ad : Addr} {xs : List S52} (h : KeepB base g w w1) (hc : Kd.C k52 w (some ad) n xs) (h1 : ad.block < base) (h2 : ad.block ≠ g) : Kd.C k52 w1 (some ad) n xs :=
  ⟨hc.1, hc.2.1, fun hn => by
    obtain ⟨ad', e, hc2⟩ := hc.2.2 hn
    injection e with e
    subst e
    refine ⟨ad, rfl, fun j p hj => ?_⟩
    obtain ⟨c, hs, hr, hcell⟩ := hc2 j p hj
    refine ⟨c, hs, by rw [k52_open hr]; exact k52_mk _ _, fun i u hu => ?_⟩
    have hb : (ad.add (j * 6 + i)).block = ad.block := by unfold Addr.add; split <;> rfl
    have := hcell i u hu
    rwa [World.cell?_of_block (w := w) (w' := w1) (by rw [show (ad.add (j * k52.sz + i)).block = ad.block from hb]; exact h.block _ h1 h2)]⟩
theorem Tab.upd {w w3 : World} {base g j : Nat} {F : Nat → List S52} {v v' : Value} {l' : List S52} (h : Tab w base g F) (hj : j < 256) (hv : w.cell? ⟨g, j, none⟩ = some v) (hgr : w.grownBy w3 v.ownBlock) (hR : Kd.R k52 52 w3 base (fun _ => True) v' l') (hat : v'.ownBlock = v.ownBlock ∨ ∃ b, v'.ownBlock = some b ∧ w.heap.size ≤ b) :
    (∃ u, w3.cell? ⟨g, j, none⟩ = some u) ∧ w3.frozen? ⟨g, j, none⟩ = false ∧ Tab (w3.setCell ⟨g, j, none⟩ v') base g (fun j' => if j' = j then l' else F j') := by
  obtain ⟨vs, h1, h2, h3, h4⟩ := h
  have hvj : vs[j]? = some v := by rw [← blk_cell h2 j]; exact hv
  have hRv := h3 j v hvj
  have hgn : some g ≠ v.ownBlock := Kd.R_ne hRv h2 (by decide)
  have hb3 : w3.heap[g]? = some (.cells vs 71 (0, 0)) := (hgr.block g (blk_lt h2) hgn).trans h2
  have hset := blk_set hb3 j v'
  refine ⟨⟨v, by rw [blk_cell hb3 j]; exact hvj⟩, blk_frozen hb3 j, vs.setIfInBounds j v', by simp [h1], hset, fun i u hu => ?_, fun i k u z hik hu hz b hub hzb => ?_⟩
  · by_cases hij : i = j
    · subst hij
      rw [Array.getElem?_setIfInBounds_self_of_lt (by omega)] at hu
      injection hu with hu
      subst hu
      show Kd.R k52 52 _ base _ _ (if i = i then l' else F i)
      rw [if_pos rfl]
      exact Kd.R_set hR hb3 (by decide) i _
    · rw [Array.getElem?_setIfInBounds_ne (fun e => hij e.symm)] at hu
      show Kd.R k52 52 _ base _ _ (if i = j then l' else F i)
      rw [if_neg hij]
      refine Kd.R_set (row52 (own_other (own52 (h3 i u hu)) hgr ?_)) hb3 (by decide) j _
      cases hu2 : u.ownBlock with
      | none => exact .inl rfl
      | some b => exact .inr fun e => h4 i j u v hij hu hvj b hu2 e.symm
  · have hlt : ∀ (i : Nat) (u : Value), vs[i]? = some u → ∀ b, u.ownBlock = some b → b < w.heap.size := fun i u hu b hb => by
      obtain ⟨inner, ho⟩ := Kd.R_own (h3 i u hu)
      exact own_lt ho b hb
    have hnew : ∀ (i : Nat) (u : Value) (b : Nat), i ≠ j → vs[i]? = some u → u.ownBlock = some b → v'.ownBlock ≠ some b := fun i u b hij hu hb he => by
      rcases hat with h | ⟨b', h, hb'⟩
      · rw [h] at he
        exact h4 i j u v hij hu hvj b hb he
      · rw [h] at he
        injection he with he
        have := hlt i u hu b hb
        omega
    by_cases hij : i = j
    · subst hij
      rw [Array.getElem?_setIfInBounds_self_of_lt (by omega)] at hu
      injection hu with hu
      subst hu
      rw [Array.getElem?_setIfInBounds_ne (fun e => hik e)] at hz
      exact hnew k z b (fun e => hik e.symm) hz hzb hub
    · rw [Array.getElem?_setIfInBounds_ne (fun e => hij e.symm)] at hu
      by_cases hkj : k = j
      · subst hkj
        rw [Array.getElem?_setIfInBounds_self_of_lt (by omega)] at hz
        injection hz with hz
        subst hz
        exact hnew i u b hij hu hub hzb
      · rw [Array.getElem?_setIfInBounds_ne (fun e => hkj e.symm)] at hz
        exact h4 i k u z hik hu hz b hub hzb
set_option maxHeartbeats 4000000 in
set_option maxRecDepth 100000 in
theorem add_calls (base g c : Nat) (A : Option Addr) (F : Nat → List S52) (l : List S52) (w : World) (h : Tab w base g F) (hG : GoodF F) (hF : ∀ j, (F j).length ≤ 1000) (hbase : base ≤ w.heap.size) (hr : Kd.C k52 w A l.length l) (hl : l.length ≤ 1000) (hA : ∀ ad, A = some ad → ad.block < base ∧ ad.block ≠ g) :
    Calls Try.prog 8 #[.pointer (some ⟨g, 0, none⟩), .slice A l.length c] w fun e w' => KeepB base g w w' ∧ ((e = .returned (.int .i64 0) ∧ (∀ x ∈ l, chk x = true) ∧ Tab w' base g (addF F l)) ∨ (e = .returned (.int .i64 1) ∧ (∃ x ∈ l, chk x = false) ∧ Tab w' base g F)) := by
  have HR := Aside0.mk hr
  have HT := Aside0.mk h
  have HG := Aside0.mk hG
  have HF := Aside0.mk hF
  have HBS := Aside0.mk hbase
  have HA := Aside0.mk hA
  have HB0 := Aside0.mk (Below.refl w.heap.size w)
  clear hr h hG hF hbase hA
  go_enter Try.func8, Try.ntmps8
  go_wp2_with (fail)
  go_loopw [15] (fun v15 wr => ∃ k : Nat, k ≤ l.length ∧ v15 = .int .i64 k ∧ Aside0 (∀ x ∈ l.take k, chk x = true) ∧ Aside0 (Below w.heap.size w wr)) (fun v15 _ => l.length - (intOf v15).toNat)
  case atStart => exact ⟨0, Nat.zero_le _, rfl, ⟨fun x hx => by simp at hx⟩, HB0⟩
  case round =>
    clear HB0
    obtain ⟨k, hk, rfl, HC, HB⟩ := hrel
    by_cases hlt : k < l.length
    · obtain ⟨ad, x, rfl, hx, h0, h1, h2, h3, h4, h5⟩ := at52 (Kd.C_below HR.out HB.out) k hlt
      have hx2 : l[k] = x := (List.getElem?_eq_some_iff.1 hx).2
      have HX : Aside0 (∀ y ∈ l.take (k + 1), y ∈ l.take k ∨ y = x) := ⟨fun y hy => by rw [List.take_succ_eq_append_getElem hlt, hx2] at hy; simpa using hy⟩
      have HM : Aside0 (x ∈ l) := ⟨by rw [← hx2]; exact List.getElem_mem hlt⟩
      clear hx hx2
      by_cases hc : chk x = true
      · have hck := check_calls x
        rw [if_pos hc] at hck
        have HC1 : Aside0 (∀ y ∈ l.take (k + 1), chk y = true) := ⟨fun y hy => by
          rcases HX.out y hy with h | rfl
          · exact HC.out y h
          · exact hc⟩
        clear hc
        go_wp2_with (fail)
        refine (hck _).mono ?_
        rintro e w1 ⟨rfl, hB⟩
        have HB1 := Aside0.mk (below_step ((HB.out).alloc HB.out.size _) hB)
        clear hB
        go_wp2_with (fail)
        go_roundw
        case rel => exact ⟨k + 1, by omega, by go_num, HC1, HB1⟩
        case measure => simp [intOf]; omega
      · have hck := check_calls x
        rw [if_neg hc] at hck
        have HC1 : Aside0 (∃ y ∈ l, chk y = false) := ⟨x, HM.out, eq_false_of_ne_true hc⟩
        clear hc
        go_wp2_with (fail)
        refine (hck _).mono ?_
        rintro e w1 ⟨rfl, hB⟩
        have HB1 := Aside0.mk (below_step ((HB.out).alloc HB.out.size _) hB)
        clear hB
        go_wp2_with (fail)
        go_ret
        exact ⟨KeepB.of_below HB1.out HBS.out, .inr ⟨rfl, HC1.out, HT.out.below HB1.out⟩⟩
    · obtain rfl : k = l.length := by omega
      have HC1 : Aside0 (∀ y ∈ l, chk y = true) := ⟨by have := HC.out; rwa [List.take_length] at this⟩
      have HK : Aside0 (KeepB base g w wr) := ⟨KeepB.of_below HB.out HBS.out⟩
      have HT1 := Aside0.mk (HT.out.below HB.out)
      have HS1 : Aside0 (base ≤ wr.heap.size) := ⟨Nat.le_trans HBS.out HB.out.size⟩
      clear HC HB
      go_wp2_with (fail)
      go_loopw [27] (fun v27 w2 => ∃ k : Nat, k ≤ l.length ∧ v27 = .int .i64 k ∧ Aside0 (Tab w2 base g (addF F (l.take k))) ∧ Aside0 (KeepB base g w w2) ∧ Aside0 (base ≤ w2.heap.size)) (fun v27 _ => l.length - (intOf v27).toNat)
      case atStart => exact ⟨0, Nat.zero_le _, rfl, HT1, HK, HS1⟩
      case round =>
        clear HT1 HK HS1
        obtain ⟨k, hk, rfl, HT1, HK, HS1⟩ := hrel
        by_cases hlt : k < l.length
        · obtain ⟨ad, _, rfl, _, _⟩ := at52 HR.out k hlt
          obtain ⟨ha1, ha2⟩ := HA.out ad rfl
          obtain ⟨ad', x, e, hx, h0, h1, h2, h3, h4, h5⟩ := at52 (HK.out.C HR.out ha1 ha2) k hlt
          injection e with e
          subst e
          have hx2 : l[k] = x := (List.getElem?_eq_some_iff.1 hx).2
          have HX := Aside0.mk (addF_take F l k hlt)
          rw [hx2] at HX
          have HXC : Aside0 (chk x = true) := ⟨HC1.out x (by rw [← hx2]; exact List.getElem_mem hlt)⟩
          have HGF : Aside0 (GoodF (addF F (l.take k))) := ⟨HG.out.add _ (fun y hy => HC1.out y (List.mem_of_mem_take hy))⟩
          have HLN : Aside0 (∀ j, (addF F (l.take k) j).length ≤ 2000) := ⟨fun j => by have := addF_len F 1000 HF.out (l.take k) j; have := List.length_take_le k l; omega⟩
          clear hx hx2 ha1 ha2
          generalize addF F (l.take k) = F1 at HX HGF HLN HT1
          obtain ⟨j, hj⟩ : ∃ j, j = bk x.f0 := ⟨_, rfl⟩
          have HJ := Aside0.mk hj
          have hj256 : j < 256 := by rw [hj]; exact bk_lt _
          clear hj
          go_upto_region 11 with (fail)
          have HBX : Aside0 (Below wr.heap.size wr (wr.alloc (.cells #[.string x.f0, .string x.f1.f0, .int .i64 x.f1.f1, .int .i64 x.f1.f2, .int .i64 x.f1.f3, .int .i64 x.f1.f4] 52))) := ⟨below_alloc (Below.refl _ _) _⟩
          have HKX : Aside0 ((wr.alloc (.cells #[.string x.f0, .string x.f1.f0, .int .i64 x.f1.f1, .int .i64 x.f1.f2, .int .i64 x.f1.f3, .int .i64 x.f1.f4] 52)).heap[wr.heap.size]? = some (.cells #[.string x.f0, .string x.f1.f0, .int .i64 x.f1.f1, .int .i64 x.f1.f2, .int .i64 x.f1.f3, .int .i64 x.f1.f4] 52 (0, 0))) := ⟨(MapKept.heap_alloc wr _).1⟩
          have HGX : Aside0 (base ≤ wr.heap.size ∧ g ≠ wr.heap.size) := ⟨HS1.out, by have := HT1.out.lt; omega⟩
          generalize (wr.alloc (.cells #[.string x.f0, .string x.f1.f0, .int .i64 x.f1.f1, .int .i64 x.f1.f2, .int .i64 x.f1.f3, .int .i64 x.f1.f4] 52)) = W at HBX HKX ⊢
          have HT2 := Aside0.mk (HT1.out.below HBX.out)
          have HK2 := Aside0.mk (HK.out.trans (KeepB.of_below HBX.out HS1.out))
          have HS2 : Aside0 (base ≤ W.heap.size) := ⟨Nat.le_trans HS1.out HBX.out.size⟩
          clear HBX HT1 HK h0 h1 h2 h3 h4 h5
          generalize wr.heap.size = gx at HKX HGX ⊢
          clear HS1
          have c0 : W.cell? ⟨gx, 0, none⟩ = some (.string x.f0) := (blk_cell HKX.out 0).trans rfl
          go_wp2_with (fail)
          refine (list_calls g x.f0 W HT2.out.choose HT2.out.choose_spec.2.1).mono ?_
          rintro e w1 ⟨rfl, ⟨nq, hw1⟩⟩
          have HBW : Aside0 (Below W.heap.size W w1) := ⟨by rw [hw1]; exact pw_below_drewN (Below.refl _ _) nq⟩
          have HT3 := Aside0.mk (HT2.out.below HBW.out)
          have HK3 := Aside0.mk (HK2.out.trans (KeepB.of_below HBW.out HS2.out))
          have HS3 : Aside0 (base ≤ w1.heap.size) := ⟨Nat.le_trans HS2.out HBW.out.size⟩
          have HKX3 := Aside0.mk (blk_below HKX.out HBW.out)
          rw [← HJ.out]
          clear HT2 HK2 HS2 HKX hw1 HBW c0
          obtain ⟨v, hc0, hf0, hR0⟩ := HT3.out.cell j hj256
          obtain ⟨A2, c2, rfl, hle2, _⟩ := Kd.R_reads hR0
          have HR0 := Aside0.mk hR0
          have c0 : w1.cell? ⟨gx, 0, none⟩ = some (.string x.f0) := (blk_cell HKX3.out 0).trans rfl
          have c1 : w1.cell? ⟨gx, 1, none⟩ = some (.string x.f1.f0) := (blk_cell HKX3.out 1).trans rfl
          have c2' : w1.cell? ⟨gx, 2, none⟩ = some (.int .i64 x.f1.f1) := (blk_cell HKX3.out 2).trans rfl
          have c3 : w1.cell? ⟨gx, 3, none⟩ = some (.int .i64 x.f1.f2) := (blk_cell HKX3.out 3).trans rfl
          have c4 : w1.cell? ⟨gx, 4, none⟩ = some (.int .i64 x.f1.f3) := (blk_cell HKX3.out 4).trans rfl
          have c5 : w1.cell? ⟨gx, 5, none⟩ = some (.int .i64 x.f1.f4) := (blk_cell HKX3.out 5).trans rfl
          clear hR0 hf0
          go_wp2_with (fail)
          go_region_held3 (fun wq => wq.cell? ⟨g, j, none⟩ = some (.slice A2 (F1 j).length c2) ∧ wq.cell? ⟨gx, 0, none⟩ = some (.string x.f0) ∧ wq.cell? ⟨gx, 1, none⟩ = some (.string x.f1.f0) ∧ wq.cell? ⟨gx, 2, none⟩ = some (.int .i64 x.f1.f1) ∧ wq.cell? ⟨gx, 3, none⟩ = some (.int .i64 x.f1.f2) ∧ wq.cell? ⟨gx, 4, none⟩ = some (.int .i64 x.f1.f3) ∧ wq.cell? ⟨gx, 5, none⟩ = some (.int .i64 x.f1.f4)) (first | assumption | exact ⟨hc0, c0, c1, c2', c3, c4, c5⟩ | exact ⟨pw_cell_below hB hc0, pw_cell_below hB c0, pw_cell_below hB c1, pw_cell_below hB c2', pw_cell_below hB c3, pw_cell_below hB c4, pw_cell_below hB c5⟩) (first | (go_at_call 25; (refine (bsf_calls A2 c2 (F1 j) x _ (C_of_R (Kd.R_drew HR0.out)).1 (by have := HLN.out j; omega) ((HGF.out j).1.split x)).mono ?_); rintro e w2 ⟨i, f, rfl, hcut, hf, hB⟩; have HCUT := Aside0.mk hcut; have HFI := Aside0.mk hf; have HB2 : Aside0 (Below w1.heap.size w1 w2) := ⟨below_step (below_drew (Below.refl _ _)) hB⟩; clear hcut hf))
          have HT4 := Aside0.mk (HT3.out.below HB2.out)
          have HK4 := Aside0.mk (HK3.out.trans (KeepB.of_below HB2.out HS3.out))
          have HS4 : Aside0 (base ≤ w2.heap.size) := ⟨Nat.le_trans HS3.out HB2.out.size⟩
          have HKX4 := Aside0.mk (blk_below HKX3.out HB2.out)
          have HR4 := Aside0.mk (Kd.R_below HR0.out HB2.out)
          have hd0 : w2.cell? ⟨g, j, none⟩ = some (.slice A2 (F1 j).length c2) := pw_cell_below HB2.out hc0
          clear HT3 HK3 HS3 HKX3 HR0 hc0 c0 c1 c2' c3 c4 c5 hB
          have d0 : w2.cell? ⟨gx, 0, none⟩ = some (.string x.f0) := (blk_cell HKX4.out 0).trans rfl
          have d1 : w2.cell? ⟨gx, 1, none⟩ = some (.string x.f1.f0) := (blk_cell HKX4.out 1).trans rfl
          have d2 : w2.cell? ⟨gx, 2, none⟩ = some (.int .i64 x.f1.f1) := (blk_cell HKX4.out 2).trans rfl
          have d3 : w2.cell? ⟨gx, 3, none⟩ = some (.int .i64 x.f1.f2) := (blk_cell HKX4.out 3).trans rfl
          have d4 : w2.cell? ⟨gx, 4, none⟩ = some (.int .i64 x.f1.f3) := (blk_cell HKX4.out 4).trans rfl
          have d5 : w2.cell? ⟨gx, 5, none⟩ = some (.int .i64 x.f1.f4) := (blk_cell HKX4.out 5).trans rfl
          clear hle2
          rename_i hHeld
          clear hHeld HB2
          cases f with
          | true =>
            have HUP : Aside0 (upF F1 x = F1) := ⟨funext fun j' => by
              unfold upF
              split
              · rename_i h
                unfold putS
                rw [if_pos ((isIn_iff _ _).2 (by
                  have := HFI.out.1 rfl
                  rw [h, ← HJ.out]
                  exact List.mem_of_getElem? this))]
              · rfl⟩
            go_wp2
            go_roundw
            case rel => exact ⟨k + 1, by omega, by go_num, ⟨by rw [HX.out, HUP.out]; exact HT4.out⟩, HK4, HS4⟩
            case measure => simp [intOf]; omega
          | false =>
            have HNI : Aside0 ((F1 j)[i]? ≠ some x) := ⟨fun h => by have := HFI.out.2 h; cases this⟩
            have hP := putS_cut (HGF.out j).1 HCUT.out HNI.out
            have HUP : Aside0 ((fun j' => if j' = j then (F1 j).take i ++ x :: (F1 j).drop i else F1 j') = upF F1 x) := ⟨funext fun j' => by
              unfold upF
              rw [← HJ.out]
              by_cases e : j' = j
              · rw [if_pos e, if_pos e, e, hP]
              · rw [if_neg e, if_neg e]⟩
            have hBN : Below w2.heap.size w2 ((w2.alloc (.cells #[.string x.f0, .string x.f1.f0, .int .i64 x.f1.f1, .int .i64 x.f1.f2, .int .i64 x.f1.f3, .int .i64 x.f1.f4] 52)).drew) := below_drew (below_alloc (Below.refl _ _) _)
            have HRN := Aside0.mk (Kd.R_below HR4.out hBN)
            have HTN := Aside0.mk (HT4.out.below hBN)
            have HKN := Aside0.mk (HK4.out.trans (KeepB.of_below hBN HS4.out))
            have HSN : Aside0 (base ≤ ((w2.alloc (.cells #[.string x.f0, .string x.f1.f0, .int .i64 x.f1.f1, .int .i64 x.f1.f2, .int .i64 x.f1.f3, .int .i64 x.f1.f4] 52)).drew).heap.size) := ⟨Nat.le_trans HS4.out hBN.size⟩
            have HXN : Aside0 (((w2.alloc (.cells #[.string x.f0, .string x.f1.f0, .int .i64 x.f1.f1, .int .i64 x.f1.f2, .int .i64 x.f1.f3, .int .i64 x.f1.f4] 52)).drew).heap[w2.heap.size]? = some (.cells #[.string x.f0, .string x.f1.f0, .int .i64 x.f1.f1, .int .i64 x.f1.f2, .int .i64 x.f1.f3, .int .i64 x.f1.f4] 52 (0, 0))) := ⟨(MapKept.heap_alloc w2 _).1⟩
            have HNE : Aside0 ((Value.slice A2 (F1 j).length c2).ownBlock ≠ some w2.heap.size) := ⟨fun e => by
              obtain ⟨inner, ho⟩ := Kd.R_own HR4.out
              have := own_lt ho _ e
              omega⟩
            have HIL : Aside0 (i ≤ (F1 j).length) := ⟨HCUT.out.1⟩
            have HCN : Aside0 (((w2.alloc (.cells #[.string x.f0, .string x.f1.f0, .int .i64 x.f1.f1, .int .i64 x.f1.f2, .int .i64 x.f1.f3, .int .i64 x.f1.f4] 52)).drew).cell? ⟨g, j, none⟩ = some (.slice A2 (F1 j).length c2)) := ⟨pw_cell_below hBN hd0⟩
            have hd0' : (w2.alloc (.cells #[.string x.f0, .string x.f1.f0, .int .i64 x.f1.f1, .int .i64 x.f1.f2, .int .i64 x.f1.f3, .int .i64 x.f1.f4] 52)).cell? ⟨g, j, none⟩ = some (.slice A2 (F1 j).length c2) := pw_cell_below (below_alloc (Below.refl _ _) _) hd0
            clear hP hBN HCUT HNI
            go_wp2
            go_region_with (go_at_call 27; refine (insert_calls (.slice A2 (F1 j).length c2) base w2.heap.size i (F1 j) x _ HRN.out HIL.out (by have := HLN.out j; omega) HSN.out HXN.out HNE.out).mono ?_; rintro e w3 ⟨v', rfl, hR3, hg3, hat3⟩; obtain ⟨A3, c3, rfl, _, _⟩ := Kd.R_reads hR3; obtain ⟨n3, hn3⟩ : ∃ n3, n3 = (List.take i (F1 j) ++ x :: List.drop i (F1 j)).length := ⟨_, rfl⟩; rw [← hn3] at hR3 hat3 ⊢; clear hn3; obtain ⟨⟨u0, hu0⟩, hf0, ht3⟩ := HTN.out.upd hj256 HCN.out hg3 hR3 hat3; have HT5 := Aside0.mk ht3; have HG3 := Aside0.mk hg3; have HK5 : Aside0 (KeepB base g w w3) := ⟨HKN.out.trans (KeepB.grown HG3.out HSN.out (fun k_ hk_ => (by obtain ⟨inner, ho⟩ := Kd.R_own HRN.out; exact own_base ho k_ hk_)))⟩; have HS5 : Aside0 (base ≤ w3.heap.size) := ⟨Nat.le_trans HSN.out HG3.out.size⟩; clear hR3 hg3 hat3 ht3)
            all_goals go_wp2
            all_goals go_roundw
            all_goals first
              | exact ⟨k + 1, by omega, by go_num, ⟨by rw [HX.out, ← HUP.out]; exact HT5.out⟩, ⟨HK5.out.trans (KeepB.set _ _ _)⟩, ⟨by have := HS5.out; simpa using this⟩⟩
              | (simp [intOf]; omega)
        · obtain rfl : k = l.length := by omega
          go_wp2_with (fail)
          go_ret
          exact ⟨HK.out, .inl ⟨rfl, HC1.out, by have := HT1.out; rwa [List.take_length] at this⟩⟩
end Go.Proofs.Ytoiedcnhojkpiaa.Q
