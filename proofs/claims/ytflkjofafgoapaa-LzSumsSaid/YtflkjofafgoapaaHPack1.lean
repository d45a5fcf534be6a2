/- lz's packer and writer, walked by hand: four, alike, number, sequence. -/
import Derived.Test.YtflkjofafgoapaaHUnpack
import Derived.StillTailTactics
import Derived.BigRegion
import Derived.Maps.Own
import Derived.Maps.OwnSet
namespace Go.Proofs.Ytflkjofafgoapaa.Q
open Go.RowKit Go.Proofs.YtflkjofafgoapaaW.PrintWords Go.Proofs.YtflkjofafgoapaaW.PrintLast Go.Proofs.YtflkjofafgoapaaW.PrintMore
attribute [local go_sem] max2_int min2_int max_two min_two max_three min_three max_four min_four

/-- A packer lies in block g: its text, its map's block. -/
def IsP (w : World) (g : Nat) (s : ByteArray) (B : Nat) : Prop := w.heap[g]? = some (.cells #[.string s, .map (some B)] 54 (0, 0))

set_option maxHeartbeats 1000000 in
set_option maxRecDepth 100000 in
theorem four_calls (s : ByteArray) (g B i : Nat) (w : World) (h : IsP w g s B) (hi : i + 4 ≤ s.size) (hs : s.size ≤ 200000) :
    Calls Try.prog 23 #[.pointer (some ⟨g, 0, none⟩), .int .i64 i] w fun e w' => e = .returned (.agg #[.int .u8 (bt s i), .int .u8 (bt s (i + 1 : Nat)), .int .u8 (bt s (i + 2 : Nat)), .int .u8 (bt s (i + 3 : Nat))]) ∧ Below w.heap.size w w' := by
  have hc : w.cell? ⟨g, 0, none⟩ = some (.string s) := (blk_cell h 0).trans rfl
  have hlt := blk_lt h
  clear h
  go_enter Try.func23, Try.ntmps23
  go_wp2
  have hb2 : Below w.heap.size w (w.alloc (.cells #[.int .u8 0, .int .u8 0, .int .u8 0, .int .u8 0] 61)) := below_alloc (Below.refl _ _) _
  have hblk : (w.alloc (.cells #[.int .u8 0, .int .u8 0, .int .u8 0, .int .u8 0] 61)).heap[w.heap.size]? = some (.cells #[.int .u8 0, .int .u8 0, .int .u8 0, .int .u8 0] 61 (0, 0)) := heap_alloc_new _ _
  generalize w.alloc (.cells #[.int .u8 0, .int .u8 0, .int .u8 0, .int .u8 0] 61) = w2 at hb2 hblk ⊢
  have hc2 := pw_cell_below hb2 hc
  have hc3 : w2.drew.cell? ⟨g, 0, none⟩ = some (.string s) := hc2
  have HB2 := Aside0.mk hb2
  have HBLK := Aside0.mk hblk
  clear hb2 hblk
  have g0 : (0 : Int) ≤ (i : Int) := by omega
  have g1 : (0 : Int) ≤ (i : Int) + 1 := by omega
  have g2 : (0 : Int) ≤ (i : Int) + 2 := by omega
  have g3 : (0 : Int) ≤ (i : Int) + 3 := by omega
  have l0 : (i : Int) < (s.size : Int) := by omega
  have l1 : (i : Int) + 1 < (s.size : Int) := by omega
  have l2 : (i : Int) + 2 < (s.size : Int) := by omega
  have l3 : (i : Int) + 3 < (s.size : Int) := by omega
  have t1 : ((i : Int) + 1).toNat = i + 1 := by omega
  have t2 : ((i : Int) + 2).toNat = i + 2 := by omega
  have t3 : ((i : Int) + 3).toNat = i + 3 := by omega
  have k0 : i < s.size := by omega
  have k1 : i + 1 < s.size := by omega
  have k2 : i + 2 < s.size := by omega
  have k3 : i + 3 < s.size := by omega
  have f1 : IntKind.i64.wrap ((i : Int) + 1) = (i : Int) + 1 := IntWalk.i64_in _ (by omega)
  have f2 : IntKind.i64.wrap ((i : Int) + 2) = (i : Int) + 2 := IntWalk.i64_in _ (by omega)
  have f3 : IntKind.i64.wrap ((i : Int) + 3) = (i : Int) + 3 := IntWalk.i64_in _ (by omega)
  go_still_tail 28, (by kernel_rfl)
  change wpList _ _ _ _ _ w2.drew
  have hk3 : Aside0 (w2.drew.heap[w.heap.size]? = some (.cells #[.int .u8 0, .int .u8 0, .int .u8 0, .int .u8 0] 61 (0, 0))) := ⟨HBLK.out⟩
  have HB3 : Aside0 (Below w.heap.size w w2.drew) := ⟨below_drew1 HB2.out⟩
  generalize w2.drew = w3 at hk3 HB3 ⊢
  have z0 := (blk_cell hk3.out 0).trans rfl
  have z1 := (blk_cell hk3.out 1).trans rfl
  have z2 := (blk_cell hk3.out 2).trans rfl
  have z3 := (blk_cell hk3.out 3).trans rfl
  have y0 := blk_frozen hk3.out 0
  have y1 := blk_frozen hk3.out 1
  have y2 := blk_frozen hk3.out 2
  have y3 := blk_frozen hk3.out 3
  go_wp2
  have e0 : ((s[i].toNat : Nat) : Int) = bt s (i : Int) := bt_at s (i : Int) k0
  have e1 : ((s[i + 1].toNat : Nat) : Int) = bt s ((i + 1 : Nat) : Int) := bt_at s ((i + 1 : Nat) : Int) k1
  have e2 : ((s[i + 2].toNat : Nat) : Int) = bt s ((i + 2 : Nat) : Int) := bt_at s ((i + 2 : Nat) : Int) k2
  have e3 : ((s[i + 3].toNat : Nat) : Int) = bt s ((i + 3 : Nat) : Int) := bt_at s ((i + 3 : Nat) : Int) k3
  simp only [e0, e1, e2, e3]
  generalize bt s (i : Int) = b0
  generalize bt s ((i + 1 : Nat) : Int) = b1
  generalize bt s ((i + 2 : Nat) : Int) = b2
  generalize bt s ((i + 3 : Nat) : Int) = b3
  clear z0 z1 z2 z3 y0 y1 y2 y3 e0 e1 e2 e3
  have hB4 : Below w.heap.size w ((((w3.setCell ⟨w.heap.size, 0, none⟩ (.int .u8 b0)).setCell ⟨w.heap.size, 1, none⟩ (.int .u8 b1)).setCell ⟨w.heap.size, 2, none⟩ (.int .u8 b2)).setCell ⟨w.heap.size, 3, none⟩ (.int .u8 b3)) :=
    below_set (below_set (below_set (below_set HB3.out (Nat.le_refl _)) (Nat.le_refl _)) (Nat.le_refl _)) (Nat.le_refl _)
  have hk4 : ((((w3.setCell ⟨w.heap.size, 0, none⟩ (.int .u8 b0)).setCell ⟨w.heap.size, 1, none⟩ (.int .u8 b1)).setCell ⟨w.heap.size, 2, none⟩ (.int .u8 b2)).setCell ⟨w.heap.size, 3, none⟩ (.int .u8 b3)).heap[w.heap.size]? = some (.cells #[.int .u8 b0, .int .u8 b1, .int .u8 b2, .int .u8 b3] 61 (0, 0)) := by
    refine blk_put (cs := #[.int .u8 b0, .int .u8 b1, .int .u8 b2, .int .u8 0]) ?_ 3 _ rfl
    refine blk_put (cs := #[.int .u8 b0, .int .u8 b1, .int .u8 0, .int .u8 0]) ?_ 2 _ rfl
    refine blk_put (cs := #[.int .u8 b0, .int .u8 0, .int .u8 0, .int .u8 0]) ?_ 1 _ rfl
    refine blk_put (cs := #[.int .u8 0, .int .u8 0, .int .u8 0, .int .u8 0]) ?_ 0 _ rfl
    exact hk3.out
  generalize ((((w3.setCell ⟨w.heap.size, 0, none⟩ (.int .u8 b0)).setCell ⟨w.heap.size, 1, none⟩ (.int .u8 b1)).setCell ⟨w.heap.size, 2, none⟩ (.int .u8 b2)).setCell ⟨w.heap.size, 3, none⟩ (.int .u8 b3)) = w4 at hB4 hk4 ⊢
  have z0 : w4.cell? ⟨w.heap.size, 0, none⟩ = some (.int .u8 b0) := (blk_cell hk4 0).trans rfl
  have z1 : w4.cell? ⟨w.heap.size, 1, none⟩ = some (.int .u8 b1) := (blk_cell hk4 1).trans rfl
  have z2 : w4.cell? ⟨w.heap.size, 2, none⟩ = some (.int .u8 b2) := (blk_cell hk4 2).trans rfl
  have z3 : w4.cell? ⟨w.heap.size, 3, none⟩ = some (.int .u8 b3) := (blk_cell hk4 3).trans rfl
  exact bodyPost_ret (v := .agg #[.int .u8 b0, .int .u8 b1, .int .u8 b2, .int .u8 b3]) (by simp [results, Try.results23, go_sem, z0, z1, z2, z3]) rfl ⟨rfl, hB4⟩

/-- How many bytes from two places on are the same. -/
def alikeN (s : ByteArray) (fr i : Nat) : Nat → Nat → Nat
  | 0, n => n
  | d + 1, n => if bt s ((fr + n : Nat) : Int) = bt s ((i + n : Nat) : Int) then alikeN s fr i d (n + 1) else n

set_option maxHeartbeats 1000000 in
set_option maxRecDepth 100000 in
theorem alike_calls (s : ByteArray) (g B fr i : Nat) (w : World) (h : IsP w g s B) (hi : i ≤ s.size) (hf : fr < i) (hs : s.size ≤ 200000) :
    Calls Try.prog 27 #[.pointer (some ⟨g, 0, none⟩), .int .i64 fr, .int .i64 i] w fun e w' => e = .returned (.int .i64 (alikeN s fr i (s.size - i) 0)) ∧ ∃ nd, w' = w.drewN nd := by
  have hc : w.cell? ⟨g, 0, none⟩ = some (.string s) := (blk_cell h 0).trans rfl
  clear h
  go_enter Try.func27, Try.ntmps27
  go_wp2
  go_loopw [7] (fun v7 w' => ∃ (n m : Nat), v7 = .int .i64 (n : Int) ∧ Aside0 (i + n ≤ s.size) ∧ Aside0 (alikeN s fr i (s.size - i - n) n = alikeN s fr i (s.size - i) 0) ∧ w' = w.drewN m) (fun v7 _ => s.size - i - (intOf v7).toNat)
  case atStart => exact ⟨0, 0, rfl, ⟨by omega⟩, ⟨rfl⟩, rfl⟩
  case round =>
    obtain ⟨n, m, rfl, HN, HA, rfl⟩ := hrel
    have hn := HN.out
    by_cases hlt : i + n < s.size
    · have g1 : decide ((i : Int) + (n : Int) < (s.size : Int)) = true := decide_eq_true (by omega)
      have g2 : (0 : Int) ≤ (i : Int) + (n : Int) := by omega
      have g3 : (0 : Int) ≤ (fr : Int) + (n : Int) := by omega
      have g4 : (i : Int) + (n : Int) < (s.size : Int) := by omega
      have g5 : (fr : Int) + (n : Int) < (s.size : Int) := by omega
      have k1 : i + n < s.size := hlt
      have k2 : fr + n < s.size := by omega
      have t1 : ((i : Int) + (n : Int)).toNat = i + n := by omega
      have t2 : ((fr : Int) + (n : Int)).toNat = fr + n := by omega
      have f1 : IntKind.i64.wrap ((i : Int) + (n : Int)) = (i : Int) + (n : Int) := IntWalk.i64_in _ (by omega)
      have f2 : IntKind.i64.wrap ((fr : Int) + (n : Int)) = (fr : Int) + (n : Int) := IntWalk.i64_in _ (by omega)
      clear hlt hn
      go_wp2
      go_quiet (fail)
      go_wp2
      · have ht : (((s[fr + n].toNat : Nat) : Int) == ((s[i + n].toNat : Nat) : Int)) = true := by assumption
        have he : bt s ((fr + n : Nat) : Int) = bt s ((i + n : Nat) : Int) := by
          rw [← bt_at s ((fr + n : Nat) : Int) k2, ← bt_at s ((i + n : Nat) : Int) k1]; exact beq_iff_eq.1 ht
        have hd : s.size - i - n = (s.size - i - (n + 1)) + 1 := by omega
        have hA2 : alikeN s fr i (s.size - i - (n + 1)) (n + 1) = alikeN s fr i (s.size - i) 0 := by
          rw [← HA.out, hd, alikeN, if_pos he]
        go_roundw
        case rel => exact ⟨n + 1, _, by go_num, ⟨by omega⟩, ⟨hA2⟩, rfl⟩
        case measure => simp [intOf]; omega
      · have ht : (((s[fr + n].toNat : Nat) : Int) == ((s[i + n].toNat : Nat) : Int)) = false := by assumption
        have he : ¬ bt s ((fr + n : Nat) : Int) = bt s ((i + n : Nat) : Int) := by
          rw [← bt_at s ((fr + n : Nat) : Int) k2, ← bt_at s ((i + n : Nat) : Int) k1]; exact beq_eq_false_iff_ne.1 ht
        have hd : s.size - i - n = (s.size - i - (n + 1)) + 1 := by omega
        have hA2 : alikeN s fr i (s.size - i) 0 = n := by
          rw [← HA.out, hd, alikeN, if_neg he]
        go_ret
        exact ⟨by rw [hA2]; rfl, _, World.drewN_drewN _ _ _⟩
    · have g1 : decide ((i : Int) + (n : Int) < (s.size : Int)) = false := decide_eq_false (by omega)
      have g4 : (s.size : Int) ≤ (i : Int) + (n : Int) := by omega
      have f1 : IntKind.i64.wrap ((i : Int) + (n : Int)) = (i : Int) + (n : Int) := IntWalk.i64_in _ (by omega)
      have hA2 : alikeN s fr i (s.size - i) 0 = n := by
        rw [← HA.out, show s.size - i - n = 0 from by omega, alikeN]
      have HA2 := Aside0.mk hA2
      clear hlt hn hA2
      go_wp2
      go_quiet (fail)
      go_wp2
      go_ret
      exact ⟨by rw [HA2.out]; rfl, _, World.drewN_drewN _ _ _⟩

/-- A writer lies in block g: its bytes as numbers, in a row of the call's own. -/
def IsW (w : World) (base g : Nat) (xs : List Int) : Prop :=
  ∃ v, w.heap[g]? = some (.cells #[v] 57 (0, 0)) ∧ w.ownsRow base 5 1 v xs.length (nums .u8 xs)

/-- What stays beside a writer: below base all; else each block that is neither bytes nor a writer. -/
structure KW (base : Nat) (w w' : World) : Prop where
  below : Below base w w'
  size : w.heap.size ≤ w'.heap.size
  keep : ∀ (k : Nat) (o : Obj), w.heap[k]? = some o → (∀ cs fr, o ≠ Obj.cells cs 5 fr) → (∀ cs fr, o ≠ Obj.cells cs 57 fr) → w'.heap[k]? = some o
theorem KW.refl (base : Nat) (w : World) : KW base w w := ⟨Below.refl _ _, Nat.le_refl _, fun _ _ h _ _ => h⟩
theorem KW.trans {base : Nat} {w w1 w2 : World} (h : KW base w w1) (k : KW base w1 w2) : KW base w w2 :=
  ⟨h.below.trans k.below, Nat.le_trans h.size k.size, fun i o ho h5 h57 => k.keep i o (h.keep i o ho h5 h57) h5 h57⟩
theorem KW.of_below {base : Nat} {w w1 : World} (h : Below w.heap.size w w1) (hb : base ≤ w.heap.size) : KW base w w1 :=
  ⟨h.mono hb, h.size, fun i _ ho _ _ => (h.block i (blk_lt ho)).trans ho⟩
theorem KW.grown {base : Nat} {w w1 : World} {v : Value} {n : Nat} {xs : List Value} (hg : w.grownBy w1 v.ownBlock) (ho : w.ownsRow base 5 1 v n xs) (hb : base ≤ w.heap.size) : KW base w w1 := by
  refine ⟨(Below.refl _ _).grown hg hb (own_base ho), hg.size, fun i o hi h5 _ => blk_grown hi hg (fun e => ?_)⟩
  obtain ⟨cells, hc⟩ := own_typed ho i e.symm
  rw [hc] at hi
  exact h5 _ _ (Option.some.inj hi).symm
theorem KW.set {base : Nat} {w : World} {g : Nat} {cs : Array Value} (hg : w.heap[g]? = some (.cells cs 57 (0, 0))) (hb : base ≤ g) (j : Nat) (u : Value) : KW base w (w.setCell ⟨g, j, none⟩ u) := by
  refine ⟨(Below.refl _ _).setCell hb _, by simp, fun i o hi _ h57 => ?_⟩
  by_cases e : i = g
  · subst e
    rw [hg] at hi
    exact absurd (Option.some.inj hi).symm (h57 _ _)
  · exact (Below.heap_setCell w ⟨g, j, none⟩ u i e).trans hi

/-- What half a byte does not hold, as the writer writes it. -/
def extN (m : Nat) : List Int := if _h : 255 ≤ m then 255 :: extN (m - 255) else [(m : Int)]
termination_by m
decreasing_by omega
def encN (n : Nat) : List Int := if n < 15 then [] else extN (n - 15)

theorem snoc_len (ys : List Int) (y : Int) : (ys ++ [y]).length = ys.length + 1 := by simp

/-- One byte is appended to a writer's bytes, and the slice is stored back. -/
theorem writer_put {base g : Nat} {w w1 : World} {v v1 : Value} {xs ys : List Int} (hg : w.heap[g]? = some (.cells #[v] 57 (0, 0))) (hb : base ≤ g) (ho : w.ownsRow base 5 1 v xs.length (nums .u8 xs))
    (ho1 : w1.ownsRow base 5 1 v1 ys.length (nums .u8 ys)) (hgr : w.grownBy w1 v.ownBlock) :
    IsW (w1.setCell ⟨g, 0, none⟩ v1) base g ys ∧ KW base w (w1.setCell ⟨g, 0, none⟩ v1) ∧ w1.heap[g]? = some (.cells #[v] 57 (0, 0)) := by
  have hne : some g ≠ v.ownBlock := own_ne ho hg (by decide)
  have hg1 := blk_grown hg hgr hne
  refine ⟨⟨v1, ?_, ?_⟩, (KW.grown hgr ho (Nat.le_trans hb (Nat.le_of_lt (blk_lt hg)))).trans (KW.set hg1 hb 0 v1), hg1⟩
  · have := blk_set hg1 0 v1
    simpa using this
  · exact own_setCell ho1 (own_ne ho1 hg1 (by decide)) v1

set_option maxHeartbeats 1000000 in
set_option maxRecDepth 100000 in
theorem number_calls (base g n : Nat) (xs : List Int) (w : World) (h : IsW w base g xs) (hb : base ≤ g) (hn : n ≤ 10000000) (hx : xs.length ≤ 10000000) :
    Calls Try.prog 28 #[.pointer (some ⟨g, 0, none⟩), .int .i64 n] w fun e w' => e = .returned (.tuple #[]) ∧ IsW w' base g (xs ++ encN n) ∧ KW base w w' := by
  by_cases h15 : n < 15
  · have e1 : decide ((n : Int) < 15) = true := decide_eq_true (by omega)
    have HW := Aside0.mk h
    have HE : Aside0 (encN n = []) := ⟨by rw [encN, if_pos h15]⟩
    clear h
    go_enter Try.func28, Try.ntmps28
    go_wp2
    refine bodyPost_ret (results_none rfl _ _ _) rfl ?_
    exact ⟨rfl, by rw [HE.out, List.append_nil]; exact HW.out, KW.refl _ _⟩
  · have e1 : decide ((n : Int) < 15) = false := decide_eq_false (by omega)
    have HE : Aside0 (encN n = extN (n - 15)) := ⟨by rw [encN, if_neg h15]⟩
    have HW := Aside0.mk h
    have b1 : (15 : Int) ≤ (n : Int) := by omega
    have b2 : (n : Int) ≤ 10000000 := by omega
    clear h h15
    go_enter Try.func28, Try.ntmps28
    go_wp2
    go_loopw [1] (fun v1 w' => ∃ (m : Nat) (ys : List Int), v1 = .int .i64 (m : Int) ∧ Aside0 (m ≤ 10000000 ∧ ys.length + m ≤ 30000000) ∧ Aside0 (ys ++ extN m = xs ++ extN (n - 15)) ∧ Aside0 (IsW w' base g ys) ∧ Aside0 (KW base w w')) (fun v1 _ => (intOf v1).toNat)
    case atStart => exact ⟨n - 15, xs, by go_num, ⟨by omega⟩, ⟨rfl⟩, HW, ⟨KW.refl _ _⟩⟩
    case round =>
      obtain ⟨m, ys, rfl, HM, HY, HW1, HK⟩ := hrel
      clear HW
      obtain ⟨v, hg0, ho0⟩ := HW1.out
      have HG := Aside0.mk hg0
      have HOW := Aside0.mk ho0
      have hcell : wr.cell? ⟨g, 0, none⟩ = some v := (blk_cell hg0 0).trans rfl
      have hlt : g < wr.heap.size := blk_lt hg0
      clear hg0 ho0 b1 b2 HW1
      by_cases h255 : 255 ≤ m
      · have e2 : decide ((255 : Int) ≤ (m : Int)) = true := decide_eq_true (by omega)
        have b3 : (255 : Int) ≤ (m : Int) := by omega
        have b4 : (m : Int) ≤ 10000000 := by have := HM.out; omega
        have H255 := Aside0.mk h255
        clear h255
        go_wp2_with (at_builtin; refine print_append_num (w0 := w) base rfl (.tmp 16) _ 41 5 .u8 1 rfl Try.underlying41 info5 (by decide) v ys 255 rfl rfl HOW.out HK.out.below (Nat.le_trans hb (Nat.le_of_lt (blk_lt HG.out))) (by have := HM.out; omega) ?_; intro v1 w1 ho1 _ hg1 _; rw [snoc_len] at ho1; obtain ⟨A1, c1, ev1⟩ := own_slice ho1; subst ev1; have HP := Aside0.mk (writer_put HG.out hb HOW.out (by rw [snoc_len]; exact ho1) hg1); have z1 : w1.cell? ⟨g, 0, none⟩ = some v := (blk_cell HP.out.2.2 0).trans rfl; have y1 := blk_frozen HP.out.2.2 0; clear ho1 hg1)
        go_roundw
        case rel => exact ⟨m - 255, ys ++ [255], by go_num, ⟨by have := HM.out; have := H255.out; simp; omega⟩, ⟨by rw [← HY.out, List.append_assoc]; congr 1; rw [extN.eq_def m, dif_pos H255.out]; rfl⟩, ⟨HP.out.1⟩, ⟨HK.out.trans HP.out.2.1⟩⟩
        case measure => simp [intOf]; have := H255.out; omega
      · have e2 : decide ((255 : Int) ≤ (m : Int)) = false := decide_eq_false (by omega)
        have b3 : (m : Int) < 255 := by omega
        have b4 : (0 : Int) ≤ (m : Int) := by omega
        have f1 : IntKind.u8.wrap (m : Int) = (m : Int) := by rw [IntKind.wrap_u8]; omega
        have H255 := Aside0.mk h255
        clear h255
        go_wp2_with (at_builtin; refine print_append_num (w0 := w) base rfl (.tmp 25) _ 41 5 .u8 1 rfl Try.underlying41 info5 (by decide) v ys m rfl rfl HOW.out HK.out.below (Nat.le_trans hb (Nat.le_of_lt (blk_lt HG.out))) (by have := HM.out; omega) ?_; intro v1 w1 ho1 _ hg1 _; rw [snoc_len] at ho1; obtain ⟨A1, c1, ev1⟩ := own_slice ho1; subst ev1; have HP := Aside0.mk (writer_put HG.out hb HOW.out (by rw [snoc_len]; exact ho1) hg1); have z1 : w1.cell? ⟨g, 0, none⟩ = some v := (blk_cell HP.out.2.2 0).trans rfl; have y1 := blk_frozen HP.out.2.2 0; clear ho1 hg1)
        go_end0
        exact ⟨rfl, by rw [HE.out, ← HY.out, extN.eq_def m, dif_neg H255.out]; exact HP.out.1, HK.out.trans HP.out.2.1⟩

/-- Two bytes are appended. -/
theorem append_two {P : Program} {ops : Array Oper} {rest : List Oper} {o : Oper} {a : Act} {Q : Exit → Act → World → Prop} {W : World} (base : Nat) (hgd : o.guard = none) (s x : Operand) (t e : TypeId)
    (ho : o.op = .call { callee := .builtin .append, args := #[s, x], argTypes := #[t, t] })
    (ht : P.underlying t = some (.slice e)) (hinfo : (P.info? e).map (fun i => (i.zero, i.size, i.bytes)) = some (some (.int .u8 0), 1, 1))
    (v : Value) (xs : List Int) (y z : Int) (hs : a.eval s = v) (hx : a.eval x = .slice (some ⟨W.heap.size, 0, none⟩) 2 2)
    (HO : W.ownsRow base e 1 v xs.length (nums .u8 xs)) (hbase : base ≤ W.heap.size) (hl : xs.length ≤ 100000000)
    (h : ∀ v1 w1, w1.ownsRow base e 1 v1 (xs ++ [y, z]).length (nums .u8 (xs ++ [y, z])) → W.grownBy w1 v.ownBlock → wpList P ops Q rest (a.put o.dst v1) w1) :
    wpList P ops Q (o :: rest) a (W.alloc (.cells #[.int .u8 y, .int .u8 z] e)) := by
  obtain ⟨i0, hi, hzz⟩ := Option.map_eq_some_iff.1 hinfo
  simp only [Prod.mk.injEq] at hzz
  obtain ⟨hz0, hz1, hz2⟩ := hzz
  refine wpList_append_own_at (W.alloc (.cells #[.int .u8 y, .int .u8 z] e)) hgd s x t ho base e i0 (.int .u8 0) 1 1 ht hi hz0 hz1 hz2 rfl (by decide) v xs.length (nums .u8 xs) hs (HO.alloc _) ⟨W.heap.size, 0, none⟩ 2 2 [.int .u8 y, .int .u8 z] hx rfl
    (World.news_of_block (cs := #[.int .u8 y, .int .u8 z]) (t := e) (fr := (0, 0)) (heap_alloc_new W _)) (by simp [Value.oneCell']) (by simp only [maxLen]; omega) (by omega) (by simp; omega) ?_
  intro v1 w1 hown hg _ _
  exact h v1 w1 (by simpa [nums] using hown) (World.grownBy.trans (World.grownBy_alloc W _ _) hg)

theorem two_len (ys : List Int) (y z : Int) : (ys ++ [y, z]).length = ys.length + 2 := by simp
theorem str_len (ys : List Int) (s : ByteArray) : (ys ++ bytesOf s).length = ys.length + s.size := by rw [List.length_append, bytesOf_length]
theorem encN_len (n : Nat) : (encN n).length ≤ n / 255 + 1 := by
  have h : ∀ m : Nat, (extN m).length = m / 255 + 1 := by
    intro m
    induction m using Nat.strongRecOn with
    | ind m ih =>
      rw [extN.eq_def]
      by_cases h : 255 ≤ m
      · rw [dif_pos h, List.length_cons, ih (m - 255) (by omega)]; omega
      · rw [dif_neg h]; simp; omega
  unfold encN
  split
  · simp
  · rw [h]; omega

/-- A sequence as the writer writes it. -/
def tokN (L d M : Nat) : Nat := min L 15 * 16 + if 0 < d then min (M - 4) 15 else 0
def seqN (lits : ByteArray) (d M : Nat) : List Int :=
  [(tokN lits.size d M : Int)] ++ encN lits.size ++ bytesOf lits ++ if 0 < d then [((d % 256 : Nat) : Int), ((d / 256 : Nat) : Int)] ++ encN (M - 4) else []

set_option maxHeartbeats 1000000 in
set_option maxRecDepth 100000 in
theorem sequence_calls (base g d M : Nat) (lits : ByteArray) (xs : List Int) (w : World) (h : IsW w base g xs) (hb : base ≤ g) (hl : lits.size ≤ 200000) (hd : d ≤ 65535) (hM : d = 0 ∧ M = 0 ∨ 0 < d ∧ 4 ≤ M ∧ M ≤ 200000) (hx : xs.length ≤ 1000000) :
    Calls Try.prog 22 #[.pointer (some ⟨g, 0, none⟩), .string lits, .int .i64 d, .int .i64 M] w fun e w' => e = .returned (.tuple #[]) ∧ IsW w' base g (xs ++ seqN lits d M) ∧ KW base w w' := by
  obtain ⟨v, hg0, ho0⟩ := h
  have HG := Aside0.mk hg0
  have HOW := Aside0.mk ho0
  have hcell : w.cell? ⟨g, 0, none⟩ = some v := (blk_cell hg0 0).trans rfl
  have hlt : g < w.heap.size := blk_lt hg0
  clear hg0 ho0
  have q1 : (if (15 : Int) < (lits.size : Int) then (15 : Int) else (lits.size : Int)) = ((min lits.size 15 : Nat) : Int) := by omega
  have q2 : (if 15 < lits.size then (15 : Int) else (lits.size : Int)) = ((min lits.size 15 : Nat) : Int) := by omega
  have HX := Aside0.mk hx
  clear hx
  rcases hM with ⟨rfl, rfl⟩ | ⟨h1, h2, h3⟩
  · obtain ⟨tk, htk⟩ : ∃ tk, tk = tokN lits.size 0 0 := ⟨_, rfl⟩
    have hT : ((min lits.size 15 : Nat) : Int) * 16 = (tk : Int) := by rw [htk]; simp [tokN]
    have hTb : tk ≤ 255 := by rw [htk]; simp [tokN]; omega
    have f1 : IntKind.u8.wrap (tk : Int) = (tk : Int) := by rw [IntKind.wrap_u8]; omega
    have HTK := Aside0.mk htk
    have HTB := Aside0.mk hTb
    clear htk hTb
    go_enter Try.func22, Try.ntmps22
    go_upto_region 3 with (fail)
    clear hT
    clear q1 q2 hcell hlt
    have hcell : w.cell? ⟨g, 0, none⟩ = some v := (blk_cell HG.out 0).trans rfl
    have hlt : g < w.heap.size := blk_lt HG.out
    go_upto_region 4 with (at_builtin; refine print_append_num (w0 := w) base rfl (.tmp 24) _ 41 5 .u8 1 rfl Try.underlying41 info5 (by decide) v xs (tk : Int) rfl rfl HOW.out (Below.refl _ _) (Nat.le_trans hb (Nat.le_of_lt (blk_lt HG.out))) (by have := HX.out; omega) ?_; intro v1 w1 ho1 _ hg1 _; rw [snoc_len] at ho1; obtain ⟨A1, c1, ev1⟩ := own_slice ho1; subst ev1; have HP := Aside0.mk (writer_put HG.out hb HOW.out (by rw [snoc_len]; exact ho1) hg1); have z1 : w1.cell? ⟨g, 0, none⟩ = some v := (blk_cell HP.out.2.2 0).trans rfl; have y1 := blk_frozen HP.out.2.2 0; clear ho1 hg1)
    clear hcell hlt z1 y1
    have HI1 := Aside0.mk HP.out.1
    have HK1 := Aside0.mk HP.out.2.1
    clear HP HG HOW
    generalize w1.setCell ⟨g, 0, none⟩ (.slice A1 (xs.length + 1) c1) = w2 at HI1 HK1 ⊢
    go_upto_region 5 with (go_at_call 28; refine (number_calls base g lits.size (xs ++ [(tk : Int)]) _ HI1.out hb (by omega) (by have := HX.out; rw [snoc_len]; omega)).mono ?_; rintro e w3 ⟨rfl, hI, hK⟩; have HI3 := Aside0.mk hI; have HK3 := Aside0.mk (HK1.out.trans hK); clear hI hK)
    obtain ⟨v3, hg3, ho3⟩ := HI3.out
    have HG3 := Aside0.mk hg3
    have HO3 := Aside0.mk ho3
    have hcell : w3.cell? ⟨g, 0, none⟩ = some v3 := (blk_cell hg3 0).trans rfl
    have hlt : g < w3.heap.size := blk_lt hg3
    have HL3 : Aside0 ((xs ++ [(tk : Int)] ++ encN lits.size).length ≤ 2000000) := ⟨by have := encN_len lits.size; have h2 := HX.out; rw [List.length_append, snoc_len]; omega⟩
    clear hg3 ho3 HI1 HK1 HI3
    have HSEQ : Aside0 (xs ++ seqN lits 0 0 = xs ++ [(tk : Int)] ++ encN lits.size ++ bytesOf lits) := ⟨by simp [seqN, HTK.out]⟩
    generalize xs ++ [(tk : Int)] ++ encN lits.size = ys at HO3 HL3 HSEQ ⊢
    go_wp2_with (at_builtin; refine print_append_str (w0 := w) base rfl (.tmp 39) _ 41 9 5 rfl Try.underlying41 Try.underlying9 info5 v3 ys lits rfl rfl HO3.out HK3.out.below (Nat.le_trans hb (Nat.le_of_lt (blk_lt HG3.out))) (by have := HL3.out; omega) ?_; intro v5 w5 ho5 _ hg5; rw [str_len] at ho5; obtain ⟨A5, c5, ev5⟩ := own_slice ho5; subst ev5; have HP := Aside0.mk (writer_put HG3.out hb HO3.out (by rw [str_len]; exact ho5) hg5); have z1 : w5.cell? ⟨g, 0, none⟩ = some v3 := (blk_cell HP.out.2.2 0).trans rfl; have y1 := blk_frozen HP.out.2.2 0; clear ho5 hg5)
    go_end0
    exact ⟨rfl, by rw [HSEQ.out]; exact HP.out.1, HK3.out.trans HP.out.2.1⟩
  · obtain ⟨tk, htk⟩ : ∃ tk, tk = tokN lits.size d M := ⟨_, rfl⟩
    have c1 : (0 : Int) < (d : Int) := by omega
    have c2 : (4 : Int) ≤ (M : Int) := by omega
    have c3 : (M : Int) ≤ 200000 := by omega
    have q3 : (if (15 : Int) < (M : Int) - 4 then (15 : Int) else (M : Int) - 4) = ((min (M - 4) 15 : Nat) : Int) := by omega
    have hTb : tk ≤ 255 := by rw [htk]; simp only [tokN]; rw [if_pos h1]; omega
    have q4 : Go.bits .or .i64 (((min lits.size 15 : Nat) : Int) * 16) ((min (M - 4) 15 : Nat) : Int) = (tk : Int) := by
      have hw : ∀ n : Int, 0 ≤ n → n < 2 ^ 8 → IntKind.i64.wrap n = n := fun n h0 h1 => by
        have : (2:Int)^8 = 256 := by decide
        rw [IntKind.wrap_i64]; omega
      have e4 : (2:Int)^4 = 16 := by decide
      have e8 : (2:Int)^8 = 256 := by decide
      rw [bits_join .i64 8 (by decide) hw 4 _ _ (by omega) (by rw [e4]; omega) (by rw [e8]; omega) (by omega) (by rw [e4]; omega) (by rw [e8]; omega), htk]
      simp only [tokN]; rw [if_pos h1]; omega
    have f1 : IntKind.u8.wrap (tk : Int) = (tk : Int) := by rw [IntKind.wrap_u8]; omega
    have HTK := Aside0.mk htk
    have HTB := Aside0.mk hTb
    clear htk hTb
    go_enter Try.func22, Try.ntmps22
    go_upto_region 3 with (fail)
    clear q3 q4
    clear q1 q2 hcell hlt
    have hcell : w.cell? ⟨g, 0, none⟩ = some v := (blk_cell HG.out 0).trans rfl
    have hlt : g < w.heap.size := blk_lt HG.out
    go_upto_region 4 with (at_builtin; refine print_append_num (w0 := w) base rfl (.tmp 24) _ 41 5 .u8 1 rfl Try.underlying41 info5 (by decide) v xs (tk : Int) rfl rfl HOW.out (Below.refl _ _) (Nat.le_trans hb (Nat.le_of_lt (blk_lt HG.out))) (by have := HX.out; omega) ?_; intro v1 w1 ho1 _ hg1 _; rw [snoc_len] at ho1; obtain ⟨A1, c1, ev1⟩ := own_slice ho1; subst ev1; have HP := Aside0.mk (writer_put HG.out hb HOW.out (by rw [snoc_len]; exact ho1) hg1); have z1 : w1.cell? ⟨g, 0, none⟩ = some v := (blk_cell HP.out.2.2 0).trans rfl; have y1 := blk_frozen HP.out.2.2 0; clear ho1 hg1)
    clear hcell hlt z1 y1
    have HI1 := Aside0.mk HP.out.1
    have HK1 := Aside0.mk HP.out.2.1
    clear HP HG HOW
    generalize w1.setCell ⟨g, 0, none⟩ (.slice A1 (xs.length + 1) c1) = w2 at HI1 HK1 ⊢
    go_upto_region 5 with (go_at_call 28; refine (number_calls base g lits.size (xs ++ [(tk : Int)]) _ HI1.out hb (by omega) (by have := HX.out; rw [snoc_len]; omega)).mono ?_; rintro e w3 ⟨rfl, hI, hK⟩; have HI3 := Aside0.mk hI; have HK3 := Aside0.mk (HK1.out.trans hK); clear hI hK)
    obtain ⟨v3, hg3, ho3⟩ := HI3.out
    have HG3 := Aside0.mk hg3
    have HO3 := Aside0.mk ho3
    have hcell : w3.cell? ⟨g, 0, none⟩ = some v3 := (blk_cell hg3 0).trans rfl
    have hlt : g < w3.heap.size := blk_lt hg3
    have HL3 : Aside0 ((xs ++ [(tk : Int)] ++ encN lits.size).length ≤ 2000000) := ⟨by have := encN_len lits.size; have h2 := HX.out; rw [List.length_append, snoc_len]; omega⟩
    clear hg3 ho3 HI1 HK1 HI3
    have HSEQ : Aside0 (xs ++ seqN lits d M = xs ++ [(tk : Int)] ++ encN lits.size ++ bytesOf lits ++ ([((d % 256 : Nat) : Int), ((d / 256 : Nat) : Int)] ++ encN (M - 4))) := ⟨by simp [seqN, HTK.out, h1]⟩
    generalize xs ++ [(tk : Int)] ++ encN lits.size = ys at HO3 HL3 HSEQ ⊢
    go_upto_region 6 with (at_builtin; refine print_append_str (w0 := w) base rfl (.tmp 39) _ 41 9 5 rfl Try.underlying41 Try.underlying9 info5 v3 ys lits rfl rfl HO3.out HK3.out.below (Nat.le_trans hb (Nat.le_of_lt (blk_lt HG3.out))) (by have := HL3.out; omega) ?_; intro v5 w5 ho5 _ hg5; rw [str_len] at ho5; obtain ⟨A5, c5, ev5⟩ := own_slice ho5; subst ev5; have HP := Aside0.mk (writer_put HG3.out hb HO3.out (by rw [str_len]; exact ho5) hg5); have z1 : w5.cell? ⟨g, 0, none⟩ = some v3 := (blk_cell HP.out.2.2 0).trans rfl; have y1 := blk_frozen HP.out.2.2 0; clear ho5 hg5)
    have HI6 := Aside0.mk HP.out.1
    have HK6 := Aside0.mk (HK3.out.trans HP.out.2.1)
    clear HP HG3 HO3 HK3 hcell hlt z1 y1
    generalize w5.setCell ⟨g, 0, none⟩ (.slice A5 (ys.length + lits.size) c5) = w6 at HI6 HK6 ⊢
    obtain ⟨v6, hg6, ho6⟩ := HI6.out
    have HG6 := Aside0.mk hg6
    have HO6 := Aside0.mk ho6
    have hcell : w6.cell? ⟨g, 0, none⟩ = some v6 := (blk_cell hg6 0).trans rfl
    have hlt : g < w6.heap.size := blk_lt hg6
    have HL6 : Aside0 ((ys ++ bytesOf lits).length ≤ 3000000) := ⟨by have := HL3.out; rw [str_len]; omega⟩
    clear hg6 ho6 HI6
    generalize ys ++ bytesOf lits = zs at HO6 HL6 HSEQ ⊢
    have d0 : IntKind.u8.wrap (d : Int) = ((d % 256 : Nat) : Int) := by rw [IntKind.wrap_u8]; omega
    have d1 : IntKind.u8.wrap ((d : Int) / 256) = ((d / 256 : Nat) : Int) := by rw [IntKind.wrap_u8]; omega
    go_upto_region 8 with (at_builtin; refine append_two base rfl (.tmp 50) _ 41 5 rfl Try.underlying41 info5 v6 zs _ _ rfl rfl HO6.out (Nat.le_trans hb (Nat.le_of_lt (blk_lt HG6.out))) (by have := HL6.out; omega) ?_; intro v7 w7 ho7 hg7; rw [two_len] at ho7; obtain ⟨A7, c7, ev7⟩ := own_slice ho7; subst ev7; have HP := Aside0.mk (writer_put HG6.out hb HO6.out (by rw [two_len]; exact ho7) hg7); have z1 : w7.cell? ⟨g, 0, none⟩ = some v6 := (blk_cell HP.out.2.2 0).trans rfl; have y1 := blk_frozen HP.out.2.2 0; clear ho7 hg7)
    have HI8 := Aside0.mk HP.out.1
    have HK8 := Aside0.mk (HK6.out.trans HP.out.2.1)
    clear HP HG6 HO6 HK6 hcell hlt z1 y1
    generalize w7.setCell ⟨g, 0, none⟩ (.slice A7 (zs.length + 2) c7) = w8 at HI8 HK8 ⊢
    have HL8 : Aside0 ((zs ++ [(d : Int) % 256, (d : Int) / 256]).length ≤ 4000000) := ⟨by have := HL6.out; rw [two_len]; omega⟩
    have HS8 : Aside0 (xs ++ seqN lits d M = (zs ++ [(d : Int) % 256, (d : Int) / 256]) ++ encN (M - 4)) := ⟨by rw [HSEQ.out, List.append_assoc, show ((d % 256 : Nat) : Int) = (d : Int) % 256 from by omega, show ((d / 256 : Nat) : Int) = (d : Int) / 256 from by omega]⟩
    clear HSEQ HL6
    have HM4 : Aside0 ((M : Int) - 4 = ((M - 4 : Nat) : Int) ∧ M - 4 ≤ 10000000) := ⟨by omega, by omega⟩
    clear h2 h3 f1
    generalize zs ++ [(d : Int) % 256, (d : Int) / 256] = us at HI8 HL8 HS8 ⊢
    go_wp2_with (go_at_call 28; rw [HM4.out.1]; refine (number_calls base g (M - 4) us _ HI8.out hb HM4.out.2 (by have := HL8.out; omega)).mono ?_; rintro e w9 ⟨rfl, hI, hK⟩; have HI9 := Aside0.mk hI; have HK9 := Aside0.mk (HK8.out.trans hK); clear hI hK)
    go_end0
    exact ⟨rfl, by rw [HS8.out]; exact HI9.out, HK9.out⟩

end Go.Proofs.Ytflkjofafgoapaa.Q
