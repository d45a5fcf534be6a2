/- vault.Decode, walked by hand: a config's bytes read by a reader, four of its numbers through their addresses. -/
import Derived.Test.YtnhfkbmnglbbmaaHFixed
import Derived.Test.YtnhfkbmnglbbmaaQx4
import Derived.Test.YtnhfkbmnglbbmaaQx15
import Derived.Test.YtnhfkbmnglbbmaaQx21
import Derived.Test.YtnhfkbmnglbbmaaQx22
namespace Go.Proofs.Ytnhfkbmnglbbmaa.Q
open Go.RowKit Go.Proofs.YtnhfkbmnglbbmaaW.PrintWords Go.Proofs.YtnhfkbmnglbbmaaW.PrintLast Go.Proofs.YtnhfkbmnglbbmaaW.PrintMore
attribute [local go_sem] max2_int min2_int max_two min_two max_three min_three max_four min_four
abbrev conf (a b c d e f : Int) : Array Value := #[.int .i64 a, .int .i64 b, .int .i64 c, .int .i64 d, .int .i64 e, .int .i64 f]

set_option linter.unusedVariables false
def dec0 (s : ByteArray) (e a0 a1 a2 a3 a4 a5 : Int) : Option (Int × Int × Int × Int × Int × Int × Int) :=
  (num_Reader_End.f s e).bind fun b => if b.1 = 0 then (vault_Check.f a0 a1 a2 a3 a4 a5).bind fun t => if t = 0 then some (a0, a1, a2, a3, a4, a5, 0) else some (0, 0, 0, 0, 0, 0, 3) else some (0, 0, 0, 0, 0, 0, 3)
def dec1 (k : Nat) (s : ByteArray) (e a0 a1 a2 a3 a4 a5 : Int) : Option (Int × Int × Int × Int × Int × Int × Int) :=
  (num_Reader_Short.f k s e 65536).bind fun b => dec0 b.2.1 b.2.2 a0 a1 a2 a3 a4 b.1
def dec2 (k : Nat) (s : ByteArray) (e a0 a1 a2 a3 a4 a5 : Int) : Option (Int × Int × Int × Int × Int × Int × Int) :=
  (num_Reader_Short.f k s e 65536).bind fun b => dec1 k b.2.1 b.2.2 a0 a1 a2 a3 b.1 a5
def dec3 (k : Nat) (s : ByteArray) (e a0 a1 a2 a3 a4 a5 : Int) : Option (Int × Int × Int × Int × Int × Int × Int) :=
  (num_Reader_Short.f k s e 65536).bind fun b => dec2 k b.2.1 b.2.2 a0 a1 a2 b.1 a4 a5
def dec4 (k : Nat) (s : ByteArray) (e a0 a1 a2 a3 a4 a5 : Int) : Option (Int × Int × Int × Int × Int × Int × Int) :=
  (num_Reader_Short.f k s e 65536).bind fun b => dec3 k b.2.1 b.2.2 a0 a1 b.1 a3 a4 a5
def decAt (k : Nat) : Nat → ByteArray → (e a0 a1 a2 a3 a4 a5 : Int) → Option (Int × Int × Int × Int × Int × Int × Int)
  | 0 => dec4 k | 1 => dec3 k | 2 => dec2 k | 3 => dec1 k | _ => dec0

theorem blk_far {w : World} {g i j : Nat} {o : Obj} {u : Value} (h : w.heap[i]? = some o) (hn : i ≠ g) : (w.setCell ⟨g, j, none⟩ u).heap[i]? = some o := (Below.heap_setCell w ⟨g, j, none⟩ u i hn).trans h
set_option maxHeartbeats 1000000 in
set_option maxRecDepth 100000 in
theorem decode_refused (s : ByteArray) (x0 x1 : ByteArray) (x2 : Int) (w : World) (h : num_Reader_Bytes.f s 0 5 = some (x0, x1, x2)) (hne : (!x0.toList == [71, 82, 84, 67, 1]) = true) :
    Calls Try.prog 8 #[.string s] w fun e w' => e = .returned (.tuple #[.agg (conf 0 0 0 0 0 0), .int .i64 3]) ∧ Below w.heap.size w w' := by
  have H := Aside0.mk h
  clear h
  have HB := Aside0.mk (Below.refl w.heap.size w)
  have hrd : num_Read.f s = some (s, 0) := rfl
  have hu25 := Try.underlying25
  go_enter Try.func8, Try.ntmps8
  go_upto_region 1 with (first | ((with_reducible refine gate_dst (N := 2) rfl ?_); refine box_event ?hg (N := 2) ?hd (cs := #[.int .i64 0, .int .i64 0, .int .i64 0, .int .i64 0, .int .i64 0, .int .i64 0]) (t := 25) ?hr ?_; (case hd => rfl); (case hg => rfl); (case hr => first | (go_simp; done) | (go_simp; rfl)); intro gb hg w3 hbox hb; have n0_ := Aside0.mk (below_step HB.out hb); have BK := Aside0.mk hbox; have GE := Aside0.mk (Nat.le_of_eq hg.symm); clear HB; have HB := n0_; clear n0_ hbox hb hg))
  go_upto_region 2 with (go_at_call 14; refine (num_Read.calls s s 0 w _ HB.out hrd).mono ?_; rintro e w1 ⟨g, rfl, hI1, hB1, hB2⟩; have HI1 := Aside0.mk hI1; have HB1 := Aside0.mk hB1; have HC1 := Aside0.mk (blk_below BK.out hB2);  clear hI1 hB1 hB2)
  clear BK HB
  have GG : Aside0 (gb ≠ g) := ⟨fun h => by subst h; exact absurd (HI1.out.1.symm.trans HC1.out) (by simp [Option.some.injEq])⟩
  go_wp2_with (go_at_call 15; refine (num_Reader_Bytes.calls g s 0 5 x0 x1 x2 w _ HI1.out HB1.out H.out).mono ?_; rintro e w2 ⟨rfl, hI2, hB2, hK2⟩; have HI2 := Aside0.mk hI2; have HB2 := Aside0.mk hB2; have BK196 := Aside0.mk (hK2.blk HC1.out GG.out (by simp)); have hcz8_0 : w2.cell? ⟨gb, 0, none⟩ = some (.int .i64 0) := (blk_cell BK196.out 0).trans rfl; have hcz8_1 : w2.cell? ⟨gb, 1, none⟩ = some (.int .i64 0) := (blk_cell BK196.out 1).trans rfl; have hcz8_2 : w2.cell? ⟨gb, 2, none⟩ = some (.int .i64 0) := (blk_cell BK196.out 2).trans rfl; have hcz8_3 : w2.cell? ⟨gb, 3, none⟩ = some (.int .i64 0) := (blk_cell BK196.out 3).trans rfl; have hcz8_4 : w2.cell? ⟨gb, 4, none⟩ = some (.int .i64 0) := (blk_cell BK196.out 4).trans rfl; have hcz8_5 : w2.cell? ⟨gb, 5, none⟩ = some (.int .i64 0) := (blk_cell BK196.out 5).trans rfl; have hfz8_0 := blk_frozen BK196.out 0; have hfz8_1 := blk_frozen BK196.out 1; have hfz8_2 := blk_frozen BK196.out 2; have hfz8_3 := blk_frozen BK196.out 3; have hfz8_4 := blk_frozen BK196.out 4; have hfz8_5 := blk_frozen BK196.out 5; clear hI2 hB2 hK2)
  refine bodyPost_ret (results_ct rfl _ _ gb 25 #[.int .i64 0, .int .i64 0, .int .i64 0, .int .i64 0, .int .i64 0, .int .i64 0] (0, 0) _ rfl (by (with_reducible repeat (first | refine blk_drewN ?_ _ | refine blk_drew ?_ | refine blk_alloc ?_ _)); refine blk_put (cs := #[.int .i64 0, .int .i64 0, .int .i64 0, .int .i64 0, .int .i64 0, .int .i64 0]) ?_ 5 _ rfl; (with_reducible repeat (first | refine blk_drewN ?_ _ | refine blk_drew ?_ | refine blk_alloc ?_ _)); refine blk_put (cs := #[.int .i64 0, .int .i64 0, .int .i64 0, .int .i64 0, .int .i64 0, .int .i64 0]) ?_ 4 _ rfl; (with_reducible repeat (first | refine blk_drewN ?_ _ | refine blk_drew ?_ | refine blk_alloc ?_ _)); refine blk_put (cs := #[.int .i64 0, .int .i64 0, .int .i64 0, .int .i64 0, .int .i64 0, .int .i64 0]) ?_ 3 _ rfl; (with_reducible repeat (first | refine blk_drewN ?_ _ | refine blk_drew ?_ | refine blk_alloc ?_ _)); refine blk_put (cs := #[.int .i64 0, .int .i64 0, .int .i64 0, .int .i64 0, .int .i64 0, .int .i64 0]) ?_ 2 _ rfl; (with_reducible repeat (first | refine blk_drewN ?_ _ | refine blk_drew ?_ | refine blk_alloc ?_ _)); refine blk_put (cs := #[.int .i64 0, .int .i64 0, .int .i64 0, .int .i64 0, .int .i64 0, .int .i64 0]) ?_ 1 _ rfl; (with_reducible repeat (first | refine blk_drewN ?_ _ | refine blk_drew ?_ | refine blk_alloc ?_ _)); refine blk_put (cs := #[.int .i64 0, .int .i64 0, .int .i64 0, .int .i64 0, .int .i64 0, .int .i64 0]) ?_ 0 _ rfl; (with_reducible repeat (first | refine blk_drewN ?_ _ | refine blk_drew ?_ | refine blk_alloc ?_ _)); exact BK196.out) Try.underlying25 rfl (by kernel_rfl)) rfl ?_
  exact ⟨rfl, by repeat (first | (with_reducible first | exact HB2.out | apply below_alloc | apply pw_below_drewN | apply below_drew1 | refine below_set ?_ GE.out) | exact HB2.out)⟩
set_option maxHeartbeats 1000000 in
set_option maxRecDepth 100000 in
theorem decode_read (k : Nat) (s : ByteArray) (x0 x1 : ByteArray) (x2 k1 m1 : Int) (y1 z1 : ByteArray) (y2 z2 r1 r2 r3 r4 r5 r6 r7 : Int) (w : World) (h : num_Reader_Bytes.f s 0 5 = some (x0, x1, x2)) (hne : (!x0.toList == [71, 82, 84, 67, 1]) = false)
    (hf1 : num_Reader_Fixed.f x1 x2 1 = some (k1, y1, y2)) (hf2 : num_Reader_Fixed.f y1 y2 1 = some (m1, z1, z2)) (hr : dec4 k z1 z2 k1 m1 0 0 0 0 = some (r1, r2, r3, r4, r5, r6, r7)) :
    Calls Try.prog 8 #[.string s] w fun e w' => e = .returned (.tuple #[.agg (conf r1 r2 r3 r4 r5 r6), .int .i64 r7]) ∧ Below w.heap.size w w' := by
  have H := Aside0.mk h
  have HF1 := Aside0.mk hf1
  have HF2 := Aside0.mk hf2
  have HR := Aside0.mk hr
  clear h hf1 hf2 hr
  have HB := Aside0.mk (Below.refl w.heap.size w)
  have hrd : num_Read.f s = some (s, 0) := rfl
  have hu25 := Try.underlying25
  go_enter Try.func8, Try.ntmps8
  go_upto_region 1 with (first | ((with_reducible refine gate_dst (N := 2) rfl ?_); refine box_event ?hg (N := 2) ?hd (cs := #[.int .i64 0, .int .i64 0, .int .i64 0, .int .i64 0, .int .i64 0, .int .i64 0]) (t := 25) ?hr ?_; (case hd => rfl); (case hg => rfl); (case hr => first | (go_simp; done) | (go_simp; rfl)); intro gb hg w3 hbox hb; have n0_ := Aside0.mk (below_step HB.out hb); have BK := Aside0.mk hbox; have GE := Aside0.mk (Nat.le_of_eq hg.symm); clear HB; have HB := n0_; clear n0_ hbox hb hg))
  go_upto_region 2 with (go_at_call 14; refine (num_Read.calls s s 0 w _ HB.out hrd).mono ?_; rintro e w1 ⟨g, rfl, hI1, hB1, hB2⟩; have HI1 := Aside0.mk hI1; have HB1 := Aside0.mk hB1; have HC1 := Aside0.mk (blk_below BK.out hB2);  clear hI1 hB1 hB2)
  clear BK HB
  have GG : Aside0 (gb ≠ g) := ⟨fun h => by subst h; exact absurd (HI1.out.1.symm.trans HC1.out) (by simp [Option.some.injEq])⟩
  go_upto_region 4 with (go_at_call 15; refine (num_Reader_Bytes.calls g s 0 5 x0 x1 x2 w _ HI1.out HB1.out H.out).mono ?_; rintro e w2 ⟨rfl, hI2, hB2, hK2⟩; have HI2 := Aside0.mk hI2; have HB2 := Aside0.mk hB2; have HC2 := Aside0.mk (hK2.blk HC1.out GG.out (by simp)); clear hI2 hB2 hK2)
  clear HI1 HB1 HC1
  clear hne
  go_cut [5] (fun v5 wc => ∃ (gc : Nat), v5 = .pointer (some ⟨gc, 0, none⟩) ∧ Aside0 (IsS66 w wc g z1 z2) ∧ Aside0 (Below w.heap.size w wc) ∧ Aside0 (wc.heap[gb]? = some (.cells (conf 0 0 0 0 0 0) 25 (0, 0))) ∧ Aside0 (wc.heap[gc]? = some (.cells (conf k1 m1 0 0 0 0) 25 (0, 0))) ∧ Aside0 (w.heap.size ≤ gc) ∧ Aside0 (gb ≠ gc))
  case first =>
    go_wp2_with (first
      | (go_at_call 16; refine (num_Reader_Fixed.calls g x1 x2 1 k1 y1 y2 w _ HI2.out HB2.out HF1.out).mono ?_; rintro e w3 ⟨rfl, hI3, hB3, hK3⟩; have HI3 := Aside0.mk hI3; have HB3 := Aside0.mk hB3; have HC3 := Aside0.mk (hK3.blk HC2.out GG.out (by simp)); clear hI3 hB3 hK3)
      | (go_at_call 16; refine (num_Reader_Fixed.calls g y1 y2 1 m1 z1 z2 w _ HI3.out HB3.out HF2.out).mono ?_; rintro e w4 ⟨rfl, hI4, hB4, hK4⟩; have HI4 := Aside0.mk hI4; have HB4 := Aside0.mk hB4; have HC4 := Aside0.mk (hK4.blk HC3.out GG.out (by simp)); clear hI4 hB4 hK4)
      | ((with_reducible refine gate_dst (N := 5) rfl ?_); refine box_event ?hg (N := 5) ?hd (cs := #[.int .i64 0, .int .i64 0, .int .i64 0, .int .i64 0, .int .i64 0, .int .i64 0]) (t := 25) ?hr ?_; (case hd => rfl); (case hg => rfl); (case hr => first | (go_simp; done) | (go_simp; rfl)); intro gc hg w5 hbox hb; have BC := Aside0.mk hbox; have hgc := HB4.out.size; have hnb := blk_lt HC4.out; have NB : Aside0 (gb ≠ gc) := ⟨by omega⟩;  have GC := Aside0.mk (Nat.le_trans hgc (Nat.le_of_eq hg.symm)); have hIn := HI4.out.below hb; have HI5 := Aside0.mk hIn; have hBn := below_step HB4.out hb; have HB5 := Aside0.mk hBn; have HC5 := Aside0.mk (blk_below HC4.out hb); have hc5_0 : w5.cell? ⟨gc, 0, none⟩ = some (.int .i64 0) := (blk_cell BC.out 0).trans rfl; have hf5_0 := blk_frozen BC.out 0; have hc5_1 : w5.cell? ⟨gc, 1, none⟩ = some (.int .i64 0) := (blk_cell BC.out 1).trans rfl; have hf5_1 := blk_frozen BC.out 1; have hc5_2 : w5.cell? ⟨gc, 2, none⟩ = some (.int .i64 0) := (blk_cell BC.out 2).trans rfl; have hf5_2 := blk_frozen BC.out 2; have hc5_3 : w5.cell? ⟨gc, 3, none⟩ = some (.int .i64 0) := (blk_cell BC.out 3).trans rfl; have hf5_3 := blk_frozen BC.out 3; have hc5_4 : w5.cell? ⟨gc, 4, none⟩ = some (.int .i64 0) := (blk_cell BC.out 4).trans rfl; have hf5_4 := blk_frozen BC.out 4; have hc5_5 : w5.cell? ⟨gc, 5, none⟩ = some (.int .i64 0) := (blk_cell BC.out 5).trans rfl; have hf5_5 := blk_frozen BC.out 5; clear hbox hb hg hIn hBn hgc hnb))
    go_meet
    case rel =>
      have hgg : g ≠ gc := HI5.out.ne_blk BC.out (by decide)
      exact ⟨gc, rfl, ⟨by refine IsS66.far ?_ hgg _; refine IsS66.far ?_ hgg _; refine IsS66.far ?_ hgg _; refine IsS66.far ?_ hgg _; refine IsS66.far ?_ hgg _; refine IsS66.far ?_ hgg _; exact HI5.out⟩, ⟨by refine below_set ?_ GC.out; refine below_set ?_ GC.out; refine below_set ?_ GC.out; refine below_set ?_ GC.out; refine below_set ?_ GC.out; refine below_set ?_ GC.out; exact HB5.out⟩, ⟨by refine blk_far ?_ NB.out; refine blk_far ?_ NB.out; refine blk_far ?_ NB.out; refine blk_far ?_ NB.out; refine blk_far ?_ NB.out; refine blk_far ?_ NB.out; exact HC5.out⟩, ⟨by refine blk_put (cs := #[.int .i64 k1, .int .i64 m1, .int .i64 0, .int .i64 0, .int .i64 0, .int .i64 0]) ?_ 5 _ rfl; refine blk_put (cs := #[.int .i64 k1, .int .i64 m1, .int .i64 0, .int .i64 0, .int .i64 0, .int .i64 0]) ?_ 4 _ rfl; refine blk_put (cs := #[.int .i64 k1, .int .i64 m1, .int .i64 0, .int .i64 0, .int .i64 0, .int .i64 0]) ?_ 3 _ rfl; refine blk_put (cs := #[.int .i64 k1, .int .i64 m1, .int .i64 0, .int .i64 0, .int .i64 0, .int .i64 0]) ?_ 2 _ rfl; refine blk_put (cs := #[.int .i64 k1, .int .i64 0, .int .i64 0, .int .i64 0, .int .i64 0, .int .i64 0]) ?_ 1 _ rfl; refine blk_put (cs := #[.int .i64 0, .int .i64 0, .int .i64 0, .int .i64 0, .int .i64 0, .int .i64 0]) ?_ 0 _ rfl; exact BC.out⟩, GC, NB⟩
  case rest =>
    obtain ⟨gc, rfl, HI, HB, HZ, HC, GC, NB⟩ := hcut
    clear HI2 HB2 HC2
    go_wp2
    obtain ⟨w6, hw6⟩ : ∃ w6, w6 = wc.alloc (.cells #[.pointer (some ⟨gc, 2, none⟩), .pointer (some ⟨gc, 3, none⟩), .pointer (some ⟨gc, 4, none⟩), .pointer (some ⟨gc, 5, none⟩)] 50 (0, 0)) := ⟨_, rfl⟩
    obtain ⟨gs, hgs⟩ : ∃ gs, gs = wc.heap.size := ⟨_, rfl⟩
    have LI := HI.out.lt
    have LB := blk_lt HZ.out
    have LC := blk_lt HC.out
    have hbb := below_alloc (Below.refl wc.heap.size wc) (.cells #[.pointer (some ⟨gc, 2, none⟩), .pointer (some ⟨gc, 3, none⟩), .pointer (some ⟨gc, 4, none⟩), .pointer (some ⟨gc, 5, none⟩)] 50 (0, 0))
    have HI6 : Aside0 (IsS66 w w6 g z1 z2) := ⟨by rw [hw6]; exact HI.out.alloc _⟩
    have HB6 : Aside0 (Below w.heap.size w w6) := ⟨by rw [hw6]; exact below_alloc HB.out _⟩
    have HZ6 : Aside0 (w6.heap[gb]? = some (.cells (conf 0 0 0 0 0 0) 25 (0, 0))) := ⟨by rw [hw6]; exact blk_below HZ.out hbb⟩
    have HC6 : Aside0 (w6.heap[gc]? = some (.cells (conf k1 m1 0 0 0 0) 25 (0, 0))) := ⟨by rw [hw6]; exact blk_below HC.out hbb⟩
    have HS6 : Aside0 (w6.heap[gs]? = some (.cells #[.pointer (some ⟨gc, 2, none⟩), .pointer (some ⟨gc, 3, none⟩), .pointer (some ⟨gc, 4, none⟩), .pointer (some ⟨gc, 5, none⟩)] 50 (0, 0))) := ⟨by rw [hw6, hgs]; exact blk_new _ _⟩
    have NSG : Aside0 (gs ≠ g) := ⟨by omega⟩
    have NSC : Aside0 (gs ≠ gc) := ⟨by omega⟩
    have NCG : Aside0 (gc ≠ g) := ⟨fun he => by subst he; exact absurd (HI.out.1.symm.trans HC.out) (by simp [Option.some.injEq])⟩
    have HD : Aside0 (decAt k 0 z1 z2 k1 m1 0 0 0 0 = some (r1, r2, r3, r4, r5, r6, r7)) := ⟨HR.out⟩
    rw [← hw6, ← hgs]
    clear hw6 hgs LI LB LC hbb HI HB HZ HC HR H HF1 HF2
    go_loopw [7, 28] (fun v7 v28 w' => ∃ (i : Nat) (s' : ByteArray) (e' a2 a3 a4 a5 : Int), v28 = .int .i64 (i : Int) ∧ Aside0 (i ≤ 4) ∧ Aside0 (IsS66 w w' g s' e') ∧ Aside0 (Below w.heap.size w w') ∧ Aside0 (w'.heap[gb]? = some (.cells (conf 0 0 0 0 0 0) 25 (0, 0))) ∧ Aside0 (w'.heap[gc]? = some (.cells (conf k1 m1 a2 a3 a4 a5) 25 (0, 0))) ∧ Aside0 (w'.heap[gs]? = some (.cells #[.pointer (some ⟨gc, 2, none⟩), .pointer (some ⟨gc, 3, none⟩), .pointer (some ⟨gc, 4, none⟩), .pointer (some ⟨gc, 5, none⟩)] 50 (0, 0))) ∧ Aside0 (decAt k i s' e' k1 m1 a2 a3 a4 a5 = some (r1, r2, r3, r4, r5, r6, r7))) (fun _ v28 _ => 5 - (intOf v28).toNat)
    case atStart => exact ⟨0, z1, z2, 0, 0, 0, 0, rfl, ⟨by omega⟩, HI6, HB6, HZ6, HC6, HS6, HD⟩
    case round =>
      obtain ⟨i, s', e', a2, a3, a4, a5, rfl, HL, HI, HB, HZ, HC, HS, HD⟩ := hrel
      clear HI6 HB6 HZ6 HC6 HS6
      have hl := HL.out
      by_cases h4 : i < 4
      · have h03 : i = 0 ∨ i = 1 ∨ i = 2 ∨ i = 3 := by omega
        rcases h03 with rfl | rfl | rfl | rfl
        · have H := HD.out
          replace H : dec4 k s' e' k1 m1 a2 a3 a4 a5 = some (r1, r2, r3, r4, r5, r6, r7) := H
          unfold dec4 at H
          obtain ⟨⟨b1, b2, b3⟩, hSh, H⟩ := Option.bind_eq_some_iff.mp H
          have HSh := Aside0.mk hSh
          have HN := Aside0.mk H
          clear HD hSh H
          have hps : World.cell? _ ⟨gs, 0, none⟩ = some (.pointer (some ⟨gc, 2, none⟩)) := (blk_cell HS.out 0).trans rfl
          go_wp2_with (go_at_call 17; refine (num_Reader_Short.calls k g s' e' 65536 b1 b2 b3 w _ HI.out HB.out HSh.out).mono ?_; rintro e w8 ⟨rfl, hI8, hB8, hK8⟩; have HI8 := Aside0.mk hI8; have HB8 := Aside0.mk hB8; have HZ8 := Aside0.mk (hK8.blk HZ.out GG.out (by simp)); have HC8 := Aside0.mk (hK8.blk HC.out NCG.out (by simp)); have HS8 := Aside0.mk (hK8.blk HS.out NSG.out (by simp)); clear hI8 hB8 hK8; have hc8 : w8.cell? ⟨gc, 2, none⟩ = some (.int .i64 a2) := (blk_cell HC8.out 2).trans rfl; have hf8 := blk_frozen HC8.out 2)
          go_roundw
          case rel => exact ⟨1, b2, b3, b1, a3, a4, a5, rfl, ⟨by omega⟩, ⟨HI8.out.far (Ne.symm NCG.out) _⟩, ⟨below_set HB8.out GC.out⟩, ⟨blk_far HZ8.out NB.out⟩, ⟨by refine blk_put (cs := #[.int .i64 k1, .int .i64 m1, .int .i64 a2, .int .i64 a3, .int .i64 a4, .int .i64 a5]) ?_ 2 _ rfl; exact HC8.out⟩, ⟨blk_far HS8.out NSC.out⟩, ⟨HN.out⟩⟩
          case measure => simp [intOf]
        · have H := HD.out
          replace H : dec3 k s' e' k1 m1 a2 a3 a4 a5 = some (r1, r2, r3, r4, r5, r6, r7) := H
          unfold dec3 at H
          obtain ⟨⟨b1, b2, b3⟩, hSh, H⟩ := Option.bind_eq_some_iff.mp H
          have HSh := Aside0.mk hSh
          have HN := Aside0.mk H
          clear HD hSh H
          have hps : World.cell? _ ⟨gs, 1, none⟩ = some (.pointer (some ⟨gc, 3, none⟩)) := (blk_cell HS.out 1).trans rfl
          go_wp2_with (go_at_call 17; refine (num_Reader_Short.calls k g s' e' 65536 b1 b2 b3 w _ HI.out HB.out HSh.out).mono ?_; rintro e w8 ⟨rfl, hI8, hB8, hK8⟩; have HI8 := Aside0.mk hI8; have HB8 := Aside0.mk hB8; have HZ8 := Aside0.mk (hK8.blk HZ.out GG.out (by simp)); have HC8 := Aside0.mk (hK8.blk HC.out NCG.out (by simp)); have HS8 := Aside0.mk (hK8.blk HS.out NSG.out (by simp)); clear hI8 hB8 hK8; have hc8 : w8.cell? ⟨gc, 3, none⟩ = some (.int .i64 a3) := (blk_cell HC8.out 3).trans rfl; have hf8 := blk_frozen HC8.out 3)
          go_roundw
          case rel => exact ⟨2, b2, b3, a2, b1, a4, a5, rfl, ⟨by omega⟩, ⟨HI8.out.far (Ne.symm NCG.out) _⟩, ⟨below_set HB8.out GC.out⟩, ⟨blk_far HZ8.out NB.out⟩, ⟨by refine blk_put (cs := #[.int .i64 k1, .int .i64 m1, .int .i64 a2, .int .i64 a3, .int .i64 a4, .int .i64 a5]) ?_ 3 _ rfl; exact HC8.out⟩, ⟨blk_far HS8.out NSC.out⟩, ⟨HN.out⟩⟩
          case measure => simp [intOf]
        · have H := HD.out
          replace H : dec2 k s' e' k1 m1 a2 a3 a4 a5 = some (r1, r2, r3, r4, r5, r6, r7) := H
          unfold dec2 at H
          obtain ⟨⟨b1, b2, b3⟩, hSh, H⟩ := Option.bind_eq_some_iff.mp H
          have HSh := Aside0.mk hSh
          have HN := Aside0.mk H
          clear HD hSh H
          have hps : World.cell? _ ⟨gs, 2, none⟩ = some (.pointer (some ⟨gc, 4, none⟩)) := (blk_cell HS.out 2).trans rfl
          go_wp2_with (go_at_call 17; refine (num_Reader_Short.calls k g s' e' 65536 b1 b2 b3 w _ HI.out HB.out HSh.out).mono ?_; rintro e w8 ⟨rfl, hI8, hB8, hK8⟩; have HI8 := Aside0.mk hI8; have HB8 := Aside0.mk hB8; have HZ8 := Aside0.mk (hK8.blk HZ.out GG.out (by simp)); have HC8 := Aside0.mk (hK8.blk HC.out NCG.out (by simp)); have HS8 := Aside0.mk (hK8.blk HS.out NSG.out (by simp)); clear hI8 hB8 hK8; have hc8 : w8.cell? ⟨gc, 4, none⟩ = some (.int .i64 a4) := (blk_cell HC8.out 4).trans rfl; have hf8 := blk_frozen HC8.out 4)
          go_roundw
          case rel => exact ⟨3, b2, b3, a2, a3, b1, a5, rfl, ⟨by omega⟩, ⟨HI8.out.far (Ne.symm NCG.out) _⟩, ⟨below_set HB8.out GC.out⟩, ⟨blk_far HZ8.out NB.out⟩, ⟨by refine blk_put (cs := #[.int .i64 k1, .int .i64 m1, .int .i64 a2, .int .i64 a3, .int .i64 a4, .int .i64 a5]) ?_ 4 _ rfl; exact HC8.out⟩, ⟨blk_far HS8.out NSC.out⟩, ⟨HN.out⟩⟩
          case measure => simp [intOf]
        · have H := HD.out
          replace H : dec1 k s' e' k1 m1 a2 a3 a4 a5 = some (r1, r2, r3, r4, r5, r6, r7) := H
          unfold dec1 at H
          obtain ⟨⟨b1, b2, b3⟩, hSh, H⟩ := Option.bind_eq_some_iff.mp H
          have HSh := Aside0.mk hSh
          have HN := Aside0.mk H
          clear HD hSh H
          have hps : World.cell? _ ⟨gs, 3, none⟩ = some (.pointer (some ⟨gc, 5, none⟩)) := (blk_cell HS.out 3).trans rfl
          go_wp2_with (go_at_call 17; refine (num_Reader_Short.calls k g s' e' 65536 b1 b2 b3 w _ HI.out HB.out HSh.out).mono ?_; rintro e w8 ⟨rfl, hI8, hB8, hK8⟩; have HI8 := Aside0.mk hI8; have HB8 := Aside0.mk hB8; have HZ8 := Aside0.mk (hK8.blk HZ.out GG.out (by simp)); have HC8 := Aside0.mk (hK8.blk HC.out NCG.out (by simp)); have HS8 := Aside0.mk (hK8.blk HS.out NSG.out (by simp)); clear hI8 hB8 hK8; have hc8 : w8.cell? ⟨gc, 5, none⟩ = some (.int .i64 a5) := (blk_cell HC8.out 5).trans rfl; have hf8 := blk_frozen HC8.out 5)
          go_roundw
          case rel => exact ⟨4, b2, b3, a2, a3, a4, b1, rfl, ⟨by omega⟩, ⟨HI8.out.far (Ne.symm NCG.out) _⟩, ⟨below_set HB8.out GC.out⟩, ⟨blk_far HZ8.out NB.out⟩, ⟨by refine blk_put (cs := #[.int .i64 k1, .int .i64 m1, .int .i64 a2, .int .i64 a3, .int .i64 a4, .int .i64 a5]) ?_ 5 _ rfl; exact HC8.out⟩, ⟨blk_far HS8.out NSC.out⟩, ⟨HN.out⟩⟩
          case measure => simp [intOf]
      · have hi4 : i = 4 := by omega
        subst hi4
        have H := HD.out
        replace H : dec0 s' e' k1 m1 a2 a3 a4 a5 = some (r1, r2, r3, r4, r5, r6, r7) := H
        unfold dec0 at H
        obtain ⟨⟨t1, t2, t3⟩, hE, H⟩ := Option.bind_eq_some_iff.mp H
        have HE := Aside0.mk hE
        clear HD hE
        by_cases c1 : t1 = 0
        · have c1b0 : (t1 == 0) = true := beq_iff_eq.mpr c1
          have c1b1 : (t1 != 0) = false := bne_eq_false_iff_eq.mpr c1
          simp only [if_pos c1] at H
          clear c1
          obtain ⟨t4, hK, H⟩ := Option.bind_eq_some_iff.mp H
          have HCK := Aside0.mk hK
          clear hK
          by_cases c2 : t4 = 0
          · have c2b0 : (t4 == 0) = true := beq_iff_eq.mpr c2
            have c2b1 : (t4 != 0) = false := bne_eq_false_iff_eq.mpr c2
            simp only [if_pos c2, Option.some.injEq, Prod.mk.injEq] at H
            obtain ⟨rfl, rfl, rfl, rfl, rfl, rfl, rfl⟩ := H
            clear c2
            go_wp2_with (first
              | (go_at_call 18; refine (num_Reader_End.calls g s' e' t1 t2 t3 w _ HI.out HB.out HE.out).mono ?_; rintro e w8 ⟨rfl, hI8, hB8, hK8⟩; have HB8 := Aside0.mk hB8; have HZ8 := Aside0.mk (hK8.blk HZ.out GG.out (by simp)); have HC8 := Aside0.mk (hK8.blk HC.out NCG.out (by simp)); clear hI8 hB8 hK8; have hcz8_0 : w8.cell? ⟨gb, 0, none⟩ = some (.int .i64 0) := (blk_cell HZ8.out 0).trans rfl; have hfz8_0 := blk_frozen HZ8.out 0; have hcz8_1 : w8.cell? ⟨gb, 1, none⟩ = some (.int .i64 0) := (blk_cell HZ8.out 1).trans rfl; have hfz8_1 := blk_frozen HZ8.out 1; have hcz8_2 : w8.cell? ⟨gb, 2, none⟩ = some (.int .i64 0) := (blk_cell HZ8.out 2).trans rfl; have hfz8_2 := blk_frozen HZ8.out 2; have hcz8_3 : w8.cell? ⟨gb, 3, none⟩ = some (.int .i64 0) := (blk_cell HZ8.out 3).trans rfl; have hfz8_3 := blk_frozen HZ8.out 3; have hcz8_4 : w8.cell? ⟨gb, 4, none⟩ = some (.int .i64 0) := (blk_cell HZ8.out 4).trans rfl; have hfz8_4 := blk_frozen HZ8.out 4; have hcz8_5 : w8.cell? ⟨gb, 5, none⟩ = some (.int .i64 0) := (blk_cell HZ8.out 5).trans rfl; have hfz8_5 := blk_frozen HZ8.out 5; have hcc8_0 : w8.cell? ⟨gc, 0, none⟩ = some (.int .i64 k1) := (blk_cell HC8.out 0).trans rfl; have hfc8_0 := blk_frozen HC8.out 0; have hcc8_1 : w8.cell? ⟨gc, 1, none⟩ = some (.int .i64 m1) := (blk_cell HC8.out 1).trans rfl; have hfc8_1 := blk_frozen HC8.out 1; have hcc8_2 : w8.cell? ⟨gc, 2, none⟩ = some (.int .i64 a2) := (blk_cell HC8.out 2).trans rfl; have hfc8_2 := blk_frozen HC8.out 2; have hcc8_3 : w8.cell? ⟨gc, 3, none⟩ = some (.int .i64 a3) := (blk_cell HC8.out 3).trans rfl; have hfc8_3 := blk_frozen HC8.out 3; have hcc8_4 : w8.cell? ⟨gc, 4, none⟩ = some (.int .i64 a4) := (blk_cell HC8.out 4).trans rfl; have hfc8_4 := blk_frozen HC8.out 4; have hcc8_5 : w8.cell? ⟨gc, 5, none⟩ = some (.int .i64 a5) := (blk_cell HC8.out 5).trans rfl; have hfc8_5 := blk_frozen HC8.out 5)
              | (go_at_call 10; refine (vault_Check.calls k1 m1 a2 a3 a4 a5 t4 w8 HCK.out).mono ?_; rintro e w9 ⟨rfl, hb9⟩; have HB9 := Aside0.mk (below_step HB8.out hb9); have HZ9 := Aside0.mk (blk_below HZ8.out hb9); have HC9 := Aside0.mk (blk_below HC8.out hb9); clear hb9; have hcz9_0 : w9.cell? ⟨gb, 0, none⟩ = some (.int .i64 0) := (blk_cell HZ9.out 0).trans rfl; have hfz9_0 := blk_frozen HZ9.out 0; have hcz9_1 : w9.cell? ⟨gb, 1, none⟩ = some (.int .i64 0) := (blk_cell HZ9.out 1).trans rfl; have hfz9_1 := blk_frozen HZ9.out 1; have hcz9_2 : w9.cell? ⟨gb, 2, none⟩ = some (.int .i64 0) := (blk_cell HZ9.out 2).trans rfl; have hfz9_2 := blk_frozen HZ9.out 2; have hcz9_3 : w9.cell? ⟨gb, 3, none⟩ = some (.int .i64 0) := (blk_cell HZ9.out 3).trans rfl; have hfz9_3 := blk_frozen HZ9.out 3; have hcz9_4 : w9.cell? ⟨gb, 4, none⟩ = some (.int .i64 0) := (blk_cell HZ9.out 4).trans rfl; have hfz9_4 := blk_frozen HZ9.out 4; have hcz9_5 : w9.cell? ⟨gb, 5, none⟩ = some (.int .i64 0) := (blk_cell HZ9.out 5).trans rfl; have hfz9_5 := blk_frozen HZ9.out 5; have hcc9_0 : w9.cell? ⟨gc, 0, none⟩ = some (.int .i64 k1) := (blk_cell HC9.out 0).trans rfl; have hfc9_0 := blk_frozen HC9.out 0; have hcc9_1 : w9.cell? ⟨gc, 1, none⟩ = some (.int .i64 m1) := (blk_cell HC9.out 1).trans rfl; have hfc9_1 := blk_frozen HC9.out 1; have hcc9_2 : w9.cell? ⟨gc, 2, none⟩ = some (.int .i64 a2) := (blk_cell HC9.out 2).trans rfl; have hfc9_2 := blk_frozen HC9.out 2; have hcc9_3 : w9.cell? ⟨gc, 3, none⟩ = some (.int .i64 a3) := (blk_cell HC9.out 3).trans rfl; have hfc9_3 := blk_frozen HC9.out 3; have hcc9_4 : w9.cell? ⟨gc, 4, none⟩ = some (.int .i64 a4) := (blk_cell HC9.out 4).trans rfl; have hfc9_4 := blk_frozen HC9.out 4; have hcc9_5 : w9.cell? ⟨gc, 5, none⟩ = some (.int .i64 a5) := (blk_cell HC9.out 5).trans rfl; have hfc9_5 := blk_frozen HC9.out 5))
            refine bodyPost_ret (results_ct rfl _ _ gb 25 #[.int .i64 k1, .int .i64 m1, .int .i64 a2, .int .i64 a3, .int .i64 a4, .int .i64 a5] (0, 0) _ rfl (by (with_reducible repeat (first | refine blk_drewN ?_ _ | refine blk_drew ?_ | refine blk_alloc ?_ _)); refine blk_put (cs := #[.int .i64 k1, .int .i64 m1, .int .i64 a2, .int .i64 a3, .int .i64 a4, .int .i64 0]) ?_ 5 _ rfl; (with_reducible repeat (first | refine blk_drewN ?_ _ | refine blk_drew ?_ | refine blk_alloc ?_ _)); refine blk_put (cs := #[.int .i64 k1, .int .i64 m1, .int .i64 a2, .int .i64 a3, .int .i64 0, .int .i64 0]) ?_ 4 _ rfl; (with_reducible repeat (first | refine blk_drewN ?_ _ | refine blk_drew ?_ | refine blk_alloc ?_ _)); refine blk_put (cs := #[.int .i64 k1, .int .i64 m1, .int .i64 a2, .int .i64 0, .int .i64 0, .int .i64 0]) ?_ 3 _ rfl; (with_reducible repeat (first | refine blk_drewN ?_ _ | refine blk_drew ?_ | refine blk_alloc ?_ _)); refine blk_put (cs := #[.int .i64 k1, .int .i64 m1, .int .i64 0, .int .i64 0, .int .i64 0, .int .i64 0]) ?_ 2 _ rfl; (with_reducible repeat (first | refine blk_drewN ?_ _ | refine blk_drew ?_ | refine blk_alloc ?_ _)); refine blk_put (cs := #[.int .i64 k1, .int .i64 0, .int .i64 0, .int .i64 0, .int .i64 0, .int .i64 0]) ?_ 1 _ rfl; (with_reducible repeat (first | refine blk_drewN ?_ _ | refine blk_drew ?_ | refine blk_alloc ?_ _)); refine blk_put (cs := #[.int .i64 0, .int .i64 0, .int .i64 0, .int .i64 0, .int .i64 0, .int .i64 0]) ?_ 0 _ rfl; (with_reducible repeat (first | refine blk_drewN ?_ _ | refine blk_drew ?_ | refine blk_alloc ?_ _)); exact HZ9.out) Try.underlying25 rfl (by kernel_rfl)) rfl ?_
            exact ⟨rfl, by refine below_set ?_ GE.out; refine below_set ?_ GE.out; refine below_set ?_ GE.out; refine below_set ?_ GE.out; refine below_set ?_ GE.out; refine below_set ?_ GE.out; exact HB9.out⟩
          · have c2b0 : (t4 == 0) = false := beq_eq_false_iff_ne.mpr c2
            have c2b1 : (t4 != 0) = true := bne_iff_ne.mpr c2
            simp only [if_neg c2, Option.some.injEq, Prod.mk.injEq] at H
            obtain ⟨rfl, rfl, rfl, rfl, rfl, rfl, rfl⟩ := H
            clear c2
            go_wp2_with (first
              | (go_at_call 18; refine (num_Reader_End.calls g s' e' t1 t2 t3 w _ HI.out HB.out HE.out).mono ?_; rintro e w8 ⟨rfl, hI8, hB8, hK8⟩; have HB8 := Aside0.mk hB8; have HZ8 := Aside0.mk (hK8.blk HZ.out GG.out (by simp)); have HC8 := Aside0.mk (hK8.blk HC.out NCG.out (by simp)); clear hI8 hB8 hK8; have hcz8_0 : w8.cell? ⟨gb, 0, none⟩ = some (.int .i64 0) := (blk_cell HZ8.out 0).trans rfl; have hfz8_0 := blk_frozen HZ8.out 0; have hcz8_1 : w8.cell? ⟨gb, 1, none⟩ = some (.int .i64 0) := (blk_cell HZ8.out 1).trans rfl; have hfz8_1 := blk_frozen HZ8.out 1; have hcz8_2 : w8.cell? ⟨gb, 2, none⟩ = some (.int .i64 0) := (blk_cell HZ8.out 2).trans rfl; have hfz8_2 := blk_frozen HZ8.out 2; have hcz8_3 : w8.cell? ⟨gb, 3, none⟩ = some (.int .i64 0) := (blk_cell HZ8.out 3).trans rfl; have hfz8_3 := blk_frozen HZ8.out 3; have hcz8_4 : w8.cell? ⟨gb, 4, none⟩ = some (.int .i64 0) := (blk_cell HZ8.out 4).trans rfl; have hfz8_4 := blk_frozen HZ8.out 4; have hcz8_5 : w8.cell? ⟨gb, 5, none⟩ = some (.int .i64 0) := (blk_cell HZ8.out 5).trans rfl; have hfz8_5 := blk_frozen HZ8.out 5; have hcc8_0 : w8.cell? ⟨gc, 0, none⟩ = some (.int .i64 k1) := (blk_cell HC8.out 0).trans rfl; have hfc8_0 := blk_frozen HC8.out 0; have hcc8_1 : w8.cell? ⟨gc, 1, none⟩ = some (.int .i64 m1) := (blk_cell HC8.out 1).trans rfl; have hfc8_1 := blk_frozen HC8.out 1; have hcc8_2 : w8.cell? ⟨gc, 2, none⟩ = some (.int .i64 a2) := (blk_cell HC8.out 2).trans rfl; have hfc8_2 := blk_frozen HC8.out 2; have hcc8_3 : w8.cell? ⟨gc, 3, none⟩ = some (.int .i64 a3) := (blk_cell HC8.out 3).trans rfl; have hfc8_3 := blk_frozen HC8.out 3; have hcc8_4 : w8.cell? ⟨gc, 4, none⟩ = some (.int .i64 a4) := (blk_cell HC8.out 4).trans rfl; have hfc8_4 := blk_frozen HC8.out 4; have hcc8_5 : w8.cell? ⟨gc, 5, none⟩ = some (.int .i64 a5) := (blk_cell HC8.out 5).trans rfl; have hfc8_5 := blk_frozen HC8.out 5)
              | (go_at_call 10; refine (vault_Check.calls k1 m1 a2 a3 a4 a5 t4 w8 HCK.out).mono ?_; rintro e w9 ⟨rfl, hb9⟩; have HB9 := Aside0.mk (below_step HB8.out hb9); have HZ9 := Aside0.mk (blk_below HZ8.out hb9); have HC9 := Aside0.mk (blk_below HC8.out hb9); clear hb9; have hcz9_0 : w9.cell? ⟨gb, 0, none⟩ = some (.int .i64 0) := (blk_cell HZ9.out 0).trans rfl; have hfz9_0 := blk_frozen HZ9.out 0; have hcz9_1 : w9.cell? ⟨gb, 1, none⟩ = some (.int .i64 0) := (blk_cell HZ9.out 1).trans rfl; have hfz9_1 := blk_frozen HZ9.out 1; have hcz9_2 : w9.cell? ⟨gb, 2, none⟩ = some (.int .i64 0) := (blk_cell HZ9.out 2).trans rfl; have hfz9_2 := blk_frozen HZ9.out 2; have hcz9_3 : w9.cell? ⟨gb, 3, none⟩ = some (.int .i64 0) := (blk_cell HZ9.out 3).trans rfl; have hfz9_3 := blk_frozen HZ9.out 3; have hcz9_4 : w9.cell? ⟨gb, 4, none⟩ = some (.int .i64 0) := (blk_cell HZ9.out 4).trans rfl; have hfz9_4 := blk_frozen HZ9.out 4; have hcz9_5 : w9.cell? ⟨gb, 5, none⟩ = some (.int .i64 0) := (blk_cell HZ9.out 5).trans rfl; have hfz9_5 := blk_frozen HZ9.out 5; have hcc9_0 : w9.cell? ⟨gc, 0, none⟩ = some (.int .i64 k1) := (blk_cell HC9.out 0).trans rfl; have hfc9_0 := blk_frozen HC9.out 0; have hcc9_1 : w9.cell? ⟨gc, 1, none⟩ = some (.int .i64 m1) := (blk_cell HC9.out 1).trans rfl; have hfc9_1 := blk_frozen HC9.out 1; have hcc9_2 : w9.cell? ⟨gc, 2, none⟩ = some (.int .i64 a2) := (blk_cell HC9.out 2).trans rfl; have hfc9_2 := blk_frozen HC9.out 2; have hcc9_3 : w9.cell? ⟨gc, 3, none⟩ = some (.int .i64 a3) := (blk_cell HC9.out 3).trans rfl; have hfc9_3 := blk_frozen HC9.out 3; have hcc9_4 : w9.cell? ⟨gc, 4, none⟩ = some (.int .i64 a4) := (blk_cell HC9.out 4).trans rfl; have hfc9_4 := blk_frozen HC9.out 4; have hcc9_5 : w9.cell? ⟨gc, 5, none⟩ = some (.int .i64 a5) := (blk_cell HC9.out 5).trans rfl; have hfc9_5 := blk_frozen HC9.out 5))
            refine bodyPost_ret (results_ct rfl _ _ gb 25 #[.int .i64 0, .int .i64 0, .int .i64 0, .int .i64 0, .int .i64 0, .int .i64 0] (0, 0) _ rfl (by (with_reducible repeat (first | refine blk_drewN ?_ _ | refine blk_drew ?_ | refine blk_alloc ?_ _)); refine blk_put (cs := #[.int .i64 0, .int .i64 0, .int .i64 0, .int .i64 0, .int .i64 0, .int .i64 0]) ?_ 5 _ rfl; (with_reducible repeat (first | refine blk_drewN ?_ _ | refine blk_drew ?_ | refine blk_alloc ?_ _)); refine blk_put (cs := #[.int .i64 0, .int .i64 0, .int .i64 0, .int .i64 0, .int .i64 0, .int .i64 0]) ?_ 4 _ rfl; (with_reducible repeat (first | refine blk_drewN ?_ _ | refine blk_drew ?_ | refine blk_alloc ?_ _)); refine blk_put (cs := #[.int .i64 0, .int .i64 0, .int .i64 0, .int .i64 0, .int .i64 0, .int .i64 0]) ?_ 3 _ rfl; (with_reducible repeat (first | refine blk_drewN ?_ _ | refine blk_drew ?_ | refine blk_alloc ?_ _)); refine blk_put (cs := #[.int .i64 0, .int .i64 0, .int .i64 0, .int .i64 0, .int .i64 0, .int .i64 0]) ?_ 2 _ rfl; (with_reducible repeat (first | refine blk_drewN ?_ _ | refine blk_drew ?_ | refine blk_alloc ?_ _)); refine blk_put (cs := #[.int .i64 0, .int .i64 0, .int .i64 0, .int .i64 0, .int .i64 0, .int .i64 0]) ?_ 1 _ rfl; (with_reducible repeat (first | refine blk_drewN ?_ _ | refine blk_drew ?_ | refine blk_alloc ?_ _)); refine blk_put (cs := #[.int .i64 0, .int .i64 0, .int .i64 0, .int .i64 0, .int .i64 0, .int .i64 0]) ?_ 0 _ rfl; (with_reducible repeat (first | refine blk_drewN ?_ _ | refine blk_drew ?_ | refine blk_alloc ?_ _)); exact HZ9.out) Try.underlying25 rfl (by kernel_rfl)) rfl ?_
            exact ⟨rfl, by refine below_set ?_ GE.out; refine below_set ?_ GE.out; refine below_set ?_ GE.out; refine below_set ?_ GE.out; refine below_set ?_ GE.out; refine below_set ?_ GE.out; exact HB9.out⟩
        · have c1b0 : (t1 == 0) = false := beq_eq_false_iff_ne.mpr c1
          have c1b1 : (t1 != 0) = true := bne_iff_ne.mpr c1
          simp only [if_neg c1, Option.some.injEq, Prod.mk.injEq] at H
          obtain ⟨rfl, rfl, rfl, rfl, rfl, rfl, rfl⟩ := H
          clear c1
          go_wp2_with (first
            | (go_at_call 18; refine (num_Reader_End.calls g s' e' t1 t2 t3 w _ HI.out HB.out HE.out).mono ?_; rintro e w8 ⟨rfl, hI8, hB8, hK8⟩; have HB8 := Aside0.mk hB8; have HZ8 := Aside0.mk (hK8.blk HZ.out GG.out (by simp)); have HC8 := Aside0.mk (hK8.blk HC.out NCG.out (by simp)); clear hI8 hB8 hK8; have hcz8_0 : w8.cell? ⟨gb, 0, none⟩ = some (.int .i64 0) := (blk_cell HZ8.out 0).trans rfl; have hfz8_0 := blk_frozen HZ8.out 0; have hcz8_1 : w8.cell? ⟨gb, 1, none⟩ = some (.int .i64 0) := (blk_cell HZ8.out 1).trans rfl; have hfz8_1 := blk_frozen HZ8.out 1; have hcz8_2 : w8.cell? ⟨gb, 2, none⟩ = some (.int .i64 0) := (blk_cell HZ8.out 2).trans rfl; have hfz8_2 := blk_frozen HZ8.out 2; have hcz8_3 : w8.cell? ⟨gb, 3, none⟩ = some (.int .i64 0) := (blk_cell HZ8.out 3).trans rfl; have hfz8_3 := blk_frozen HZ8.out 3; have hcz8_4 : w8.cell? ⟨gb, 4, none⟩ = some (.int .i64 0) := (blk_cell HZ8.out 4).trans rfl; have hfz8_4 := blk_frozen HZ8.out 4; have hcz8_5 : w8.cell? ⟨gb, 5, none⟩ = some (.int .i64 0) := (blk_cell HZ8.out 5).trans rfl; have hfz8_5 := blk_frozen HZ8.out 5; have hcc8_0 : w8.cell? ⟨gc, 0, none⟩ = some (.int .i64 k1) := (blk_cell HC8.out 0).trans rfl; have hfc8_0 := blk_frozen HC8.out 0; have hcc8_1 : w8.cell? ⟨gc, 1, none⟩ = some (.int .i64 m1) := (blk_cell HC8.out 1).trans rfl; have hfc8_1 := blk_frozen HC8.out 1; have hcc8_2 : w8.cell? ⟨gc, 2, none⟩ = some (.int .i64 a2) := (blk_cell HC8.out 2).trans rfl; have hfc8_2 := blk_frozen HC8.out 2; have hcc8_3 : w8.cell? ⟨gc, 3, none⟩ = some (.int .i64 a3) := (blk_cell HC8.out 3).trans rfl; have hfc8_3 := blk_frozen HC8.out 3; have hcc8_4 : w8.cell? ⟨gc, 4, none⟩ = some (.int .i64 a4) := (blk_cell HC8.out 4).trans rfl; have hfc8_4 := blk_frozen HC8.out 4; have hcc8_5 : w8.cell? ⟨gc, 5, none⟩ = some (.int .i64 a5) := (blk_cell HC8.out 5).trans rfl; have hfc8_5 := blk_frozen HC8.out 5))
          refine bodyPost_ret (results_ct rfl _ _ gb 25 #[.int .i64 0, .int .i64 0, .int .i64 0, .int .i64 0, .int .i64 0, .int .i64 0] (0, 0) _ rfl (by (with_reducible repeat (first | refine blk_drewN ?_ _ | refine blk_drew ?_ | refine blk_alloc ?_ _)); refine blk_put (cs := #[.int .i64 0, .int .i64 0, .int .i64 0, .int .i64 0, .int .i64 0, .int .i64 0]) ?_ 5 _ rfl; (with_reducible repeat (first | refine blk_drewN ?_ _ | refine blk_drew ?_ | refine blk_alloc ?_ _)); refine blk_put (cs := #[.int .i64 0, .int .i64 0, .int .i64 0, .int .i64 0, .int .i64 0, .int .i64 0]) ?_ 4 _ rfl; (with_reducible repeat (first | refine blk_drewN ?_ _ | refine blk_drew ?_ | refine blk_alloc ?_ _)); refine blk_put (cs := #[.int .i64 0, .int .i64 0, .int .i64 0, .int .i64 0, .int .i64 0, .int .i64 0]) ?_ 3 _ rfl; (with_reducible repeat (first | refine blk_drewN ?_ _ | refine blk_drew ?_ | refine blk_alloc ?_ _)); refine blk_put (cs := #[.int .i64 0, .int .i64 0, .int .i64 0, .int .i64 0, .int .i64 0, .int .i64 0]) ?_ 2 _ rfl; (with_reducible repeat (first | refine blk_drewN ?_ _ | refine blk_drew ?_ | refine blk_alloc ?_ _)); refine blk_put (cs := #[.int .i64 0, .int .i64 0, .int .i64 0, .int .i64 0, .int .i64 0, .int .i64 0]) ?_ 1 _ rfl; (with_reducible repeat (first | refine blk_drewN ?_ _ | refine blk_drew ?_ | refine blk_alloc ?_ _)); refine blk_put (cs := #[.int .i64 0, .int .i64 0, .int .i64 0, .int .i64 0, .int .i64 0, .int .i64 0]) ?_ 0 _ rfl; (with_reducible repeat (first | refine blk_drewN ?_ _ | refine blk_drew ?_ | refine blk_alloc ?_ _)); exact HZ8.out) Try.underlying25 rfl (by kernel_rfl)) rfl ?_
          exact ⟨rfl, by refine below_set ?_ GE.out; refine below_set ?_ GE.out; refine below_set ?_ GE.out; refine below_set ?_ GE.out; refine below_set ?_ GE.out; refine below_set ?_ GE.out; exact HB8.out⟩
/-- A config of bytes, as vault.Decode has it. -/
def vault_Decode.f (k : Nat) (s : ByteArray) : Option (Int × Int × Int × Int × Int × Int × Int) :=
  (num_Reader_Bytes.f s 0 5).bind fun x => if (!x.1.toList == [71, 82, 84, 67, 1]) = true then some (0, 0, 0, 0, 0, 0, 3) else
    (num_Reader_Fixed.f x.2.1 x.2.2 1).bind fun a => (num_Reader_Fixed.f a.2.1 a.2.2 1).bind fun b => dec4 k b.2.1 b.2.2 a.1 b.1 0 0 0 0

theorem vault_Decode.calls (k : Nat) (s : ByteArray) (r1 r2 r3 r4 r5 r6 r7 : Int) (w : World) (h : vault_Decode.f k s = some (r1, r2, r3, r4, r5, r6, r7)) :
    Calls Try.prog 8 #[.string s] w fun e w' => e = .returned (.tuple #[.agg #[.int .i64 r1, .int .i64 r2, .int .i64 r3, .int .i64 r4, .int .i64 r5, .int .i64 r6], .int .i64 r7]) ∧ Below w.heap.size w w' := by
  unfold vault_Decode.f at h
  obtain ⟨⟨x0, x1, x2⟩, hx, h⟩ := Option.bind_eq_some_iff.mp h
  by_cases hc : (!x0.toList == [71, 82, 84, 67, 1]) = true
  · simp only [if_pos hc, Option.some.injEq, Prod.mk.injEq] at h
    obtain ⟨rfl, rfl, rfl, rfl, rfl, rfl, rfl⟩ := h
    exact decode_refused s x0 x1 x2 w hx hc
  · simp only [if_neg hc] at h
    obtain ⟨⟨k1, y1, y2⟩, hf1, h⟩ := Option.bind_eq_some_iff.mp h
    obtain ⟨⟨m1, z1, z2⟩, hf2, h⟩ := Option.bind_eq_some_iff.mp h
    exact decode_read k s x0 x1 x2 k1 m1 y1 z1 y2 z2 r1 r2 r3 r4 r5 r6 r7 w hx (Bool.eq_false_iff.mpr hc) hf1 hf2 h

end Go.Proofs.Ytnhfkbmnglbbmaa.Q
