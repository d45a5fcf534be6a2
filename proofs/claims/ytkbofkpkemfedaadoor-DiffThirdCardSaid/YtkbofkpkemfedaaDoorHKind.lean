/- content and kind of nodes whose lists of ids are only read: walked. -/
import Derived.Test.YtkbofkpkemfedaaDoorHSplit
import Derived.Test.YtkbofkpkemfedaaDoorQx24
import Derived.Deep.RegionHeld3


namespace Go.Proofs.YtkbofkpkemfedaaDoor.Q
open Go.RowKit Go.Proofs.YtkbofkpkemfedaaDoorW.PrintWords Go.Proofs.YtkbofkpkemfedaaDoorW.PrintLast Go.Proofs.YtkbofkpkemfedaaDoorW.PrintMore
attribute [local go_sem] max2_int min2_int max_two min_two max_three min_three max_four min_four
/-- What is found: a path and a node; the list of ids as it stands (where, how many), and the ids. -/
structure F where
  p : ByteArray
  name : ByteArray
  kind : Int
  mode : Int
  mtime : Int
  ctime : Int
  size : Int
  A : Option Addr
  n : Nat
  c : Nat
  sub : ByteArray
  target : ByteArray
  ids : List ByteArray
/-- The ids stand where the node says. -/
def Rd (w : World) (x : F) : Prop := Kd.C Kd.string w x.A x.n x.ids ∧ x.n ≤ x.c
theorem Rd.below {w w' : World} {x : F} (h : Rd w x) (hb : Below w.heap.size w w') : Rd w' x := ⟨Kd.C_below h.1 hb, h.2⟩
abbrev node (x : F) : Array Value := #[.string x.name, .int .i64 x.kind, .int .i64 x.mode, .int .i64 x.mtime, .int .i64 x.ctime, .int .i64 x.size, .slice x.A x.n x.c, .string x.sub, .string x.target]
def contV (x : F) : Value := if x.kind = 2 then .agg #[.string (⟨#[]⟩ : ByteArray), .int .i64 2, .int .i64 0, .int .i64 0, .int .i64 0, .int .i64 0, .slice none 0 0, .string (⟨#[]⟩ : ByteArray), .string (⟨#[]⟩ : ByteArray)] else .agg #[.string (⟨#[]⟩ : ByteArray), .int .i64 x.kind, .int .i64 0, .int .i64 0, .int .i64 0, .int .i64 x.size, .slice x.A x.n x.c, .string x.sub, .string x.target]
/-- How two nodes are unlike; 0: they are not. -/
def kindV (x y : F) : Int :=
  if x.kind ≠ y.kind then 4 else
  if ¬ (x.kind = 2 ∨ (x.size = y.size ∧ x.sub = y.sub ∧ x.target = y.target ∧ x.ids = y.ids)) then 3 else
  if x.mode ≠ y.mode ∨ x.mtime ≠ y.mtime ∨ x.ctime ≠ y.ctime then 5 else 0
set_option maxHeartbeats 2000000 in
set_option maxRecDepth 100000 in
theorem content_any (x : F) (w : World) : Calls Tryd.prog 19 #[.agg (node x)] w fun e w' => e = .returned (contV x) ∧ Below w.heap.size w w' := by
  have hu45 := Tryd.underlying45
  have HB := Aside0.mk (Below.refl w.heap.size w)
  unfold contV
  obtain ⟨p, name, kind, mode, mtime, ctime, size, A, n, c, sub, target, ids⟩ := x
  by_cases hk : kind = 2
  · subst hk
    simp only [if_true]
    go_enter Tryd.func19, Tryd.ntmps19
    go_wp2_with (first | ((with_reducible refine gate_dst (N := 1) rfl ?_); refine box_event ?hg (N := 1) ?hd (cs := #[.string name, .int .i64 2, .int .i64 mode, .int .i64 mtime, .int .i64 ctime, .int .i64 size, .slice A n c, .string sub, .string target]) (t := 45) ?hr ?_; (case hd => rfl); (case hg => rfl); (case hr => first | (go_simp; done) | (go_simp; rfl)); intro g1 hg w1 hbox hb; have hsz := HB.out.size; have HB1 := Aside0.mk (below_step HB.out hb); have BK1 := Aside0.mk hbox; have GE1 : Aside0 (w.heap.size ≤ g1) := ⟨by omega⟩; have hca_0 : World.cell? w1 ⟨g1, 0, none⟩ = some (.string name) := (blk_cell BK1.out 0).trans rfl; have hfa_0 := blk_frozen BK1.out 0; have hca_1 : World.cell? w1 ⟨g1, 1, none⟩ = some (.int .i64 2) := (blk_cell BK1.out 1).trans rfl; have hfa_1 := blk_frozen BK1.out 1; have hca_2 : World.cell? w1 ⟨g1, 2, none⟩ = some (.int .i64 mode) := (blk_cell BK1.out 2).trans rfl; have hfa_2 := blk_frozen BK1.out 2; have hca_3 : World.cell? w1 ⟨g1, 3, none⟩ = some (.int .i64 mtime) := (blk_cell BK1.out 3).trans rfl; have hfa_3 := blk_frozen BK1.out 3; have hca_4 : World.cell? w1 ⟨g1, 4, none⟩ = some (.int .i64 ctime) := (blk_cell BK1.out 4).trans rfl; have hfa_4 := blk_frozen BK1.out 4; have hca_5 : World.cell? w1 ⟨g1, 5, none⟩ = some (.int .i64 size) := (blk_cell BK1.out 5).trans rfl; have hfa_5 := blk_frozen BK1.out 5; have hca_6 : World.cell? w1 ⟨g1, 6, none⟩ = some (.slice A n c) := (blk_cell BK1.out 6).trans rfl; have hfa_6 := blk_frozen BK1.out 6; have hca_7 : World.cell? w1 ⟨g1, 7, none⟩ = some (.string sub) := (blk_cell BK1.out 7).trans rfl; have hfa_7 := blk_frozen BK1.out 7; have hca_8 : World.cell? w1 ⟨g1, 8, none⟩ = some (.string target) := (blk_cell BK1.out 8).trans rfl; have hfa_8 := blk_frozen BK1.out 8; clear hbox hb hg hsz) | ((with_reducible refine gate_dst (N := 2) rfl ?_); refine box_event ?hg (N := 2) ?hd (cs := #[.string (⟨#[]⟩ : ByteArray), .int .i64 0, .int .i64 0, .int .i64 0, .int .i64 0, .int .i64 0, .slice none 0 0, .string (⟨#[]⟩ : ByteArray), .string (⟨#[]⟩ : ByteArray)]) (t := 45) ?hr ?_; (case hd => rfl); (case hg => rfl); (case hr => first | (go_simp; done) | (go_simp; rfl)); intro g2 hg w2 hbox hb; have hsz := HB1.out.size; have HB2 := Aside0.mk (below_step HB1.out hb); have BK2 := Aside0.mk hbox; have GE2 : Aside0 (w.heap.size ≤ g2) := ⟨by omega⟩; have BK12 := Aside0.mk (blk_below BK1.out hb); have hl_ := blk_lt BK1.out; have NE : Aside0 (g2 ≠ g1) := ⟨by omega⟩; have hca2_0 : World.cell? w2 ⟨g1, 0, none⟩ = some (.string name) := (blk_cell BK12.out 0).trans rfl; have hfa2_0 := blk_frozen BK12.out 0; have hca2_1 : World.cell? w2 ⟨g1, 1, none⟩ = some (.int .i64 2) := (blk_cell BK12.out 1).trans rfl; have hfa2_1 := blk_frozen BK12.out 1; have hca2_2 : World.cell? w2 ⟨g1, 2, none⟩ = some (.int .i64 mode) := (blk_cell BK12.out 2).trans rfl; have hfa2_2 := blk_frozen BK12.out 2; have hca2_3 : World.cell? w2 ⟨g1, 3, none⟩ = some (.int .i64 mtime) := (blk_cell BK12.out 3).trans rfl; have hfa2_3 := blk_frozen BK12.out 3; have hca2_4 : World.cell? w2 ⟨g1, 4, none⟩ = some (.int .i64 ctime) := (blk_cell BK12.out 4).trans rfl; have hfa2_4 := blk_frozen BK12.out 4; have hca2_5 : World.cell? w2 ⟨g1, 5, none⟩ = some (.int .i64 size) := (blk_cell BK12.out 5).trans rfl; have hfa2_5 := blk_frozen BK12.out 5; have hca2_6 : World.cell? w2 ⟨g1, 6, none⟩ = some (.slice A n c) := (blk_cell BK12.out 6).trans rfl; have hfa2_6 := blk_frozen BK12.out 6; have hca2_7 : World.cell? w2 ⟨g1, 7, none⟩ = some (.string sub) := (blk_cell BK12.out 7).trans rfl; have hfa2_7 := blk_frozen BK12.out 7; have hca2_8 : World.cell? w2 ⟨g1, 8, none⟩ = some (.string target) := (blk_cell BK12.out 8).trans rfl; have hfa2_8 := blk_frozen BK12.out 8; have hcz_0 : World.cell? w2 ⟨g2, 0, none⟩ = some (.string (⟨#[]⟩ : ByteArray)) := (blk_cell BK2.out 0).trans rfl; have hfz_0 := blk_frozen BK2.out 0; have hcz_1 : World.cell? w2 ⟨g2, 1, none⟩ = some (.int .i64 0) := (blk_cell BK2.out 1).trans rfl; have hfz_1 := blk_frozen BK2.out 1; have hcz_2 : World.cell? w2 ⟨g2, 2, none⟩ = some (.int .i64 0) := (blk_cell BK2.out 2).trans rfl; have hfz_2 := blk_frozen BK2.out 2; have hcz_3 : World.cell? w2 ⟨g2, 3, none⟩ = some (.int .i64 0) := (blk_cell BK2.out 3).trans rfl; have hfz_3 := blk_frozen BK2.out 3; have hcz_4 : World.cell? w2 ⟨g2, 4, none⟩ = some (.int .i64 0) := (blk_cell BK2.out 4).trans rfl; have hfz_4 := blk_frozen BK2.out 4; have hcz_5 : World.cell? w2 ⟨g2, 5, none⟩ = some (.int .i64 0) := (blk_cell BK2.out 5).trans rfl; have hfz_5 := blk_frozen BK2.out 5; have hcz_6 : World.cell? w2 ⟨g2, 6, none⟩ = some (.slice none 0 0) := (blk_cell BK2.out 6).trans rfl; have hfz_6 := blk_frozen BK2.out 6; have hcz_7 : World.cell? w2 ⟨g2, 7, none⟩ = some (.string (⟨#[]⟩ : ByteArray)) := (blk_cell BK2.out 7).trans rfl; have hfz_7 := blk_frozen BK2.out 7; have hcz_8 : World.cell? w2 ⟨g2, 8, none⟩ = some (.string (⟨#[]⟩ : ByteArray)) := (blk_cell BK2.out 8).trans rfl; have hfz_8 := blk_frozen BK2.out 8; clear hl_; clear hbox hb hg hsz))
    refine bodyPost_ret (results_cell_row rfl _ _ g2 45 #[.string (⟨#[]⟩ : ByteArray), .int .i64 2, .int .i64 0, .int .i64 0, .int .i64 0, .int .i64 0, .slice none 0 0, .string (⟨#[]⟩ : ByteArray), .string (⟨#[]⟩ : ByteArray)] (0, 0) _ rfl (by refine blk_put (cs := #[.string (⟨#[]⟩ : ByteArray), .int .i64 2, .int .i64 0, .int .i64 0, .int .i64 0, .int .i64 0, .slice none 0 0, .string (⟨#[]⟩ : ByteArray), .string (⟨#[]⟩ : ByteArray)]) ?_ 8 _ rfl; refine blk_put (cs := #[.string (⟨#[]⟩ : ByteArray), .int .i64 2, .int .i64 0, .int .i64 0, .int .i64 0, .int .i64 0, .slice none 0 0, .string (⟨#[]⟩ : ByteArray), .string (⟨#[]⟩ : ByteArray)]) ?_ 7 _ rfl; refine blk_put (cs := #[.string (⟨#[]⟩ : ByteArray), .int .i64 2, .int .i64 0, .int .i64 0, .int .i64 0, .int .i64 0, .slice none 0 0, .string (⟨#[]⟩ : ByteArray), .string (⟨#[]⟩ : ByteArray)]) ?_ 6 _ rfl; refine blk_put (cs := #[.string (⟨#[]⟩ : ByteArray), .int .i64 2, .int .i64 0, .int .i64 0, .int .i64 0, .int .i64 0, .slice none 0 0, .string (⟨#[]⟩ : ByteArray), .string (⟨#[]⟩ : ByteArray)]) ?_ 5 _ rfl; refine blk_put (cs := #[.string (⟨#[]⟩ : ByteArray), .int .i64 2, .int .i64 0, .int .i64 0, .int .i64 0, .int .i64 0, .slice none 0 0, .string (⟨#[]⟩ : ByteArray), .string (⟨#[]⟩ : ByteArray)]) ?_ 4 _ rfl; refine blk_put (cs := #[.string (⟨#[]⟩ : ByteArray), .int .i64 2, .int .i64 0, .int .i64 0, .int .i64 0, .int .i64 0, .slice none 0 0, .string (⟨#[]⟩ : ByteArray), .string (⟨#[]⟩ : ByteArray)]) ?_ 3 _ rfl; refine blk_put (cs := #[.string (⟨#[]⟩ : ByteArray), .int .i64 2, .int .i64 0, .int .i64 0, .int .i64 0, .int .i64 0, .slice none 0 0, .string (⟨#[]⟩ : ByteArray), .string (⟨#[]⟩ : ByteArray)]) ?_ 2 _ rfl; refine blk_put (cs := #[.string (⟨#[]⟩ : ByteArray), .int .i64 0, .int .i64 0, .int .i64 0, .int .i64 0, .int .i64 0, .slice none 0 0, .string (⟨#[]⟩ : ByteArray), .string (⟨#[]⟩ : ByteArray)]) ?_ 1 _ rfl; refine blk_put (cs := #[.string (⟨#[]⟩ : ByteArray), .int .i64 0, .int .i64 0, .int .i64 0, .int .i64 0, .int .i64 0, .slice none 0 0, .string (⟨#[]⟩ : ByteArray), .string (⟨#[]⟩ : ByteArray)]) ?_ 0 _ rfl; exact BK2.out) Tryd.underlying45 rfl (by kernel_rfl)) rfl ?_
    exact ⟨rfl, by refine below_set ?_ GE2.out; refine below_set ?_ GE2.out; refine below_set ?_ GE2.out; refine below_set ?_ GE2.out; refine below_set ?_ GE2.out; refine below_set ?_ GE2.out; refine below_set ?_ GE2.out; refine below_set ?_ GE2.out; refine below_set ?_ GE2.out; exact HB2.out⟩
  · simp only [if_neg hk]
    have hk1 : (kind == 2) = false := beq_eq_false_iff_ne.mpr hk
    go_enter Tryd.func19, Tryd.ntmps19
    go_upto_region 4 with (first | ((with_reducible refine gate_dst (N := 1) rfl ?_); refine box_event ?hg (N := 1) ?hd (cs := #[.string name, .int .i64 kind, .int .i64 mode, .int .i64 mtime, .int .i64 ctime, .int .i64 size, .slice A n c, .string sub, .string target]) (t := 45) ?hr ?_; (case hd => rfl); (case hg => rfl); (case hr => first | (go_simp; done) | (go_simp; rfl)); intro g1 hg w1 hbox hb; have hsz := HB.out.size; have HB1 := Aside0.mk (below_step HB.out hb); have BK1 := Aside0.mk hbox; have GE1 : Aside0 (w.heap.size ≤ g1) := ⟨by omega⟩; have hca_0 : World.cell? w1 ⟨g1, 0, none⟩ = some (.string name) := (blk_cell BK1.out 0).trans rfl; have hfa_0 := blk_frozen BK1.out 0; have hca_1 : World.cell? w1 ⟨g1, 1, none⟩ = some (.int .i64 kind) := (blk_cell BK1.out 1).trans rfl; have hfa_1 := blk_frozen BK1.out 1; have hca_2 : World.cell? w1 ⟨g1, 2, none⟩ = some (.int .i64 mode) := (blk_cell BK1.out 2).trans rfl; have hfa_2 := blk_frozen BK1.out 2; have hca_3 : World.cell? w1 ⟨g1, 3, none⟩ = some (.int .i64 mtime) := (blk_cell BK1.out 3).trans rfl; have hfa_3 := blk_frozen BK1.out 3; have hca_4 : World.cell? w1 ⟨g1, 4, none⟩ = some (.int .i64 ctime) := (blk_cell BK1.out 4).trans rfl; have hfa_4 := blk_frozen BK1.out 4; have hca_5 : World.cell? w1 ⟨g1, 5, none⟩ = some (.int .i64 size) := (blk_cell BK1.out 5).trans rfl; have hfa_5 := blk_frozen BK1.out 5; have hca_6 : World.cell? w1 ⟨g1, 6, none⟩ = some (.slice A n c) := (blk_cell BK1.out 6).trans rfl; have hfa_6 := blk_frozen BK1.out 6; have hca_7 : World.cell? w1 ⟨g1, 7, none⟩ = some (.string sub) := (blk_cell BK1.out 7).trans rfl; have hfa_7 := blk_frozen BK1.out 7; have hca_8 : World.cell? w1 ⟨g1, 8, none⟩ = some (.string target) := (blk_cell BK1.out 8).trans rfl; have hfa_8 := blk_frozen BK1.out 8; clear hbox hb hg hsz) | ((with_reducible refine gate_dst (N := 2) rfl ?_); refine box_event ?hg (N := 2) ?hd (cs := #[.string (⟨#[]⟩ : ByteArray), .int .i64 0, .int .i64 0, .int .i64 0, .int .i64 0, .int .i64 0, .slice none 0 0, .string (⟨#[]⟩ : ByteArray), .string (⟨#[]⟩ : ByteArray)]) (t := 45) ?hr ?_; (case hd => rfl); (case hg => rfl); (case hr => first | (go_simp; done) | (go_simp; rfl)); intro g2 hg w2 hbox hb; have hsz := HB1.out.size; have HB2 := Aside0.mk (below_step HB1.out hb); have BK2 := Aside0.mk hbox; have GE2 : Aside0 (w.heap.size ≤ g2) := ⟨by omega⟩; have BK12 := Aside0.mk (blk_below BK1.out hb); have hl_ := blk_lt BK1.out; have NE : Aside0 (g2 ≠ g1) := ⟨by omega⟩; have hca2_0 : World.cell? w2 ⟨g1, 0, none⟩ = some (.string name) := (blk_cell BK12.out 0).trans rfl; have hfa2_0 := blk_frozen BK12.out 0; have hca2_1 : World.cell? w2 ⟨g1, 1, none⟩ = some (.int .i64 kind) := (blk_cell BK12.out 1).trans rfl; have hfa2_1 := blk_frozen BK12.out 1; have hca2_2 : World.cell? w2 ⟨g1, 2, none⟩ = some (.int .i64 mode) := (blk_cell BK12.out 2).trans rfl; have hfa2_2 := blk_frozen BK12.out 2; have hca2_3 : World.cell? w2 ⟨g1, 3, none⟩ = some (.int .i64 mtime) := (blk_cell BK12.out 3).trans rfl; have hfa2_3 := blk_frozen BK12.out 3; have hca2_4 : World.cell? w2 ⟨g1, 4, none⟩ = some (.int .i64 ctime) := (blk_cell BK12.out 4).trans rfl; have hfa2_4 := blk_frozen BK12.out 4; have hca2_5 : World.cell? w2 ⟨g1, 5, none⟩ = some (.int .i64 size) := (blk_cell BK12.out 5).trans rfl; have hfa2_5 := blk_frozen BK12.out 5; have hca2_6 : World.cell? w2 ⟨g1, 6, none⟩ = some (.slice A n c) := (blk_cell BK12.out 6).trans rfl; have hfa2_6 := blk_frozen BK12.out 6; have hca2_7 : World.cell? w2 ⟨g1, 7, none⟩ = some (.string sub) := (blk_cell BK12.out 7).trans rfl; have hfa2_7 := blk_frozen BK12.out 7; have hca2_8 : World.cell? w2 ⟨g1, 8, none⟩ = some (.string target) := (blk_cell BK12.out 8).trans rfl; have hfa2_8 := blk_frozen BK12.out 8; have hcz_0 : World.cell? w2 ⟨g2, 0, none⟩ = some (.string (⟨#[]⟩ : ByteArray)) := (blk_cell BK2.out 0).trans rfl; have hfz_0 := blk_frozen BK2.out 0; have hcz_1 : World.cell? w2 ⟨g2, 1, none⟩ = some (.int .i64 0) := (blk_cell BK2.out 1).trans rfl; have hfz_1 := blk_frozen BK2.out 1; have hcz_2 : World.cell? w2 ⟨g2, 2, none⟩ = some (.int .i64 0) := (blk_cell BK2.out 2).trans rfl; have hfz_2 := blk_frozen BK2.out 2; have hcz_3 : World.cell? w2 ⟨g2, 3, none⟩ = some (.int .i64 0) := (blk_cell BK2.out 3).trans rfl; have hfz_3 := blk_frozen BK2.out 3; have hcz_4 : World.cell? w2 ⟨g2, 4, none⟩ = some (.int .i64 0) := (blk_cell BK2.out 4).trans rfl; have hfz_4 := blk_frozen BK2.out 4; have hcz_5 : World.cell? w2 ⟨g2, 5, none⟩ = some (.int .i64 0) := (blk_cell BK2.out 5).trans rfl; have hfz_5 := blk_frozen BK2.out 5; have hcz_6 : World.cell? w2 ⟨g2, 6, none⟩ = some (.slice none 0 0) := (blk_cell BK2.out 6).trans rfl; have hfz_6 := blk_frozen BK2.out 6; have hcz_7 : World.cell? w2 ⟨g2, 7, none⟩ = some (.string (⟨#[]⟩ : ByteArray)) := (blk_cell BK2.out 7).trans rfl; have hfz_7 := blk_frozen BK2.out 7; have hcz_8 : World.cell? w2 ⟨g2, 8, none⟩ = some (.string (⟨#[]⟩ : ByteArray)) := (blk_cell BK2.out 8).trans rfl; have hfz_8 := blk_frozen BK2.out 8; clear hl_; clear hbox hb hg hsz))
    obtain ⟨w5, hw5⟩ : ∃ w5, w5 = ((((w2).setCell ⟨g1, 0, none⟩ (.string (⟨#[]⟩ : ByteArray))).setCell ⟨g1, 2, none⟩ (.int .i64 0)).setCell ⟨g1, 3, none⟩ (.int .i64 0)).setCell ⟨g1, 4, none⟩ (.int .i64 0) := ⟨_, rfl⟩
    have BK5 : Aside0 (w5.heap[g1]? = some (.cells #[.string (⟨#[]⟩ : ByteArray), .int .i64 kind, .int .i64 0, .int .i64 0, .int .i64 0, .int .i64 size, .slice A n c, .string sub, .string target] 45 (0, 0))) := ⟨by rw [hw5]; refine blk_put (cs := #[.string (⟨#[]⟩ : ByteArray), .int .i64 kind, .int .i64 0, .int .i64 0, .int .i64 ctime, .int .i64 size, .slice A n c, .string sub, .string target]) ?_ 4 _ rfl; refine blk_put (cs := #[.string (⟨#[]⟩ : ByteArray), .int .i64 kind, .int .i64 0, .int .i64 mtime, .int .i64 ctime, .int .i64 size, .slice A n c, .string sub, .string target]) ?_ 3 _ rfl; refine blk_put (cs := #[.string (⟨#[]⟩ : ByteArray), .int .i64 kind, .int .i64 mode, .int .i64 mtime, .int .i64 ctime, .int .i64 size, .slice A n c, .string sub, .string target]) ?_ 2 _ rfl; refine blk_put (cs := #[.string name, .int .i64 kind, .int .i64 mode, .int .i64 mtime, .int .i64 ctime, .int .i64 size, .slice A n c, .string sub, .string target]) ?_ 0 _ rfl; exact BK12.out⟩
    have BZ5 : Aside0 (w5.heap[g2]? = some (.cells #[.string (⟨#[]⟩ : ByteArray), .int .i64 0, .int .i64 0, .int .i64 0, .int .i64 0, .int .i64 0, .slice none 0 0, .string (⟨#[]⟩ : ByteArray), .string (⟨#[]⟩ : ByteArray)] 45 (0, 0))) := ⟨by rw [hw5]; refine blk_far ?_ (by exact NE.out) _; refine blk_far ?_ (by exact NE.out) _; refine blk_far ?_ (by exact NE.out) _; refine blk_far ?_ (by exact NE.out) _; exact BK2.out⟩
    have HB5 : Aside0 (Below w.heap.size w w5) := ⟨by rw [hw5]; refine below_set ?_ GE1.out; refine below_set ?_ GE1.out; refine below_set ?_ GE1.out; refine below_set ?_ GE1.out; exact HB2.out⟩
    rw [← hw5]
    clear hw5 hca_0 hfa_0 hca2_0 hfa2_0 hcz_0 hfz_0 hca_1 hfa_1 hca2_1 hfa2_1 hcz_1 hfz_1 hca_2 hfa_2 hca2_2 hfa2_2 hcz_2 hfz_2 hca_3 hfa_3 hca2_3 hfa2_3 hcz_3 hfz_3 hca_4 hfa_4 hca2_4 hfa2_4 hcz_4 hfz_4 hca_5 hfa_5 hca2_5 hfa2_5 hcz_5 hfz_5 hca_6 hfa_6 hca2_6 hfa2_6 hcz_6 hfz_6 hca_7 hfa_7 hca2_7 hfa2_7 hcz_7 hfz_7 hca_8 hfa_8 hca2_8 hfa2_8 hcz_8 hfz_8
    have hck5_0 : World.cell? w5 ⟨g1, 0, none⟩ = some (.string (⟨#[]⟩ : ByteArray)) := (blk_cell BK5.out 0).trans rfl
    have hfk5_0 := blk_frozen BK5.out 0
    have hck5_1 : World.cell? w5 ⟨g1, 1, none⟩ = some (.int .i64 kind) := (blk_cell BK5.out 1).trans rfl
    have hfk5_1 := blk_frozen BK5.out 1
    have hck5_2 : World.cell? w5 ⟨g1, 2, none⟩ = some (.int .i64 0) := (blk_cell BK5.out 2).trans rfl
    have hfk5_2 := blk_frozen BK5.out 2
    have hck5_3 : World.cell? w5 ⟨g1, 3, none⟩ = some (.int .i64 0) := (blk_cell BK5.out 3).trans rfl
    have hfk5_3 := blk_frozen BK5.out 3
    have hck5_4 : World.cell? w5 ⟨g1, 4, none⟩ = some (.int .i64 0) := (blk_cell BK5.out 4).trans rfl
    have hfk5_4 := blk_frozen BK5.out 4
    have hck5_5 : World.cell? w5 ⟨g1, 5, none⟩ = some (.int .i64 size) := (blk_cell BK5.out 5).trans rfl
    have hfk5_5 := blk_frozen BK5.out 5
    have hck5_6 : World.cell? w5 ⟨g1, 6, none⟩ = some (.slice A n c) := (blk_cell BK5.out 6).trans rfl
    have hfk5_6 := blk_frozen BK5.out 6
    have hck5_7 : World.cell? w5 ⟨g1, 7, none⟩ = some (.string sub) := (blk_cell BK5.out 7).trans rfl
    have hfk5_7 := blk_frozen BK5.out 7
    have hck5_8 : World.cell? w5 ⟨g1, 8, none⟩ = some (.string target) := (blk_cell BK5.out 8).trans rfl
    have hfk5_8 := blk_frozen BK5.out 8
    have hcz5_0 : World.cell? w5 ⟨g2, 0, none⟩ = some (.string (⟨#[]⟩ : ByteArray)) := (blk_cell BZ5.out 0).trans rfl
    have hfz5_0 := blk_frozen BZ5.out 0
    have hcz5_1 : World.cell? w5 ⟨g2, 1, none⟩ = some (.int .i64 0) := (blk_cell BZ5.out 1).trans rfl
    have hfz5_1 := blk_frozen BZ5.out 1
    have hcz5_2 : World.cell? w5 ⟨g2, 2, none⟩ = some (.int .i64 0) := (blk_cell BZ5.out 2).trans rfl
    have hfz5_2 := blk_frozen BZ5.out 2
    have hcz5_3 : World.cell? w5 ⟨g2, 3, none⟩ = some (.int .i64 0) := (blk_cell BZ5.out 3).trans rfl
    have hfz5_3 := blk_frozen BZ5.out 3
    have hcz5_4 : World.cell? w5 ⟨g2, 4, none⟩ = some (.int .i64 0) := (blk_cell BZ5.out 4).trans rfl
    have hfz5_4 := blk_frozen BZ5.out 4
    have hcz5_5 : World.cell? w5 ⟨g2, 5, none⟩ = some (.int .i64 0) := (blk_cell BZ5.out 5).trans rfl
    have hfz5_5 := blk_frozen BZ5.out 5
    have hcz5_6 : World.cell? w5 ⟨g2, 6, none⟩ = some (.slice none 0 0) := (blk_cell BZ5.out 6).trans rfl
    have hfz5_6 := blk_frozen BZ5.out 6
    have hcz5_7 : World.cell? w5 ⟨g2, 7, none⟩ = some (.string (⟨#[]⟩ : ByteArray)) := (blk_cell BZ5.out 7).trans rfl
    have hfz5_7 := blk_frozen BZ5.out 7
    have hcz5_8 : World.cell? w5 ⟨g2, 8, none⟩ = some (.string (⟨#[]⟩ : ByteArray)) := (blk_cell BZ5.out 8).trans rfl
    have hfz5_8 := blk_frozen BZ5.out 8
    go_wp2_with (fail)
    refine bodyPost_ret (results_cell_row rfl _ _ g2 45 #[.string (⟨#[]⟩ : ByteArray), .int .i64 kind, .int .i64 0, .int .i64 0, .int .i64 0, .int .i64 size, .slice A n c, .string sub, .string target] (0, 0) _ rfl (by refine blk_put (cs := #[.string (⟨#[]⟩ : ByteArray), .int .i64 kind, .int .i64 0, .int .i64 0, .int .i64 0, .int .i64 size, .slice A n c, .string sub, .string (⟨#[]⟩ : ByteArray)]) ?_ 8 _ rfl; refine blk_put (cs := #[.string (⟨#[]⟩ : ByteArray), .int .i64 kind, .int .i64 0, .int .i64 0, .int .i64 0, .int .i64 size, .slice A n c, .string (⟨#[]⟩ : ByteArray), .string (⟨#[]⟩ : ByteArray)]) ?_ 7 _ rfl; refine blk_put (cs := #[.string (⟨#[]⟩ : ByteArray), .int .i64 kind, .int .i64 0, .int .i64 0, .int .i64 0, .int .i64 size, .slice none 0 0, .string (⟨#[]⟩ : ByteArray), .string (⟨#[]⟩ : ByteArray)]) ?_ 6 _ rfl; refine blk_put (cs := #[.string (⟨#[]⟩ : ByteArray), .int .i64 kind, .int .i64 0, .int .i64 0, .int .i64 0, .int .i64 0, .slice none 0 0, .string (⟨#[]⟩ : ByteArray), .string (⟨#[]⟩ : ByteArray)]) ?_ 5 _ rfl; refine blk_put (cs := #[.string (⟨#[]⟩ : ByteArray), .int .i64 kind, .int .i64 0, .int .i64 0, .int .i64 0, .int .i64 0, .slice none 0 0, .string (⟨#[]⟩ : ByteArray), .string (⟨#[]⟩ : ByteArray)]) ?_ 4 _ rfl; refine blk_put (cs := #[.string (⟨#[]⟩ : ByteArray), .int .i64 kind, .int .i64 0, .int .i64 0, .int .i64 0, .int .i64 0, .slice none 0 0, .string (⟨#[]⟩ : ByteArray), .string (⟨#[]⟩ : ByteArray)]) ?_ 3 _ rfl; refine blk_put (cs := #[.string (⟨#[]⟩ : ByteArray), .int .i64 kind, .int .i64 0, .int .i64 0, .int .i64 0, .int .i64 0, .slice none 0 0, .string (⟨#[]⟩ : ByteArray), .string (⟨#[]⟩ : ByteArray)]) ?_ 2 _ rfl; refine blk_put (cs := #[.string (⟨#[]⟩ : ByteArray), .int .i64 0, .int .i64 0, .int .i64 0, .int .i64 0, .int .i64 0, .slice none 0 0, .string (⟨#[]⟩ : ByteArray), .string (⟨#[]⟩ : ByteArray)]) ?_ 1 _ rfl; refine blk_put (cs := #[.string (⟨#[]⟩ : ByteArray), .int .i64 0, .int .i64 0, .int .i64 0, .int .i64 0, .int .i64 0, .slice none 0 0, .string (⟨#[]⟩ : ByteArray), .string (⟨#[]⟩ : ByteArray)]) ?_ 0 _ rfl; exact BZ5.out) Tryd.underlying45 rfl (by kernel_rfl)) rfl ?_
    exact ⟨rfl, by refine below_set ?_ GE2.out; refine below_set ?_ GE2.out; refine below_set ?_ GE2.out; refine below_set ?_ GE2.out; refine below_set ?_ GE2.out; refine below_set ?_ GE2.out; refine below_set ?_ GE2.out; refine below_set ?_ GE2.out; refine below_set ?_ GE2.out; exact HB5.out⟩

theorem ki_of {x y : F} {w W : World} {gx gy : Nat} (h1 : Below w.heap.size w W) (h2 : W.heap[gx]? = some (.cells (node x) 45 (0, 0))) (h3 : W.heap[gy]? = some (.cells (node y) 45 (0, 0))) : W.cell? ⟨gx, 0, none⟩ = some (.string x.name) ∧ W.cell? ⟨gx, 1, none⟩ = some (.int .i64 x.kind) ∧ W.cell? ⟨gx, 2, none⟩ = some (.int .i64 x.mode) ∧ W.cell? ⟨gx, 3, none⟩ = some (.int .i64 x.mtime) ∧ W.cell? ⟨gx, 4, none⟩ = some (.int .i64 x.ctime) ∧ W.cell? ⟨gx, 5, none⟩ = some (.int .i64 x.size) ∧ W.cell? ⟨gx, 6, none⟩ = some (.slice x.A x.n x.c) ∧ W.cell? ⟨gx, 7, none⟩ = some (.string x.sub) ∧ W.cell? ⟨gx, 8, none⟩ = some (.string x.target) ∧ W.cell? ⟨gy, 0, none⟩ = some (.string y.name) ∧ W.cell? ⟨gy, 1, none⟩ = some (.int .i64 y.kind) ∧ W.cell? ⟨gy, 2, none⟩ = some (.int .i64 y.mode) ∧ W.cell? ⟨gy, 3, none⟩ = some (.int .i64 y.mtime) ∧ W.cell? ⟨gy, 4, none⟩ = some (.int .i64 y.ctime) ∧ W.cell? ⟨gy, 5, none⟩ = some (.int .i64 y.size) ∧ W.cell? ⟨gy, 6, none⟩ = some (.slice y.A y.n y.c) ∧ W.cell? ⟨gy, 7, none⟩ = some (.string y.sub) ∧ W.cell? ⟨gy, 8, none⟩ = some (.string y.target) ∧ Below w.heap.size w W ∧ W.heap[gx]? = some (.cells (node x) 45 (0, 0)) ∧ W.heap[gy]? = some (.cells (node y) 45 (0, 0)) := ⟨(blk_cell h2 0).trans rfl, (blk_cell h2 1).trans rfl, (blk_cell h2 2).trans rfl, (blk_cell h2 3).trans rfl, (blk_cell h2 4).trans rfl, (blk_cell h2 5).trans rfl, (blk_cell h2 6).trans rfl, (blk_cell h2 7).trans rfl, (blk_cell h2 8).trans rfl, (blk_cell h3 0).trans rfl, (blk_cell h3 1).trans rfl, (blk_cell h3 2).trans rfl, (blk_cell h3 3).trans rfl, (blk_cell h3 4).trans rfl, (blk_cell h3 5).trans rfl, (blk_cell h3 6).trans rfl, (blk_cell h3 7).trans rfl, (blk_cell h3 8).trans rfl, h1, h2, h3⟩
theorem ki_end {x y : F} {w W : World} {gx gy : Nat} (h : W.cell? ⟨gx, 0, none⟩ = some (.string x.name) ∧ W.cell? ⟨gx, 1, none⟩ = some (.int .i64 x.kind) ∧ W.cell? ⟨gx, 2, none⟩ = some (.int .i64 x.mode) ∧ W.cell? ⟨gx, 3, none⟩ = some (.int .i64 x.mtime) ∧ W.cell? ⟨gx, 4, none⟩ = some (.int .i64 x.ctime) ∧ W.cell? ⟨gx, 5, none⟩ = some (.int .i64 x.size) ∧ W.cell? ⟨gx, 6, none⟩ = some (.slice x.A x.n x.c) ∧ W.cell? ⟨gx, 7, none⟩ = some (.string x.sub) ∧ W.cell? ⟨gx, 8, none⟩ = some (.string x.target) ∧ W.cell? ⟨gy, 0, none⟩ = some (.string y.name) ∧ W.cell? ⟨gy, 1, none⟩ = some (.int .i64 y.kind) ∧ W.cell? ⟨gy, 2, none⟩ = some (.int .i64 y.mode) ∧ W.cell? ⟨gy, 3, none⟩ = some (.int .i64 y.mtime) ∧ W.cell? ⟨gy, 4, none⟩ = some (.int .i64 y.ctime) ∧ W.cell? ⟨gy, 5, none⟩ = some (.int .i64 y.size) ∧ W.cell? ⟨gy, 6, none⟩ = some (.slice y.A y.n y.c) ∧ W.cell? ⟨gy, 7, none⟩ = some (.string y.sub) ∧ W.cell? ⟨gy, 8, none⟩ = some (.string y.target) ∧ Below w.heap.size w W ∧ W.heap[gx]? = some (.cells (node x) 45 (0, 0)) ∧ W.heap[gy]? = some (.cells (node y) 45 (0, 0))) : Below w.heap.size w W ∧ W.heap[gx]? = some (.cells (node x) 45 (0, 0)) ∧ W.heap[gy]? = some (.cells (node y) 45 (0, 0)) := by
  obtain ⟨_, _, _, _, _, _, _, _, _, _, _, _, _, _, _, _, _, _, h⟩ := h
  exact h
theorem ki_keep {x y : F} {w W w' : World} {gx gy : Nat} (hb : Below W.heap.size W w') (h : W.cell? ⟨gx, 0, none⟩ = some (.string x.name) ∧ W.cell? ⟨gx, 1, none⟩ = some (.int .i64 x.kind) ∧ W.cell? ⟨gx, 2, none⟩ = some (.int .i64 x.mode) ∧ W.cell? ⟨gx, 3, none⟩ = some (.int .i64 x.mtime) ∧ W.cell? ⟨gx, 4, none⟩ = some (.int .i64 x.ctime) ∧ W.cell? ⟨gx, 5, none⟩ = some (.int .i64 x.size) ∧ W.cell? ⟨gx, 6, none⟩ = some (.slice x.A x.n x.c) ∧ W.cell? ⟨gx, 7, none⟩ = some (.string x.sub) ∧ W.cell? ⟨gx, 8, none⟩ = some (.string x.target) ∧ W.cell? ⟨gy, 0, none⟩ = some (.string y.name) ∧ W.cell? ⟨gy, 1, none⟩ = some (.int .i64 y.kind) ∧ W.cell? ⟨gy, 2, none⟩ = some (.int .i64 y.mode) ∧ W.cell? ⟨gy, 3, none⟩ = some (.int .i64 y.mtime) ∧ W.cell? ⟨gy, 4, none⟩ = some (.int .i64 y.ctime) ∧ W.cell? ⟨gy, 5, none⟩ = some (.int .i64 y.size) ∧ W.cell? ⟨gy, 6, none⟩ = some (.slice y.A y.n y.c) ∧ W.cell? ⟨gy, 7, none⟩ = some (.string y.sub) ∧ W.cell? ⟨gy, 8, none⟩ = some (.string y.target) ∧ Below w.heap.size w W ∧ W.heap[gx]? = some (.cells (node x) 45 (0, 0)) ∧ W.heap[gy]? = some (.cells (node y) 45 (0, 0))) : w'.cell? ⟨gx, 0, none⟩ = some (.string x.name) ∧ w'.cell? ⟨gx, 1, none⟩ = some (.int .i64 x.kind) ∧ w'.cell? ⟨gx, 2, none⟩ = some (.int .i64 x.mode) ∧ w'.cell? ⟨gx, 3, none⟩ = some (.int .i64 x.mtime) ∧ w'.cell? ⟨gx, 4, none⟩ = some (.int .i64 x.ctime) ∧ w'.cell? ⟨gx, 5, none⟩ = some (.int .i64 x.size) ∧ w'.cell? ⟨gx, 6, none⟩ = some (.slice x.A x.n x.c) ∧ w'.cell? ⟨gx, 7, none⟩ = some (.string x.sub) ∧ w'.cell? ⟨gx, 8, none⟩ = some (.string x.target) ∧ w'.cell? ⟨gy, 0, none⟩ = some (.string y.name) ∧ w'.cell? ⟨gy, 1, none⟩ = some (.int .i64 y.kind) ∧ w'.cell? ⟨gy, 2, none⟩ = some (.int .i64 y.mode) ∧ w'.cell? ⟨gy, 3, none⟩ = some (.int .i64 y.mtime) ∧ w'.cell? ⟨gy, 4, none⟩ = some (.int .i64 y.ctime) ∧ w'.cell? ⟨gy, 5, none⟩ = some (.int .i64 y.size) ∧ w'.cell? ⟨gy, 6, none⟩ = some (.slice y.A y.n y.c) ∧ w'.cell? ⟨gy, 7, none⟩ = some (.string y.sub) ∧ w'.cell? ⟨gy, 8, none⟩ = some (.string y.target) ∧ Below w.heap.size w w' ∧ w'.heap[gx]? = some (.cells (node x) 45 (0, 0)) ∧ w'.heap[gy]? = some (.cells (node y) 45 (0, 0)) := by
  obtain ⟨h1, h2, h3⟩ := ki_end h
  exact ki_of (below_step h1 hb) (blk_below h2 hb) (blk_below h3 hb)
theorem ki_drew {x y : F} {w W : World} {gx gy : Nat} (h : W.cell? ⟨gx, 0, none⟩ = some (.string x.name) ∧ W.cell? ⟨gx, 1, none⟩ = some (.int .i64 x.kind) ∧ W.cell? ⟨gx, 2, none⟩ = some (.int .i64 x.mode) ∧ W.cell? ⟨gx, 3, none⟩ = some (.int .i64 x.mtime) ∧ W.cell? ⟨gx, 4, none⟩ = some (.int .i64 x.ctime) ∧ W.cell? ⟨gx, 5, none⟩ = some (.int .i64 x.size) ∧ W.cell? ⟨gx, 6, none⟩ = some (.slice x.A x.n x.c) ∧ W.cell? ⟨gx, 7, none⟩ = some (.string x.sub) ∧ W.cell? ⟨gx, 8, none⟩ = some (.string x.target) ∧ W.cell? ⟨gy, 0, none⟩ = some (.string y.name) ∧ W.cell? ⟨gy, 1, none⟩ = some (.int .i64 y.kind) ∧ W.cell? ⟨gy, 2, none⟩ = some (.int .i64 y.mode) ∧ W.cell? ⟨gy, 3, none⟩ = some (.int .i64 y.mtime) ∧ W.cell? ⟨gy, 4, none⟩ = some (.int .i64 y.ctime) ∧ W.cell? ⟨gy, 5, none⟩ = some (.int .i64 y.size) ∧ W.cell? ⟨gy, 6, none⟩ = some (.slice y.A y.n y.c) ∧ W.cell? ⟨gy, 7, none⟩ = some (.string y.sub) ∧ W.cell? ⟨gy, 8, none⟩ = some (.string y.target) ∧ Below w.heap.size w W ∧ W.heap[gx]? = some (.cells (node x) 45 (0, 0)) ∧ W.heap[gy]? = some (.cells (node y) 45 (0, 0))) : W.drew.cell? ⟨gx, 0, none⟩ = some (.string x.name) ∧ W.drew.cell? ⟨gx, 1, none⟩ = some (.int .i64 x.kind) ∧ W.drew.cell? ⟨gx, 2, none⟩ = some (.int .i64 x.mode) ∧ W.drew.cell? ⟨gx, 3, none⟩ = some (.int .i64 x.mtime) ∧ W.drew.cell? ⟨gx, 4, none⟩ = some (.int .i64 x.ctime) ∧ W.drew.cell? ⟨gx, 5, none⟩ = some (.int .i64 x.size) ∧ W.drew.cell? ⟨gx, 6, none⟩ = some (.slice x.A x.n x.c) ∧ W.drew.cell? ⟨gx, 7, none⟩ = some (.string x.sub) ∧ W.drew.cell? ⟨gx, 8, none⟩ = some (.string x.target) ∧ W.drew.cell? ⟨gy, 0, none⟩ = some (.string y.name) ∧ W.drew.cell? ⟨gy, 1, none⟩ = some (.int .i64 y.kind) ∧ W.drew.cell? ⟨gy, 2, none⟩ = some (.int .i64 y.mode) ∧ W.drew.cell? ⟨gy, 3, none⟩ = some (.int .i64 y.mtime) ∧ W.drew.cell? ⟨gy, 4, none⟩ = some (.int .i64 y.ctime) ∧ W.drew.cell? ⟨gy, 5, none⟩ = some (.int .i64 y.size) ∧ W.drew.cell? ⟨gy, 6, none⟩ = some (.slice y.A y.n y.c) ∧ W.drew.cell? ⟨gy, 7, none⟩ = some (.string y.sub) ∧ W.drew.cell? ⟨gy, 8, none⟩ = some (.string y.target) ∧ Below w.heap.size w W.drew ∧ W.drew.heap[gx]? = some (.cells (node x) 45 (0, 0)) ∧ W.drew.heap[gy]? = some (.cells (node y) 45 (0, 0)) := ki_keep (below_drew1 (Below.refl _ _)) h
theorem equal_loop (xs ys : List ByteArray) (hl : xs.length ≤ 1000) (hy : xs.length = ys.length) : ∀ (j i : Nat), i + j = xs.length → slices_Equal_string_string.l0 (j + 1) xs ys (xs.length : Int) (i : Int) = some (decide (xs.drop i = ys.drop i))
  | 0, i, hi => by
    unfold slices_Equal_string_string.l0
    rw [if_neg (by omega), List.drop_eq_nil_of_le (by omega), List.drop_eq_nil_of_le (by omega)]
    simp
  | j + 1, i, hi => by
    have wi : wrap64 ((i : Int) + 1) = ((i + 1 : Nat) : Int) := by unfold wrap64; omega
    have hlt : i < xs.length := by omega
    have hlt' : i < ys.length := by omega
    have e1 : rdOf ByteArray.empty xs (i : Int) = xs[i] := by unfold rdOf; simp [List.getD_eq_getElem?_getD, List.getElem?_eq_getElem hlt]
    have e2 : rdOf ByteArray.empty ys (i : Int) = ys[i] := by unfold rdOf; simp [List.getD_eq_getElem?_getD, List.getElem?_eq_getElem hlt']
    unfold slices_Equal_string_string.l0
    rw [if_pos (by omega), if_pos (by omega), if_pos (by omega), if_pos (by omega), e1, e2, wi, List.drop_eq_getElem_cons hlt, List.drop_eq_getElem_cons hlt']
    by_cases he : xs[i] = ys[i]
    · rw [if_pos (by rw [he]), equal_loop xs ys hl hy j (i + 1) (by omega)]
      simp only [he, List.cons.injEq, true_and]
    · rw [if_neg (fun h => he (eq_of_toList h))]
      simp only [he, List.cons.injEq, false_and, decide_false]
theorem equal_val (xs ys : List ByteArray) (hl : xs.length ≤ 1000) : slices_Equal_string_string.f (xs.length + 1) xs ys = some (decide (xs = ys)) := by
  unfold slices_Equal_string_string.f
  by_cases h : xs.length = ys.length
  · rw [if_pos (by rw [h])]
    have := equal_loop xs ys hl h xs.length 0 (by omega)
    simpa using this
  · rw [if_neg (by omega)]
    have : xs ≠ ys := fun e => h (by rw [e])
    simp [this]
theorem same_val (x y : F) (hk : x.kind = y.kind) (hn : x.ids.length ≤ 1000) : node_Same.f (x.ids.length + 1) ⟨#[]⟩ x.kind 0 0 0 x.size x.ids x.sub x.target ⟨#[]⟩ y.kind 0 0 0 y.size y.ids y.sub y.target = some (decide (x.size = y.size ∧ x.sub = y.sub ∧ x.target = y.target ∧ x.ids = y.ids)) := by
  unfold node_Same.f
  rw [hk, equal_val _ _ hn]
  simp only [Option.bind_some, beq_self_eq_true, Bool.true_and, Bool.and_eq_true, beq_iff_eq]
  by_cases h : x.size = y.size ∧ x.sub.toList = y.sub.toList ∧ x.target.toList = y.target.toList
  · rw [if_pos h]
    obtain ⟨h1, h2, h3⟩ := h
    simp [h1, eq_of_toList h2, eq_of_toList h3]
  · rw [if_neg h]
    simp only [Option.some.injEq]
    symm
    rw [decide_eq_false_iff_not]
    exact fun hh => h ⟨hh.1, by rw [hh.2.1], by rw [hh.2.2.1]⟩
set_option maxHeartbeats 4000000 in
set_option maxRecDepth 100000 in
theorem kind_any (x y : F) (w : World) (hx : Rd w x) (hy : Rd w y) (hnx : x.n ≤ 1000) : Calls Tryd.prog 15 #[.agg (node x), .agg (node y)] w fun e w' => e = .returned (.int .i64 (kindV x y)) ∧ Below w.heap.size w w' := by
  have hu45 := Tryd.underlying45
  have HB := Aside0.mk (Below.refl w.heap.size w)
  have HX := Aside0.mk hx
  have HY := Aside0.mk hy
  have HN := Aside0.mk hnx
  clear hx hy hnx
  go_enter Tryd.func15, Tryd.ntmps15
  go_upto_region 1 with (first | ((with_reducible refine gate_dst (N := 2) rfl ?_); refine box_event ?hg (N := 2) ?hd (cs := #[.string x.name, .int .i64 x.kind, .int .i64 x.mode, .int .i64 x.mtime, .int .i64 x.ctime, .int .i64 x.size, .slice x.A x.n x.c, .string x.sub, .string x.target]) (t := 45) ?hr ?_; (case hd => rfl); (case hg => rfl); (case hr => first | (go_simp; done) | (go_simp; rfl)); intro gx hg w1 hbox hb; have hsz := HB.out.size; have HB1 := Aside0.mk (below_step HB.out hb); have BX := Aside0.mk hbox; have GX : Aside0 (w.heap.size ≤ gx) := ⟨by omega⟩; clear hbox hb hg hsz) | ((with_reducible refine gate_dst (N := 3) rfl ?_); refine box_event ?hg (N := 3) ?hd (cs := #[.string y.name, .int .i64 y.kind, .int .i64 y.mode, .int .i64 y.mtime, .int .i64 y.ctime, .int .i64 y.size, .slice y.A y.n y.c, .string y.sub, .string y.target]) (t := 45) ?hr ?_; (case hd => rfl); (case hg => rfl); (case hr => first | (go_simp; done) | (go_simp; rfl)); intro gy hg w2 hbox hb; have hsz := HB1.out.size; have HB2 := Aside0.mk (below_step HB1.out hb); have BY2 := Aside0.mk hbox; have GY : Aside0 (w.heap.size ≤ gy) := ⟨by omega⟩; have BX12 := Aside0.mk (blk_below BX.out hb); clear hbox hb hg hsz))
  have hcx_0 : World.cell? w2 ⟨gx, 0, none⟩ = some (.string x.name) := (blk_cell BX12.out 0).trans rfl
  have hcx_1 : World.cell? w2 ⟨gx, 1, none⟩ = some (.int .i64 x.kind) := (blk_cell BX12.out 1).trans rfl
  have hcx_2 : World.cell? w2 ⟨gx, 2, none⟩ = some (.int .i64 x.mode) := (blk_cell BX12.out 2).trans rfl
  have hcx_3 : World.cell? w2 ⟨gx, 3, none⟩ = some (.int .i64 x.mtime) := (blk_cell BX12.out 3).trans rfl
  have hcx_4 : World.cell? w2 ⟨gx, 4, none⟩ = some (.int .i64 x.ctime) := (blk_cell BX12.out 4).trans rfl
  have hcx_5 : World.cell? w2 ⟨gx, 5, none⟩ = some (.int .i64 x.size) := (blk_cell BX12.out 5).trans rfl
  have hcx_6 : World.cell? w2 ⟨gx, 6, none⟩ = some (.slice x.A x.n x.c) := (blk_cell BX12.out 6).trans rfl
  have hcx_7 : World.cell? w2 ⟨gx, 7, none⟩ = some (.string x.sub) := (blk_cell BX12.out 7).trans rfl
  have hcx_8 : World.cell? w2 ⟨gx, 8, none⟩ = some (.string x.target) := (blk_cell BX12.out 8).trans rfl
  have hcy_0 : World.cell? w2 ⟨gy, 0, none⟩ = some (.string y.name) := (blk_cell BY2.out 0).trans rfl
  have hcy_1 : World.cell? w2 ⟨gy, 1, none⟩ = some (.int .i64 y.kind) := (blk_cell BY2.out 1).trans rfl
  have hcy_2 : World.cell? w2 ⟨gy, 2, none⟩ = some (.int .i64 y.mode) := (blk_cell BY2.out 2).trans rfl
  have hcy_3 : World.cell? w2 ⟨gy, 3, none⟩ = some (.int .i64 y.mtime) := (blk_cell BY2.out 3).trans rfl
  have hcy_4 : World.cell? w2 ⟨gy, 4, none⟩ = some (.int .i64 y.ctime) := (blk_cell BY2.out 4).trans rfl
  have hcy_5 : World.cell? w2 ⟨gy, 5, none⟩ = some (.int .i64 y.size) := (blk_cell BY2.out 5).trans rfl
  have hcy_6 : World.cell? w2 ⟨gy, 6, none⟩ = some (.slice y.A y.n y.c) := (blk_cell BY2.out 6).trans rfl
  have hcy_7 : World.cell? w2 ⟨gy, 7, none⟩ = some (.string y.sub) := (blk_cell BY2.out 7).trans rfl
  have hcy_8 : World.cell? w2 ⟨gy, 8, none⟩ = some (.string y.target) := (blk_cell BY2.out 8).trans rfl
  go_cut [5] (fun v5 wc => v5 = .bool (x.mode != y.mode || (x.mtime != y.mtime || x.ctime != y.ctime)) ∧ Aside0 (Below w.heap.size w wc) ∧ Aside0 (wc.heap[gx]? = some (.cells (node x) 45 (0, 0))) ∧ Aside0 (wc.heap[gy]? = some (.cells (node y) 45 (0, 0))))
  case first =>
    by_cases h1 : x.mode = y.mode
    · by_cases h2 : x.mtime = y.mtime
      · go_wp2_with (fail)
        go_meet
        case rel => exact ⟨by simp [h1, h2], HB2, BX12, BY2⟩
      · go_wp2_with (fail)
        go_meet
        case rel => exact ⟨by simp [h1, h2], HB2, BX12, BY2⟩
    · go_wp2_with (fail)
      go_meet
      case rel => exact ⟨by simp [h1], HB2, BX12, BY2⟩
  case rest =>
    obtain ⟨rfl, HBW, BX, BY⟩ := hcut
    clear HB2 BX12 BY2 hcx_0 hcy_0 hcx_1 hcy_1 hcx_2 hcy_2 hcx_3 hcy_3 hcx_4 hcy_4 hcx_5 hcy_5 hcx_6 hcy_6 hcx_7 hcy_7 hcx_8 hcy_8
    have hcxw_0 : World.cell? wc ⟨gx, 0, none⟩ = some (.string x.name) := (blk_cell BX.out 0).trans rfl
    have hcxw_1 : World.cell? wc ⟨gx, 1, none⟩ = some (.int .i64 x.kind) := (blk_cell BX.out 1).trans rfl
    have hcxw_2 : World.cell? wc ⟨gx, 2, none⟩ = some (.int .i64 x.mode) := (blk_cell BX.out 2).trans rfl
    have hcxw_3 : World.cell? wc ⟨gx, 3, none⟩ = some (.int .i64 x.mtime) := (blk_cell BX.out 3).trans rfl
    have hcxw_4 : World.cell? wc ⟨gx, 4, none⟩ = some (.int .i64 x.ctime) := (blk_cell BX.out 4).trans rfl
    have hcxw_5 : World.cell? wc ⟨gx, 5, none⟩ = some (.int .i64 x.size) := (blk_cell BX.out 5).trans rfl
    have hcxw_6 : World.cell? wc ⟨gx, 6, none⟩ = some (.slice x.A x.n x.c) := (blk_cell BX.out 6).trans rfl
    have hcxw_7 : World.cell? wc ⟨gx, 7, none⟩ = some (.string x.sub) := (blk_cell BX.out 7).trans rfl
    have hcxw_8 : World.cell? wc ⟨gx, 8, none⟩ = some (.string x.target) := (blk_cell BX.out 8).trans rfl
    have hcyw_0 : World.cell? wc ⟨gy, 0, none⟩ = some (.string y.name) := (blk_cell BY.out 0).trans rfl
    have hcyw_1 : World.cell? wc ⟨gy, 1, none⟩ = some (.int .i64 y.kind) := (blk_cell BY.out 1).trans rfl
    have hcyw_2 : World.cell? wc ⟨gy, 2, none⟩ = some (.int .i64 y.mode) := (blk_cell BY.out 2).trans rfl
    have hcyw_3 : World.cell? wc ⟨gy, 3, none⟩ = some (.int .i64 y.mtime) := (blk_cell BY.out 3).trans rfl
    have hcyw_4 : World.cell? wc ⟨gy, 4, none⟩ = some (.int .i64 y.ctime) := (blk_cell BY.out 4).trans rfl
    have hcyw_5 : World.cell? wc ⟨gy, 5, none⟩ = some (.int .i64 y.size) := (blk_cell BY.out 5).trans rfl
    have hcyw_6 : World.cell? wc ⟨gy, 6, none⟩ = some (.slice y.A y.n y.c) := (blk_cell BY.out 6).trans rfl
    have hcyw_7 : World.cell? wc ⟨gy, 7, none⟩ = some (.string y.sub) := (blk_cell BY.out 7).trans rfl
    have hcyw_8 : World.cell? wc ⟨gy, 8, none⟩ = some (.string y.target) := (blk_cell BY.out 8).trans rfl
    by_cases hk : x.kind = y.kind
    · have hk1 : (x.kind == y.kind) = true := beq_iff_eq.mpr hk
      have hk2 : (x.kind != y.kind) = false := bne_eq_false_iff_eq.mpr hk
      have HK := Aside0.mk hk
      clear hk
      have hTK : ∀ T : Bool, (x.mode != y.mode || (x.mtime != y.mtime || x.ctime != y.ctime)) = T → ∀ b : Bool, (x.kind = 2 ∨ (x.size = y.size ∧ x.sub = y.sub ∧ x.target = y.target ∧ x.ids = y.ids)) = (b = true) → kindV x y = if b then (if T then 5 else 0) else 3 := by
        intro T hT b hb
        unfold kindV
        rw [if_neg (by simp [HK.out])]
        have hb' : (¬ (x.kind = 2 ∨ (x.size = y.size ∧ x.sub = y.sub ∧ x.target = y.target ∧ x.ids = y.ids))) = (b = false) := by rw [hb]; cases b <;> simp
        have hT' : (x.mode ≠ y.mode ∨ x.mtime ≠ y.mtime ∨ x.ctime ≠ y.ctime) = (T = true) := by rw [← hT]; simp [bne_iff_ne]
        simp only [hb', hT']
        cases b <;> cases T <;> simp
      have HTK := Aside0.mk hTK
      clear hTK
      generalize hT : (x.mode != y.mode || (x.mtime != y.mtime || x.ctime != y.ctime)) = T
      have HT := Aside0.mk hT
      clear hT
      go_upto_region 4 with (fail)
      have hst : wc.cell? ⟨gx, 0, none⟩ = some (.string x.name) ∧ wc.cell? ⟨gx, 1, none⟩ = some (.int .i64 x.kind) ∧ wc.cell? ⟨gx, 2, none⟩ = some (.int .i64 x.mode) ∧ wc.cell? ⟨gx, 3, none⟩ = some (.int .i64 x.mtime) ∧ wc.cell? ⟨gx, 4, none⟩ = some (.int .i64 x.ctime) ∧ wc.cell? ⟨gx, 5, none⟩ = some (.int .i64 x.size) ∧ wc.cell? ⟨gx, 6, none⟩ = some (.slice x.A x.n x.c) ∧ wc.cell? ⟨gx, 7, none⟩ = some (.string x.sub) ∧ wc.cell? ⟨gx, 8, none⟩ = some (.string x.target) ∧ wc.cell? ⟨gy, 0, none⟩ = some (.string y.name) ∧ wc.cell? ⟨gy, 1, none⟩ = some (.int .i64 y.kind) ∧ wc.cell? ⟨gy, 2, none⟩ = some (.int .i64 y.mode) ∧ wc.cell? ⟨gy, 3, none⟩ = some (.int .i64 y.mtime) ∧ wc.cell? ⟨gy, 4, none⟩ = some (.int .i64 y.ctime) ∧ wc.cell? ⟨gy, 5, none⟩ = some (.int .i64 y.size) ∧ wc.cell? ⟨gy, 6, none⟩ = some (.slice y.A y.n y.c) ∧ wc.cell? ⟨gy, 7, none⟩ = some (.string y.sub) ∧ wc.cell? ⟨gy, 8, none⟩ = some (.string y.target) ∧ Below w.heap.size w wc ∧ wc.heap[gx]? = some (.cells (node x) 45 (0, 0)) ∧ wc.heap[gy]? = some (.cells (node y) 45 (0, 0)) := ki_of HBW.out BX.out BY.out
      by_cases h2 : x.kind = 2
      · have hv := HTK.out T HT.out true (by simp [h2])
        have h2y : y.kind = 2 := by rw [← HK.out]; exact h2
        have hcx : contV x = .agg #[.string (⟨#[]⟩ : ByteArray), .int .i64 2, .int .i64 0, .int .i64 0, .int .i64 0, .int .i64 0, .slice none 0 0, .string (⟨#[]⟩ : ByteArray), .string (⟨#[]⟩ : ByteArray)] := by unfold contV; rw [if_pos h2]
        have hcy : contV y = .agg #[.string (⟨#[]⟩ : ByteArray), .int .i64 2, .int .i64 0, .int .i64 0, .int .i64 0, .int .i64 0, .slice none 0 0, .string (⟨#[]⟩ : ByteArray), .string (⟨#[]⟩ : ByteArray)] := by unfold contV; rw [if_pos h2y]
        have HCX := fun W => content_any x W
        have HCY := fun W => content_any y W
        rw [hcx] at HCX
        rw [hcy] at HCY
        have hsm : node_Same.f 3 ⟨#[]⟩ 2 0 0 0 0 [] ⟨#[]⟩ ⟨#[]⟩ ⟨#[]⟩ 2 0 0 0 0 [] ⟨#[]⟩ ⟨#[]⟩ = some true := by decide +kernel
        have HSM := fun W => node_Same.calls 3 ⟨#[]⟩ 2 0 0 0 0 none 0 [] ⟨#[]⟩ ⟨#[]⟩ ⟨#[]⟩ 2 0 0 0 0 none 0 [] ⟨#[]⟩ ⟨#[]⟩ true W (Kd.C_nil Kd.string W) (Nat.le_refl _) (Kd.C_nil Kd.string W) (Nat.le_refl _) hsm
        simp only [List.length_nil] at HSM
        have HV := Aside0.mk hv
        clear hv hcx hcy hsm h2 h2y hk1 hk2 hcxw_0 hcyw_0 hcxw_1 hcyw_1 hcxw_2 hcyw_2 hcxw_3 hcyw_3 hcxw_4 hcyw_4 hcxw_5 hcyw_5 hcxw_6 hcyw_6 hcxw_7 hcyw_7 hcxw_8 hcyw_8
        go_region_held3 (fun w' => w'.cell? ⟨gx, 0, none⟩ = some (.string x.name) ∧ w'.cell? ⟨gx, 1, none⟩ = some (.int .i64 x.kind) ∧ w'.cell? ⟨gx, 2, none⟩ = some (.int .i64 x.mode) ∧ w'.cell? ⟨gx, 3, none⟩ = some (.int .i64 x.mtime) ∧ w'.cell? ⟨gx, 4, none⟩ = some (.int .i64 x.ctime) ∧ w'.cell? ⟨gx, 5, none⟩ = some (.int .i64 x.size) ∧ w'.cell? ⟨gx, 6, none⟩ = some (.slice x.A x.n x.c) ∧ w'.cell? ⟨gx, 7, none⟩ = some (.string x.sub) ∧ w'.cell? ⟨gx, 8, none⟩ = some (.string x.target) ∧ w'.cell? ⟨gy, 0, none⟩ = some (.string y.name) ∧ w'.cell? ⟨gy, 1, none⟩ = some (.int .i64 y.kind) ∧ w'.cell? ⟨gy, 2, none⟩ = some (.int .i64 y.mode) ∧ w'.cell? ⟨gy, 3, none⟩ = some (.int .i64 y.mtime) ∧ w'.cell? ⟨gy, 4, none⟩ = some (.int .i64 y.ctime) ∧ w'.cell? ⟨gy, 5, none⟩ = some (.int .i64 y.size) ∧ w'.cell? ⟨gy, 6, none⟩ = some (.slice y.A y.n y.c) ∧ w'.cell? ⟨gy, 7, none⟩ = some (.string y.sub) ∧ w'.cell? ⟨gy, 8, none⟩ = some (.string y.target) ∧ Below w.heap.size w w' ∧ w'.heap[gx]? = some (.cells (node x) 45 (0, 0)) ∧ w'.heap[gy]? = some (.cells (node y) 45 (0, 0))) (first | assumption | (exact ki_keep (by assumption) (by assumption)) | (exact ki_drew (by assumption)))
          (first
            | (go_at_call 19; (with_reducible refine (HCX _).mono ?_); rintro _ w' ⟨rfl, hb⟩)
            | (go_at_call 19; (with_reducible refine (HCY _).mono ?_); rintro _ w' ⟨rfl, hb⟩)
            | (go_at_call 18; (with_reducible refine (HSM _).mono ?_); rintro _ w' ⟨rfl, hb⟩))
        cases T
        · go_wp2_with (fail)
          go_ret
          exact ⟨by rw [HV.out]; rfl, (ki_end (by assumption)).1⟩
        · go_wp2_with (fail)
          go_ret
          exact ⟨by rw [HV.out]; rfl, (ki_end (by assumption)).1⟩
      · have hcx : contV x = .agg #[.string (⟨#[]⟩ : ByteArray), .int .i64 x.kind, .int .i64 0, .int .i64 0, .int .i64 0, .int .i64 x.size, .slice x.A x.n x.c, .string x.sub, .string x.target] := by unfold contV; rw [if_neg h2]
        have hcy : contV y = .agg #[.string (⟨#[]⟩ : ByteArray), .int .i64 y.kind, .int .i64 0, .int .i64 0, .int .i64 0, .int .i64 y.size, .slice y.A y.n y.c, .string y.sub, .string y.target] := by unfold contV; rw [if_neg (by rw [← HK.out]; exact h2)]
        have HCX := fun W => content_any x W
        have HCY := fun W => content_any y W
        rw [hcx] at HCX
        rw [hcy] at HCY
        have hlx : x.ids.length = x.n := HX.out.1.1
        have hly : y.ids.length = y.n := HY.out.1.1
        have hsm := same_val x y HK.out (by rw [hlx]; exact HN.out)
        generalize hb : decide (x.size = y.size ∧ x.sub = y.sub ∧ x.target = y.target ∧ x.ids = y.ids) = b at hsm
        have hv := HTK.out T HT.out b (by rw [← hb]; simp [h2])
        have HSM : ∀ W, Below w.heap.size w W → Calls Tryd.prog 18 #[.agg #[.string (⟨#[]⟩ : ByteArray), .int .i64 x.kind, .int .i64 0, .int .i64 0, .int .i64 0, .int .i64 x.size, .slice x.A x.n x.c, .string x.sub, .string x.target], .agg #[.string (⟨#[]⟩ : ByteArray), .int .i64 y.kind, .int .i64 0, .int .i64 0, .int .i64 0, .int .i64 y.size, .slice y.A y.n y.c, .string y.sub, .string y.target]] W fun e w' => e = .returned (.bool b) ∧ Below W.heap.size W w' := fun W hW => by
          have hxr := HX.out.below hW
          have hyr := HY.out.below hW
          have h := node_Same.calls (x.ids.length + 1) ⟨#[]⟩ x.kind 0 0 0 x.size x.A x.c x.ids x.sub x.target ⟨#[]⟩ y.kind 0 0 0 y.size y.A y.c y.ids y.sub y.target b W (by rw [hlx]; exact hxr.1) (by rw [hlx]; exact hxr.2) (by rw [hly]; exact hyr.1) (by rw [hly]; exact hyr.2) hsm
          rw [hlx, hly] at h
          exact h
        have HV := Aside0.mk hv
        clear hv hcx hcy hsm h2 hk1 hk2 hb hlx hly hcxw_0 hcyw_0 hcxw_1 hcyw_1 hcxw_2 hcyw_2 hcxw_3 hcyw_3 hcxw_4 hcyw_4 hcxw_5 hcyw_5 hcxw_6 hcyw_6 hcxw_7 hcyw_7 hcxw_8 hcyw_8
        go_region_held3 (fun w' => w'.cell? ⟨gx, 0, none⟩ = some (.string x.name) ∧ w'.cell? ⟨gx, 1, none⟩ = some (.int .i64 x.kind) ∧ w'.cell? ⟨gx, 2, none⟩ = some (.int .i64 x.mode) ∧ w'.cell? ⟨gx, 3, none⟩ = some (.int .i64 x.mtime) ∧ w'.cell? ⟨gx, 4, none⟩ = some (.int .i64 x.ctime) ∧ w'.cell? ⟨gx, 5, none⟩ = some (.int .i64 x.size) ∧ w'.cell? ⟨gx, 6, none⟩ = some (.slice x.A x.n x.c) ∧ w'.cell? ⟨gx, 7, none⟩ = some (.string x.sub) ∧ w'.cell? ⟨gx, 8, none⟩ = some (.string x.target) ∧ w'.cell? ⟨gy, 0, none⟩ = some (.string y.name) ∧ w'.cell? ⟨gy, 1, none⟩ = some (.int .i64 y.kind) ∧ w'.cell? ⟨gy, 2, none⟩ = some (.int .i64 y.mode) ∧ w'.cell? ⟨gy, 3, none⟩ = some (.int .i64 y.mtime) ∧ w'.cell? ⟨gy, 4, none⟩ = some (.int .i64 y.ctime) ∧ w'.cell? ⟨gy, 5, none⟩ = some (.int .i64 y.size) ∧ w'.cell? ⟨gy, 6, none⟩ = some (.slice y.A y.n y.c) ∧ w'.cell? ⟨gy, 7, none⟩ = some (.string y.sub) ∧ w'.cell? ⟨gy, 8, none⟩ = some (.string y.target) ∧ Below w.heap.size w w' ∧ w'.heap[gx]? = some (.cells (node x) 45 (0, 0)) ∧ w'.heap[gy]? = some (.cells (node y) 45 (0, 0))) (first | assumption | (exact ki_keep (by assumption) (by assumption)) | (exact ki_drew (by assumption)))
          (first
            | (go_at_call 19; (with_reducible refine (HCX _).mono ?_); rintro _ w' ⟨rfl, hb⟩)
            | (go_at_call 19; (with_reducible refine (HCY _).mono ?_); rintro _ w' ⟨rfl, hb⟩)
            | (go_at_call 18; (with_reducible refine (HSM _ ?_).mono ?_); (exact (ki_end (by assumption)).1); rintro _ w' ⟨rfl, hb⟩))
        cases b <;> cases T
        all_goals
          go_wp2_with (fail)
          go_ret
          exact ⟨by rw [HV.out]; rfl, (ki_end (by assumption)).1⟩
    · have hk1 : (x.kind == y.kind) = false := beq_eq_false_iff_ne.mpr hk
      have hk2 : (x.kind != y.kind) = true := bne_iff_ne.mpr hk
      have hv : kindV x y = 4 := by unfold kindV; rw [if_pos hk]
      have HV := Aside0.mk hv
      clear hv hk
      go_wp2_with (fail)
      go_ret
      exact ⟨by rw [HV.out]; rfl, HBW.out⟩
end Go.Proofs.YtkbofkpkemfedaaDoor.Q
