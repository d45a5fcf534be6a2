/- Of the proof about maint: several texts, joined. -/
import Derived.Test.YtpdkgpmcmebefaaGreatDoorML
import Derived.Test.YtpdkgpmcmebefaaGreatDoorMA
set_option maxHeartbeats 16000000
set_option maxRecDepth 100000
set_option linter.unusedVariables false
set_option linter.unusedSimpArgs false
namespace Go.Proofs.YtpdkgpmcmebefaaGreatDoor.Q
open Go.RowKit Go.Proofs.YtpdkgpmcmebefaaGreatDoorW.PrintWords Go.Proofs.YtpdkgpmcmebefaaGreatDoorW.PrintLast Go.Proofs.YtpdkgpmcmebefaaGreatDoorW.PrintMore
theorem wrap64_nat {i : Nat} (h : i < 100000) : wrap64 ((i : Int) + 1) = ((i + 1 : Nat) : Int) := by unfold wrap64; omega
theorem rd9_get {l : List ByteArray} {i : Nat} (h : i < l.length) : rdOf ByteArray.empty l (i : Int) = l[i] := by unfold rdOf; simp [List.getD_eq_getElem?_getD, List.getElem?_eq_getElem h]
theorem cons_dec {α : Type} [DecidableEq α] (x y : α) (a b : List α) : decide (x :: a = y :: b) = (decide (x = y) && decide (a = b)) := by simp
theorem same_l (a b : List ByteArray) (hl : a.length ≤ 10000) (hb : a.length = b.length) : ∀ (d i : Nat), i + d = a.length → garretbook_SameTexts.l0 (d + 1) a b (i : Int) = some (decide (a.drop i = b.drop i))
 | 0, i, h => by
  rw [garretbook_SameTexts.l0, if_neg (by omega), List.drop_eq_nil_of_le (by omega), List.drop_eq_nil_of_le (by omega)]
  simp
 | d + 1, i, h => by
  have hi : i < a.length := by omega
  have hi2 : i < b.length := by omega
  rw [garretbook_SameTexts.l0, if_pos (by omega), if_pos (by omega), if_pos (by omega), rd9_get hi, rd9_get hi2, wrap64_nat (by omega), same_l a b hl hb d (i + 1) (by omega), show a.drop i = a[i] :: a.drop (i + 1) from List.drop_eq_getElem_cons hi, show b.drop i = b[i] :: b.drop (i + 1) from List.drop_eq_getElem_cons hi2, cons_dec]
  by_cases he : a[i].toList = b[i].toList
  ·rw [if_pos he]
   simp [eq_of_toList he]
  ·rw [if_neg he]
   have : a[i] ≠ b[i] := fun e => he (by rw [e])
   simp [this]
theorem same_f (a b : List ByteArray) (hl : a.length ≤ 10000) : garretbook_SameTexts.f (a.length + 1) a b = some (decide (a = b)) := by
 unfold garretbook_SameTexts.f
 by_cases h : a.length = b.length
 ·rw [if_pos (by omega)]
  have := same_l a b hl h a.length 0 (by omega)
  simpa using this
 ·rw [if_neg (by omega)]
  have : a ≠ b := fun e => h (by rw [e])
  simp [this]
theorem same_calls (A B : Option Addr) (ca cb : Nat) (a b : List ByteArray) (w : World) (ha : Kd.C Kd.string w A a.length a) (hca : a.length ≤ ca) (hb : Kd.C Kd.string w B b.length b) (hcb : b.length ≤ cb) (hl : a.length ≤ 10000) :
  Calls Tryz.prog 9 #[.slice A a.length ca, .slice B b.length cb] w fun e w' => e = .returned (.bool (decide (a = b))) ∧ Below w.heap.size w w' :=
 (garretbook_SameTexts.calls (a.length + 1) A ca a B cb b _ w ha hca hb hcb (same_f a b hl)).mono fun _ _ h => ⟨h.1, h.2.below⟩
theorem cut_cap {P : Program} (t e : TypeId) (kh : IntKind) {i : TypeInfo} (ht : P.underlying t = some (.slice e)) (hi : P.info? e = some i) (A : Option Addr) (n c : Nat) (j : Int) (h0 : 0 ≤ j) (hm : j ≤ c) :
  ∀ W : World, (Instr.slice t (.slice A n c) none (some (.int kh j)) none).run P W = .ok (.slice A j.toNat c) W := by
 intro W
 have hel : P.elem t = e := by simp [Program.elem, ht]
 have hu : P.underlying t = some (.slice (P.elem t)) := by rw [hel]; exact ht
 have ha : (A.map fun x => x.add 0) = A := by cases A <;> simp [Addr.add]
 rw [run_slice_h W t A n c hu kh j h0 (by omega), hel]
 simp [sizeOf, typeInfo, hi, sliced, Result.andThen, ha]
def mark : ByteArray := ⟨#[109, 97, 114, 107]⟩
theorem C_firsts {w : World} {A : Option Addr} {a b : List ByteArray} (h : Kd.C Kd.string w A (a ++ b).length (a ++ b)) : Kd.C Kd.string w A a.length a := by
 obtain ⟨h1, h2, h3⟩ := h
 rw [List.length_append] at h2 h3
 refine ⟨rfl, by omega, fun hn => ?_⟩
 obtain ⟨ad, e, hc⟩ := h3 (by omega)
 refine ⟨ad, e, fun j p hj => hc j p ?_⟩
 rw [List.getElem?_append_left (List.getElem?_eq_some_iff.1 hj).1]
 exact hj
theorem lend_calls (A : Option Addr) (c : Nat) (l : List ByteArray) (w : World) (hr : Kd.C Kd.string w A l.length l) (hl : l.length ≤ 10000) :
  Calls Tryz.prog 5 #[.slice A l.length c] w fun e w' => ∃ A' c', e = .returned (.slice A' l.length c') ∧ l.length + 1 ≤ c' ∧ Kd.C Kd.string w' A' (l ++ [mark]).length (l ++ [mark]) ∧ Below w.heap.size w w' := by
 have HR := Sd.mk hr
 clear hr
 have HB := Sd.mk (Below.refl w.heap.size w)
 obtain ⟨i0, hi0, _, _, _⟩ := info_parts info9
 go_enter Tryz.func5, Tryz.ntmps5
 go_upto_region 3 with (first | ((with_reducible refine gate_dst (N := 4) rfl ?_); refine Kd.R_lit Kd.string _ 9 ?hg (N := 4) ?hd (xs := ([] : List ByteArray)) (inner := []) (ok := fun _ => True) (okp := fun _ => True) ?hr ?hp (fun _ hk => hk) trivial (Below.refl _ _) (Nat.le_refl _) (by simp) ?_; (case hd => rfl); (case hg => rfl); (case hr => (go_simp; done)); (case hp => exact (Reps.none _ _)); intro v4 w6 ho7 hb hg_ hnew_; clear hg_ hnew_; have HO4 := Sd.mk ho7; have HB4 := Sd.mk hb; clear hb ho7) | ((with_reducible refine gate_builtin (b := .append) (xs := #[.tmp 4, .tmp 5]) rfl ?_); at_builtin; refine Kd.R_append_rows Kd.string (w0 := w) w.heap.size ?hg (.tmp 4) (.tmp 5) 22 9 (.string ⟨#[]⟩) 16 ?ho Tryz.underlying22 info9 rfl (by decide) (by omega) v4 [] l A l.length c (fun _ => True) (fun _ => False) ?hs ?hx ?aO ?aR (fun _ _ h => h) (fun _ h => h.elim) ?aF ?aB ?aS ?aL ?_; (case hg => rfl); (case ho => rfl); (case hs => rfl); (case hx => rfl); (case aR => exact Kd.C_below HR.out HB4.out); (case aB => exact HB4.out); (case aF => exact (fun _ _ => trivial)); (case aO => exact HO4.out); (case aS => exact HB4.out.size); (case aL => simp; omega); intro v6 w8 ho hb hg hat; have HO6 := Sd.mk ho; have HB6 := Sd.mk hb; clear ho hb hg hat) | ((with_reducible refine gate_builtin (b := .append) (xs := #[.tmp 7, .tmp 8]) rfl ?_); at_builtin; refine Kd.R_append Kd.string (w0 := w) w.heap.size ?hg (.tmp 7) (.tmp 8) 22 9 (.string ⟨#[]⟩) 16 ?ho Tryz.underlying22 info9 rfl (by decide) (by omega) v6 ([] ++ l) mark [.string mark] (fun _ => True) (fun _ => False) ?hs ?hx ?aP (fun _ hk => hk.elim) ?aF ?aO ?aB ?aS ?aL ?_; (case hg => rfl); (case ho => rfl); (case hs => rfl); (case hx => rfl); (case aP => exact rfl); (case aB => exact HB6.out); (case aF => exact (fun _ _ => trivial)); (case aO => exact HO6.out); (case aS => exact HB6.out.size); (case aL => simp; omega); intro v9 w9 ho hb hg hat; have HO9 := Sd.mk ho; have HB9 := Sd.mk hb; clear ho hb hg hat))
 have hO := HO9.out
 rw [List.nil_append] at hO
 obtain ⟨A9, c9, hv9, hc9, hC9⟩ := Kd.R_reads hO
 obtain ⟨n9, hn9⟩ : ∃ n9, n9 = (l ++ [mark]).length := ⟨_, rfl⟩
 have hn9' : n9 = l.length + 1 := by rw [hn9]; simp
 have HC9 := Sd.mk hC9
 rw [← hn9] at hv9 hc9
 subst hv9
 have hcut := cut_to (P := Tryz.prog) 22 9 .i64 Tryz.underlying22 hi0 A9 n9 c9 (l.length : Int) (by omega) (by omega) hc9
 rw [Int.toNat_natCast] at hcut
 have HN := Sd.mk hn9'
 have HCC := Sd.mk hc9
 clear hO hC9 hn9 hn9' hc9 hi0
 go_wp2_with (fail)
 go_ret
 exact ⟨A9, c9, rfl, by have := HCC.out; have := HN.out; omega, HC9.out, HB9.out⟩
theorem kept_calls (A A1 : Option Addr) (c c1 : Nat) (l : List ByteArray) (w : World) (hr : Kd.C Kd.string w A (l ++ [mark]).length (l ++ [mark])) (hc : l.length + 1 ≤ c) (hr1 : Kd.C Kd.string w A1 l.length l) (hc1 : l.length ≤ c1) (hl : l.length ≤ 10000) :
  Calls Tryz.prog 10 #[.slice A l.length c, .slice A1 l.length c1] w fun e w' => e = .returned (.bool true) ∧ Below w.heap.size w w' := by
 obtain ⟨i0, hi0, _, _, _⟩ := info_parts info9
 have hcut := cut_cap (P := Tryz.prog) 22 9 .i64 Tryz.underlying22 hi0 A l.length c ((l.length + 1 : Nat) : Int) (by omega) (by omega)
 rw [Int.toNat_natCast] at hcut
 obtain ⟨ad, hA, hx⟩ := Kd.at_string hr (l.length : Int) (by omega) (by simp; omega)
 have hd : rdOf ByteArray.empty (l ++ [mark]) (l.length : Int) = mark := by unfold rdOf; simp
 rw [hd, Int.toNat_natCast] at hx
 subst hA
 have HR := Sd.mk hr
 have HR1 := Sd.mk hr1
 have hml : l.length < maxLen := by unfold maxLen; omega
 have hwr : IntKind.i64.wrap ((l.length : Int) + 1) = ((l.length + 1 : Nat) : Int) := by rw [IntKind.wrap_i64]; omega
 unfold mark at hx
 clear hr hr1 hd hi0
 go_enter Tryz.func10, Tryz.ntmps10
 go_wp2_with (fail)
 refine (same_calls (some ad) A1 c c1 l l w (C_firsts HR.out) (by omega) HR1.out hc1 hl).mono ?_
 rintro e w1 ⟨rfl, hB⟩
 rw [decide_eq_true (rfl : l = l)]
 have hx1 := pw_cell_below hB hx
 have HB := Sd.mk hB
 clear hB hx
 go_wp2_with (fail)
 go_ret
 exact ⟨rfl, HB.out⟩
theorem of_calls (a0 a1 a2 a3 a4 a5 a6 : Int) (A : Option Addr) (n c : Nat) (w : World) :
  Calls Tryz.prog 8 #[.agg #[.int .i64 a0, .int .i64 a1, .int .i64 a2, .int .i64 a3, .int .i64 a4, .int .i64 a5, .int .i64 a6, .slice A n c]] w fun e w' => e = .returned (.agg #[.int .i64 a0, .int .i64 a1, .int .i64 a2, .int .i64 a3, .int .i64 a4, .int .i64 a5, .int .i64 a6, .slice A n c]) ∧ Below w.heap.size w w' := by
 have hu24 := Tryz.underlying24
 have hu34 := Tryz.underlying34
 have HB : Sd (Below w.heap.size w w) := ⟨Below.refl _ _⟩
 go_enter Tryz.func8, Tryz.ntmps8
 go_wp2_with (first | ((with_reducible refine gate_dst (N := 1) rfl ?_); refine box_event ?hg (N := 1) ?hd (cs := #[.int .i64 a0, .int .i64 a1, .int .i64 a2, .int .i64 a3, .int .i64 a4, .int .i64 a5, .int .i64 a6, .slice A n c]) (t := 24) ?hr ?_; (case hd => rfl); (case hg => rfl); (case hr => (go_simp; done)); intro g1 hg w3 hbox hb; have n2_ := Sd.mk (below_step (by repeat ((with_reducible (exact HB.out)))) hb); have BK1 := Sd.mk hbox; clear HB; have HB := n2_; clear n2_ hb hbox hg) | ((with_reducible refine gate_dst (N := 2) rfl ?_); refine box_event ?hg (N := 2) ?hd (cs := #[.int .i64 0, .int .i64 0, .int .i64 0, .int .i64 0, .int .i64 0, .int .i64 0, .int .i64 0, .slice none 0 0]) (t := 34) ?hr ?_; (case hd => rfl); (case hg => rfl); (case hr => (go_simp; done)); intro g2 hg w4 hbox hb; have n1_ := Sd.mk (blk_below (g := g1) (o := .cells #[.int .i64 a0, .int .i64 a1, .int .i64 a2, .int .i64 a3, .int .i64 a4, .int .i64 a5, .int .i64 a6, .slice A n c] 24 (0, 0)) (by (with_reducible repeat (fail)); exact BK1.out) hb); have GE := Sd.mk ((by rw [hg]; exact (below_size (by repeat ((with_reducible (exact HB.out))))) : w.heap.size ≤ g2)); have NB := Sd.mk ((by rw [hg]; exact Nat.ne_of_lt (blk_lt (g := g1) (o := .cells #[.int .i64 a0, .int .i64 a1, .int .i64 a2, .int .i64 a3, .int .i64 a4, .int .i64 a5, .int .i64 a6, .slice A n c] 24 (0, 0)) (by (with_reducible repeat (fail)); exact BK1.out)) : g1 ≠ g2)); have n2_ := Sd.mk (below_step (by repeat ((with_reducible (exact HB.out)))) hb); have BK2 := Sd.mk hbox; clear HB BK1; have BK1 := n1_; have HB := n2_; clear n1_ n2_ hb hbox hg; have hn1 := NB.out; have hn2 := Ne.symm NB.out; have hx0 : w4.cell? ⟨g1, 0, none⟩ = some (.int .i64 a0) := (blk_cell BK1.out 0).trans rfl; have hf0 := blk_frozen BK1.out 0; have hx1 : w4.cell? ⟨g1, 1, none⟩ = some (.int .i64 a1) := (blk_cell BK1.out 1).trans rfl; have hf1 := blk_frozen BK1.out 1; have hx2 : w4.cell? ⟨g1, 2, none⟩ = some (.int .i64 a2) := (blk_cell BK1.out 2).trans rfl; have hf2 := blk_frozen BK1.out 2; have hx3 : w4.cell? ⟨g1, 3, none⟩ = some (.int .i64 a3) := (blk_cell BK1.out 3).trans rfl; have hf3 := blk_frozen BK1.out 3; have hx4 : w4.cell? ⟨g1, 4, none⟩ = some (.int .i64 a4) := (blk_cell BK1.out 4).trans rfl; have hf4 := blk_frozen BK1.out 4; have hx5 : w4.cell? ⟨g1, 5, none⟩ = some (.int .i64 a5) := (blk_cell BK1.out 5).trans rfl; have hf5 := blk_frozen BK1.out 5; have hx6 : w4.cell? ⟨g1, 6, none⟩ = some (.int .i64 a6) := (blk_cell BK1.out 6).trans rfl; have hf6 := blk_frozen BK1.out 6; have hx7 : w4.cell? ⟨g1, 7, none⟩ = some (.slice A n c) := (blk_cell BK1.out 7).trans rfl; have hf7 := blk_frozen BK1.out 7; have hy0 : w4.cell? ⟨g2, 0, none⟩ = some (.int .i64 0) := (blk_cell BK2.out 0).trans rfl; have he0 := blk_frozen BK2.out 0; have hy1 : w4.cell? ⟨g2, 1, none⟩ = some (.int .i64 0) := (blk_cell BK2.out 1).trans rfl; have he1 := blk_frozen BK2.out 1; have hy2 : w4.cell? ⟨g2, 2, none⟩ = some (.int .i64 0) := (blk_cell BK2.out 2).trans rfl; have he2 := blk_frozen BK2.out 2; have hy3 : w4.cell? ⟨g2, 3, none⟩ = some (.int .i64 0) := (blk_cell BK2.out 3).trans rfl; have he3 := blk_frozen BK2.out 3; have hy4 : w4.cell? ⟨g2, 4, none⟩ = some (.int .i64 0) := (blk_cell BK2.out 4).trans rfl; have he4 := blk_frozen BK2.out 4; have hy5 : w4.cell? ⟨g2, 5, none⟩ = some (.int .i64 0) := (blk_cell BK2.out 5).trans rfl; have he5 := blk_frozen BK2.out 5; have hy6 : w4.cell? ⟨g2, 6, none⟩ = some (.int .i64 0) := (blk_cell BK2.out 6).trans rfl; have he6 := blk_frozen BK2.out 6; have hy7 : w4.cell? ⟨g2, 7, none⟩ = some (.slice none 0 0) := (blk_cell BK2.out 7).trans rfl; have he7 := blk_frozen BK2.out 7))
 refine bodyPost_ret (results_cell_row rfl _ _ g2 34 #[.int .i64 a0, .int .i64 a1, .int .i64 a2, .int .i64 a3, .int .i64 a4, .int .i64 a5, .int .i64 a6, .slice A n c] (0, 0) _ rfl (by (with_reducible repeat (fail)); refine blk_put (cs := #[.int .i64 a0, .int .i64 a1, .int .i64 a2, .int .i64 a3, .int .i64 a4, .int .i64 a5, .int .i64 a6, .slice none 0 0]) ?_ 7 _ rfl; (with_reducible repeat (fail)); refine blk_put (cs := #[.int .i64 a0, .int .i64 a1, .int .i64 a2, .int .i64 a3, .int .i64 a4, .int .i64 a5, .int .i64 0, .slice none 0 0]) ?_ 6 _ rfl; (with_reducible repeat (fail)); refine blk_put (cs := #[.int .i64 a0, .int .i64 a1, .int .i64 a2, .int .i64 a3, .int .i64 a4, .int .i64 0, .int .i64 0, .slice none 0 0]) ?_ 5 _ rfl; (with_reducible repeat (fail)); refine blk_put (cs := #[.int .i64 a0, .int .i64 a1, .int .i64 a2, .int .i64 a3, .int .i64 0, .int .i64 0, .int .i64 0, .slice none 0 0]) ?_ 4 _ rfl; (with_reducible repeat (fail)); refine blk_put (cs := #[.int .i64 a0, .int .i64 a1, .int .i64 a2, .int .i64 0, .int .i64 0, .int .i64 0, .int .i64 0, .slice none 0 0]) ?_ 3 _ rfl; (with_reducible repeat (fail)); refine blk_put (cs := #[.int .i64 a0, .int .i64 a1, .int .i64 0, .int .i64 0, .int .i64 0, .int .i64 0, .int .i64 0, .slice none 0 0]) ?_ 2 _ rfl; (with_reducible repeat (fail)); refine blk_put (cs := #[.int .i64 a0, .int .i64 0, .int .i64 0, .int .i64 0, .int .i64 0, .int .i64 0, .int .i64 0, .slice none 0 0]) ?_ 1 _ rfl; (with_reducible repeat (fail)); refine blk_put (cs := #[.int .i64 0, .int .i64 0, .int .i64 0, .int .i64 0, .int .i64 0, .int .i64 0, .int .i64 0, .slice none 0 0]) ?_ 0 _ rfl; (with_reducible repeat (fail)); exact BK2.out) Tryz.underlying34 rfl (by kernel_rfl)) rfl ?_
 exact ⟨rfl, by repeat ((with_reducible first | exact HB.out | refine below_set ?_ GE.out))⟩
def sA : ByteArray := ⟨#[97]⟩
def sB : ByteArray := ⟨#[98]⟩
def sC : ByteArray := ⟨#[99]⟩
def zero32 : ByteArray := ⟨#[0, 0, 0, 0, 0, 0, 0, 0, 0, 0, 0, 0, 0, 0, 0, 0, 0, 0, 0, 0, 0, 0, 0, 0, 0, 0, 0, 0, 0, 0, 0, 0]⟩
def sn (i : Nat) : S28 := ⟨(i : Int), ⟨#[104]⟩, [], [], zero32, ⟨#[]⟩⟩
def polW : Pol := ⟨1, 0, 0, 0, 0, 0, 0, []⟩
theorem ex_plan : ∀ k, r28_Plan.f (k + 60) 1 0 0 0 0 0 0 [] [sC, sB, sA] [sn 0, sn 1, sn 2] = some ([sB, sC], 0) := by
 intro k
 kernel_rfl
theorem info28 : (Tryz.prog.info? 28).map (fun i => (i.zero, i.size, i.bytes)) = some (some (.agg #[.int .i64 0, .string ⟨#[]⟩, .slice none 0 0, .slice none 0 0, .string ⟨#[]⟩, .string ⟨#[]⟩]), 6, 104) := by kernel_rfl
def cs32 : Array Value := madeCells (Value.int .u8 0).cells 32
theorem make32 (W : World) : (Instr.makeSlice 38 (.int .i64 32) (.int .i64 32)).run Tryz.prog W = .ok (.slice (some ⟨W.heap.size, 0, none⟩) 32 32) (W.alloc (.cells cs32 5)) := by
 obtain ⟨i, hi, hz⟩ := Option.map_eq_some_iff.1 info5
 simp only [Prod.mk.injEq] at hz
 have h := run_makeSlice (P := Tryz.prog) W 38 5 i (.int .u8 0) Tryz.underlying38 hi hz.1 .i64 .i64 32 32 (by decide) (by decide) (by rw [hz.2.1]; decide) (by rw [hz.2.2]; decide) (by decide)
 rw [hz.2.1] at h
 exact h
theorem conv32 (W : World) : (convert 38 9 (.slice (some ⟨W.heap.size, 0, none⟩) 32 32)).run Tryz.prog (W.alloc (.cells cs32 5)) = .ok (.string zero32) (W.alloc (.cells cs32 5)) := by
 have h := run_convert_bytes_back (P := Tryz.prog) (W.alloc (.cells cs32 5)) 38 9 5 ⟨W.heap.size, 0, none⟩ 32 (List.replicate 32 0) Tryz.underlying38 Tryz.underlying5 Tryz.underlying9 (fun j hj => by
  rw [List.length_replicate] at hj
  have ea : (⟨W.heap.size, 0, none⟩ : Addr).add j = ⟨W.heap.size, j, none⟩ := by simp [Addr.add]; omega
  rw [ea, blk_cell (MapKept.heap_alloc W _).1]
  have e : cs32.toList = List.replicate 32 (.int .u8 0) := by kernel_rfl
  rw [← Array.getElem?_toList, e, List.getElem?_replicate, if_pos hj, List.getElem_replicate]
  rfl)
 exact h
theorem alloc_size1 (W : World) (o : Obj) : (W.alloc o).heap.size = W.heap.size + 1 := by
 unfold World.alloc
 simp
theorem litC (W : World) (l : List ByteArray) (hl : l.length ≤ 1000) : Kd.C Kd.string (W.alloc (.cells (l.map Value.string).toArray 9)) (some ⟨W.heap.size, 0, none⟩) l.length l := by
 refine ⟨rfl, by omega, fun _ => ⟨_, rfl, fun j p hj => ⟨[.string p], rfl, rfl, fun i u hu => ?_⟩⟩⟩
 match i, hu with
 | 0, hu =>
  simp only [List.getElem?_cons_zero, Option.some.injEq] at hu
  subst hu
  have ea : (⟨W.heap.size, 0, none⟩ : Addr).add (j * Kd.string.sz + 0) = ⟨W.heap.size, j, none⟩ := by
   have : Kd.string.sz = 1 := rfl
   rw [this]
   simp [Addr.add]
   omega
  rw [ea, blk_cell (MapKept.heap_alloc W _).1]
  simp [hj]
theorem snW_in : InL [sn 0, sn 1, sn 2] := by
 refine ⟨by simp, fun x hx => ?_⟩
 simp only [List.mem_cons, List.not_mem_nil, or_false] at hx
 rcases hx with rfl | rfl | rfl
 all_goals exact ⟨by simp [sn], by simp [sn], (by decide), by simp [sn], by simp [sn]⟩
theorem ex_out {out : List ByteArray} (h : PlanL polW [sC, sB, sA] [sn 0, sn 1, sn 2] out) : out = [sB, sC] ∧ planC polW [sC, sB, sA] [sn 0, sn 1, sn 2] = 0 := by
 obtain ⟨K, hK⟩ := plan_same polW _ _ snW_in (by simp [polW]) (by simp [polW]) out h
 have h1 : r28_Plan.f (K + 60) polW.last polW.hour polW.day polW.week polW.month polW.year polW.within polW.tags [sC, sB, sA] [sn 0, sn 1, sn 2] = some (out, planC polW [sC, sB, sA] [sn 0, sn 1, sn 2]) := hK (K + 60) (by omega)
 have h2 := ex_plan K
 have h3 : r28_Plan.f (K + 60) polW.last polW.hour polW.day polW.week polW.month polW.year polW.within polW.tags [sC, sB, sA] [sn 0, sn 1, sn 2] = some ([sB, sC], 0) := h2
 rw [h3] at h1
 injection h1 with h1
 injection h1 with h1 h4
 exact ⟨h1.symm, h4.symm⟩
theorem works_calls (w : World) (hT : MonthT w) : Calls Tryz.prog 4 #[] w fun e w' => e = .returned (.bool true) ∧ Below w.heap.size w w' := by
 have HT := Sd.mk hT
 clear hT
 have hu24 := Tryz.underlying24
 have hu28 := Tryz.underlying28
 have hmk := make32
 have hcv := conv32
 have HB := Sd.mk (Below.refl w.heap.size w)
 go_enter Tryz.func4, Tryz.ntmps4
 go_wp2_with (fail)
 go_loopw [1, 2, 5] (fun v1 v2 v5 wj => ∃ j : Nat, j ≤ 3 ∧ v5 = .int .i64 j ∧ Sd (Kd.R k28 28 wj w.heap.size (fun _ => True) v1 ((List.range j).map sn)) ∧ Sd (Below w.heap.size w wj)) (fun _ _ v5 _ => 3 - (intOf v5).toNat)
 case atStart => exact ⟨0, by omega, rfl, ⟨Kd.R_nil k28 28 w w.heap.size _⟩, HB⟩
 case round =>
  obtain ⟨j, hj, rfl, HRj, HBj⟩ := hrel
  by_cases hjl : j < 3
  ·have HTK : Sd ((List.range (j + 1)).map sn = (List.range j).map sn ++ [sn j]) := ⟨by rw [List.range_succ]; simp⟩
   have hbb : Sd (Below w.heap.size w (wr.alloc (.cells cs32 5))) := ⟨below_alloc HBj.out _⟩
   have hRR : Sd (Kd.R k28 28 (wr.alloc (.cells cs32 5)) w.heap.size (fun _ => True) u1 ((List.range j).map sn)) := ⟨Kd.R_alloc HRj.out _⟩
   have HSZ : Sd ((wr.alloc (.cells cs32 5)).heap.size = wr.heap.size + 1) := ⟨alloc_size1 _ _⟩
   have hj3 : (j : Int) < 3 := by omega
   go_wp2_with (((with_reducible refine gate_builtin (b := .append) (xs := #[.tmp 8, .tmp 13]) rfl ?_); at_builtin; refine Kd.R_append k28 (w0 := w) w.heap.size ?hg (.tmp 8) (.tmp 13) 25 28 (.agg #[.int .i64 0, .string ⟨#[]⟩, .slice none 0 0, .slice none 0 0, .string ⟨#[]⟩, .string ⟨#[]⟩]) 104 ?ho Tryz.underlying25 info28 rfl (by decide) (by omega) u1 ((List.range j).map sn) (sn j) [.int .i64 (j : Int), .string ⟨#[104]⟩, .slice none 0 0, .slice none 0 0, .string zero32, .string ⟨#[]⟩] (fun _ => True) (fun _ => False) ?hs ?hx ?aP (fun _ hk => hk.elim) (fun _ _ => trivial) ?aO ?aB ?aS ?aL ?_; (case hg => rfl); (case ho => rfl); (case hs => rfl); (case hx => rw [HSZ.out]; rfl); (case aP => exact k28_mkM _ _ _ (sn j) (Kd.R_nil Kd.string 9 _ _ _) (Kd.R_nil Kd.string 9 _ _ _)); (case aB => exact hbb.out); (case aO => exact hRR.out); (case aS => exact hbb.out.size); (case aL => rw [List.length_map, List.length_range]; omega); intro v5 w5 ho hb hg hat; have HR5 := Sd.mk ho; have HB5 := Sd.mk hb; clear ho hb hg hat))
   go_roundw
   case rel => exact ⟨j + 1, hjl, by go_num, ⟨by rw [HTK.out]; exact HR5.out⟩, HB5⟩
   case measure => (simp [intOf]; omega)
  ·obtain rfl : j = 3 := by omega
   have HRf := HRj.out
   have e3 : (List.range 3).map sn = [sn 0, sn 1, sn 2] := rfl
   rw [e3] at HRf
   obtain ⟨A, c, rfl, hc, hC⟩ := Kd.R_reads HRf
   have HC := Sd.mk hC
   have HL0 := Sd.mk (litC wr [sC, sB, sA] (by simp))
   have HBL : Sd (Below wr.heap.size wr (wr.alloc (.cells #[.string ⟨#[99]⟩, .string ⟨#[98]⟩, .string ⟨#[97]⟩] 9))) := ⟨below_alloc (Below.refl _ _) _⟩
   have HCC := Sd.mk hc
   clear hC hc HRf e3 HRj hjl hj hmk hcv
   simp only [List.length_cons, List.length_nil] at *
   go_upto_region 7 with (fail)
   go_wp2_with (fail)
   refine (plan_calls polW none A (some ⟨wr.heap.size, 0, none⟩) 0 c 3 [sn 0, sn 1, sn 2] [sC, sB, sA] _ (Kd.C_below HC.out HBL.out) ((HT.out.below HBj.out).below HBL.out) (Kd.C_nil Kd.string _) HL0.out snW_in (by simp [polW]) (by simp [polW])).mono ?_
   rintro e w6 ⟨v, out, rfl, hR, hB, hPL⟩
   obtain ⟨rfl, hpc⟩ := ex_out hPL
   rw [hpc]
   obtain ⟨Ao, co, rfl, hco, hCo⟩ := Kd.R_reads hR
   have HCO := Sd.mk hCo
   have HCOO := Sd.mk hco
   have HB6 := Sd.mk (below_step (below_step HBj.out HBL.out) hB)
   have HL6 := Sd.mk (litC w6 [sB, sC] (by simp))
   have HBL6 : Sd (Below w6.heap.size w6 (w6.alloc (.cells #[.string ⟨#[98]⟩, .string ⟨#[99]⟩] 9))) := ⟨below_alloc (Below.refl _ _) _⟩
   clear hR hB hPL hpc hco hCo
   go_wp2_with (fail)
   refine (same_calls Ao (some ⟨w6.heap.size, 0, none⟩) co 2 [sB, sC] [sB, sC] _ (Kd.C_below HCO.out HBL6.out) HCOO.out HL6.out (by simp) (by simp)).mono ?_
   rintro e w7 ⟨rfl, hB⟩
   rw [decide_eq_true (rfl : [sB, sC] = [sB, sC])]
   have HB7 := Sd.mk (below_step (below_step HB6.out HBL6.out) hB)
   clear hB
   go_wp2_with (fail)
   go_ret
   exact ⟨rfl, HB7.out⟩
def kV : Kd (List Value) where
 sz := 6
 E := []
 K _ x cs := cs = x ∧ cs.length = 6 ∧ ∀ u ∈ cs, u.oneCell' = true
 M _ _ _ x cs := cs = x ∧ cs.length = 6 ∧ ∀ u ∈ cs, u.oneCell' = true
 K_len h := h.2.1
 K_one h := h.2.2
 K_below _ h := h
 K_of_M h := h
 M_mono _ h := h
 M_bound h := h
 M_move _ h := h
 M_lower _ h := h
theorem raws_of {w : World} {A : Option Addr} {n : Nat} {l : List S28} (h : Kd.C k28 w A n l) : ∃ raws : List (List Value), raws.length = l.length ∧ Kd.C kV w A n raws ∧ ∀ (j : Nat) (x : S28) (r : List Value), l[j]? = some x → raws[j]? = some r → k28.K w x r := by
 obtain ⟨h1, h2, h3⟩ := h
 by_cases hn : 0 < n
 ·obtain ⟨ad, e, hc⟩ := h3 hn
  have hch : ∀ j : Nat, ∃ c : List Value, ∀ x, l[j]? = some x → c.length = 6 ∧ k28.K w x c ∧ ∀ i u, c[i]? = some u → w.cell? (ad.add (j * 6 + i)) = some u := by
   intro j
   rcases hx : l[j]? with _ | x
   ·exact ⟨[], fun x hx' => by cases hx'⟩
   ·obtain ⟨c, c1, c2, c3⟩ := hc j x hx
    exact ⟨c, fun y hy => by injection hy with hy; subst hy; exact ⟨c1, c2, c3⟩⟩
  refine ⟨(List.range l.length).map fun j => (hch j).choose, by simp, ⟨by simp [h1], h2, fun _ => ⟨ad, e, fun j r hj => ?_⟩⟩, fun j x r hj hr => ?_⟩
  ·have hjl : j < l.length := by
    have := (List.getElem?_eq_some_iff.1 hj).1
    simpa using this
   rw [List.getElem?_map, List.getElem?_range hjl] at hj
   simp only [Option.map_some, Option.some.injEq] at hj
   subst hj
   obtain ⟨c1, c2, c3⟩ := (hch j).choose_spec l[j] (List.getElem?_eq_getElem hjl)
   exact ⟨_, c1, ⟨rfl, c1, k28.K_one c2⟩, c3⟩
  ·have hjl : j < l.length := (List.getElem?_eq_some_iff.1 hj).1
   rw [List.getElem?_map, List.getElem?_range hjl] at hr
   simp only [Option.map_some, Option.some.injEq] at hr
   subst hr
   exact ((hch j).choose_spec x hj).2.1
 ·have hl : l = [] := List.length_eq_zero_iff.1 (by omega)
  subst hl
  exact ⟨[], rfl, ⟨h1, h2, fun h => absurd h hn⟩, fun j x r hj => by simp at hj⟩
theorem C_back {w : World} {A : Option Addr} {n : Nat} {l : List S28} {raws : List (List Value)} (hr : Kd.C kV w A n raws) (hlen : raws.length = l.length) (hk : ∀ (j : Nat) (x : S28) (r : List Value), l[j]? = some x → raws[j]? = some r → k28.K w x r) : Kd.C k28 w A n l := by
 refine ⟨by rw [← hlen]; exact hr.1, hr.2.1, fun hn => ?_⟩
 obtain ⟨ad, e, hc⟩ := hr.2.2 hn
 refine ⟨ad, e, fun j x hj => ?_⟩
 have hjl : j < raws.length := by have := (List.getElem?_eq_some_iff.1 hj).1; omega
 obtain ⟨cc, h1, h2, h3⟩ := hc j raws[j] (List.getElem?_eq_getElem hjl)
 have hK := hk j x raws[j] hj (List.getElem?_eq_getElem hjl)
 rw [← h2.1] at hK
 exact ⟨cc, h1, hK, h3⟩
theorem lit0 {W : World} {base : Nat} (h : base ≤ W.heap.size) : Kd.R kV 28 (W.alloc (.cells #[] 28)) base (fun _ => True) (.slice (some ⟨W.heap.size, 0, none⟩) 0 0) [] := by
 have h2 := World.ownsRow_lit (base := base) (e := 28) (size := 6) W #[] 0 h (by decide) (by rfl)
 exact ⟨fun _ _ => trivial, [], h2, Reps.none _ _⟩
theorem risL_len (l : List ByteArray) : (risL l).length ≤ l.length := by
 unfold risL
 rw [List.length_map]
 refine Nat.le_trans (Lib.compact_length_le _) ?_
 rw [List.length_map, List.length_map, List.length_mergeSort, List.length_map]
 exact Nat.le_refl _
def OkS (x : S28) : Prop := x.f2.length ≤ 70 ∧ x.f3.length ≤ 70 ∧ ∀ q ∈ x.f2, q.size ≤ 300
theorem ok_take {l : List S28} {k : Nat} {x : S28} (hx : l[k]? = some x) (h : ∀ y ∈ l.take k, OkS y) (h2 : OkS x) : ∀ y ∈ l.take (k + 1), OkS y := by
 intro y hy
 rw [List.take_add_one, hx] at hy
 rcases List.mem_append.1 hy with hy | hy
 ·exact h y hy
 ·simp at hy
  subst hy
  exact h2
theorem in_of {l : List S28} (hl : l.length ≤ 20) (h : ∀ x ∈ l, OkS x) (hs : ∀ x ∈ l, x.f1.size ≤ 9223372036854775807 ∧ ∀ q ∈ x.f3, q.size ≤ 9223372036854775807) : InL l := by
 refine ⟨by omega, fun x hx => ?_⟩
 obtain ⟨h1, h2, h3⟩ := h x hx
 obtain ⟨h4, h5⟩ := hs x hx
 exact ⟨by omega, by omega, by omega, h3, fun q hq => by have := h5 q hq; omega⟩
theorem law_big (p : Pol) (A As Ai : Option Addr) (c cs ci : Nat) (l : List S28) (ids : List ByteArray) (w : World) (hC : Kd.C k28 w As l.length l) (hcs : l.length ≤ cs) (hT : MonthT w) (hA : Kd.C Kd.string w A p.tags.length p.tags) (hcA : p.tags.length ≤ c) (hI : Kd.C Kd.string w Ai ids.length ids) (hci : ids.length ≤ ci) (hs : ∀ x ∈ l, x.f1.size ≤ 9223372036854775807 ∧ ∀ q ∈ x.f3, q.size ≤ 9223372036854775807) (hts : ∀ s ∈ p.tags, s.size ≤ 9223372036854775807) (hbig : 20 < l.length ∨ 40 < ids.length ∨ 100 < p.tags.length) :
  Calls Tryz.prog 3 #[aggP p A p.tags.length c, .slice Ai ids.length ci, .slice As l.length cs] w fun e w' => e = .returned (.bool true) ∧ Below w.heap.size w w' := by
 have HC := Sd.mk hC
 have HT := Sd.mk hT
 have HA := Sd.mk hA
 have HI := Sd.mk hI
 have HS := Sd.mk hs
 have HTS := Sd.mk hts
 have HCC := Sd.mk (And.intro hcs (And.intro hcA hci))
 have hu24 := Tryz.underlying24
 have hu28 := Tryz.underlying28
 have hm0 : l.length < 9223372036854775808 := by have := hC.2.1; omega
 have hm1 : ids.length < 9223372036854775808 := by have := hI.2.1; omega
 have hm2 : p.tags.length < 9223372036854775808 := by have := hA.2.1; omega
 clear hC hT hA hI hs hts hcs hcA hci
 by_cases b0 : 20 < l.length
 ·have d0 : decide ((20 : Int) < (l.length : Int)) = true := decide_eq_true (by omega)
  clear hbig
  go_enter Tryz.func3, Tryz.ntmps3
  go_upto_region 1 with (fail)
  have HB1 : Sd (Below w.heap.size w (w.alloc (.cells #[.int .i64 p.last, .int .i64 p.hour, .int .i64 p.day, .int .i64 p.week, .int .i64 p.month, .int .i64 p.year, .int .i64 p.within, .slice A p.tags.length c] 24))) := ⟨below_alloc (Below.refl _ _) _⟩
  have HG1 : Sd ((w.alloc (.cells #[.int .i64 p.last, .int .i64 p.hour, .int .i64 p.day, .int .i64 p.week, .int .i64 p.month, .int .i64 p.year, .int .i64 p.within, .slice A p.tags.length c] 24)).heap[w.heap.size]? = some (.cells #[.int .i64 p.last, .int .i64 p.hour, .int .i64 p.day, .int .i64 p.week, .int .i64 p.month, .int .i64 p.year, .int .i64 p.within, .slice A p.tags.length c] 24 (0, 0))) := ⟨(MapKept.heap_alloc w _).1⟩
  generalize (w.alloc (.cells #[.int .i64 p.last, .int .i64 p.hour, .int .i64 p.day, .int .i64 p.week, .int .i64 p.month, .int .i64 p.year, .int .i64 p.within, .slice A p.tags.length c] 24)) = W1 at HB1 HG1 ⊢
  obtain ⟨g, hg⟩ : ∃ g, g = w.heap.size := ⟨_, rfl⟩
  rw [← hg] at HG1 ⊢
  clear hg
  have c7 : W1.cell? ⟨g, 7, none⟩ = some (.slice A p.tags.length c) := (blk_cell HG1.out 7).trans rfl
  go_wp2_with (fail)
  refine (works_calls _ (HT.out.below HB1.out)).mono ?_
  rintro e9 w9 ⟨rfl, hB⟩
  have HBZ := Sd.mk (below_step HB1.out hB)
  clear hB
  go_wp2_with (fail)
  go_ret
  exact ⟨rfl, HBZ.out⟩
 ·have d0 : decide ((20 : Int) < (l.length : Int)) = false := decide_eq_false (by omega)
  by_cases b1 : 40 < ids.length
  ·have d1 : decide ((40 : Int) < (ids.length : Int)) = true := decide_eq_true (by omega)
   clear hbig
   go_enter Tryz.func3, Tryz.ntmps3
   go_upto_region 1 with (fail)
   have HB1 : Sd (Below w.heap.size w (w.alloc (.cells #[.int .i64 p.last, .int .i64 p.hour, .int .i64 p.day, .int .i64 p.week, .int .i64 p.month, .int .i64 p.year, .int .i64 p.within, .slice A p.tags.length c] 24))) := ⟨below_alloc (Below.refl _ _) _⟩
   have HG1 : Sd ((w.alloc (.cells #[.int .i64 p.last, .int .i64 p.hour, .int .i64 p.day, .int .i64 p.week, .int .i64 p.month, .int .i64 p.year, .int .i64 p.within, .slice A p.tags.length c] 24)).heap[w.heap.size]? = some (.cells #[.int .i64 p.last, .int .i64 p.hour, .int .i64 p.day, .int .i64 p.week, .int .i64 p.month, .int .i64 p.year, .int .i64 p.within, .slice A p.tags.length c] 24 (0, 0))) := ⟨(MapKept.heap_alloc w _).1⟩
   generalize (w.alloc (.cells #[.int .i64 p.last, .int .i64 p.hour, .int .i64 p.day, .int .i64 p.week, .int .i64 p.month, .int .i64 p.year, .int .i64 p.within, .slice A p.tags.length c] 24)) = W1 at HB1 HG1 ⊢
   obtain ⟨g, hg⟩ : ∃ g, g = w.heap.size := ⟨_, rfl⟩
   rw [← hg] at HG1 ⊢
   clear hg
   have c7 : W1.cell? ⟨g, 7, none⟩ = some (.slice A p.tags.length c) := (blk_cell HG1.out 7).trans rfl
   go_wp2_with (fail)
   refine (works_calls _ (HT.out.below HB1.out)).mono ?_
   rintro e9 w9 ⟨rfl, hB⟩
   have HBZ := Sd.mk (below_step HB1.out hB)
   clear hB
   go_wp2_with (fail)
   go_ret
   exact ⟨rfl, HBZ.out⟩
  ·have d1 : decide ((40 : Int) < (ids.length : Int)) = false := decide_eq_false (by omega)
   have d2 : decide ((100 : Int) < (p.tags.length : Int)) = true := decide_eq_true (by omega)
   clear hbig
   go_enter Tryz.func3, Tryz.ntmps3
   go_upto_region 1 with (fail)
   have HB1 : Sd (Below w.heap.size w (w.alloc (.cells #[.int .i64 p.last, .int .i64 p.hour, .int .i64 p.day, .int .i64 p.week, .int .i64 p.month, .int .i64 p.year, .int .i64 p.within, .slice A p.tags.length c] 24))) := ⟨below_alloc (Below.refl _ _) _⟩
   have HG1 : Sd ((w.alloc (.cells #[.int .i64 p.last, .int .i64 p.hour, .int .i64 p.day, .int .i64 p.week, .int .i64 p.month, .int .i64 p.year, .int .i64 p.within, .slice A p.tags.length c] 24)).heap[w.heap.size]? = some (.cells #[.int .i64 p.last, .int .i64 p.hour, .int .i64 p.day, .int .i64 p.week, .int .i64 p.month, .int .i64 p.year, .int .i64 p.within, .slice A p.tags.length c] 24 (0, 0))) := ⟨(MapKept.heap_alloc w _).1⟩
   generalize (w.alloc (.cells #[.int .i64 p.last, .int .i64 p.hour, .int .i64 p.day, .int .i64 p.week, .int .i64 p.month, .int .i64 p.year, .int .i64 p.within, .slice A p.tags.length c] 24)) = W1 at HB1 HG1 ⊢
   obtain ⟨g, hg⟩ : ∃ g, g = w.heap.size := ⟨_, rfl⟩
   rw [← hg] at HG1 ⊢
   clear hg
   have c7 : W1.cell? ⟨g, 7, none⟩ = some (.slice A p.tags.length c) := (blk_cell HG1.out 7).trans rfl
   go_wp2_with (fail)
   refine (works_calls _ (HT.out.below HB1.out)).mono ?_
   rintro e9 w9 ⟨rfl, hB⟩
   have HBZ := Sd.mk (below_step HB1.out hB)
   clear hB
   go_wp2_with (fail)
   go_ret
   exact ⟨rfl, HBZ.out⟩
theorem law_calls (p : Pol) (A As Ai : Option Addr) (c cs ci : Nat) (l : List S28) (ids : List ByteArray) (w : World) (hC : Kd.C k28 w As l.length l) (hcs : l.length ≤ cs) (hT : MonthT w) (hA : Kd.C Kd.string w A p.tags.length p.tags) (hcA : p.tags.length ≤ c) (hI : Kd.C Kd.string w Ai ids.length ids) (hci : ids.length ≤ ci) (hs : ∀ x ∈ l, x.f1.size ≤ 9223372036854775807 ∧ ∀ q ∈ x.f3, q.size ≤ 9223372036854775807) (hts : ∀ s ∈ p.tags, s.size ≤ 9223372036854775807) :
  Calls Tryz.prog 3 #[aggP p A p.tags.length c, .slice Ai ids.length ci, .slice As l.length cs] w fun e w' => e = .returned (.bool true) ∧ Below w.heap.size w w' := by
 by_cases hbig : 20 < l.length ∨ 40 < ids.length ∨ 100 < p.tags.length
 ·exact law_big p A As Ai c cs ci l ids w hC hcs hT hA hcA hI hci hs hts hbig
 have HC := Sd.mk hC
 have HT := Sd.mk hT
 have HA := Sd.mk hA
 have HI := Sd.mk hI
 have HS := Sd.mk hs
 have HTS := Sd.mk hts
 have HCC := Sd.mk (And.intro hcs (And.intro hcA hci))
 have hu24 := Tryz.underlying24
 have hu28 := Tryz.underlying28
 have hm0 : l.length < 9223372036854775808 := by have := hC.2.1; omega
 have hm1 : ids.length < 9223372036854775808 := by have := hI.2.1; omega
 have hm2 : p.tags.length < 9223372036854775808 := by have := hA.2.1; omega
 clear hC hT hA hI hs hts hcs hcA hci
 have d0 : decide ((20 : Int) < (l.length : Int)) = false := decide_eq_false (by omega)
 have d1 : decide ((40 : Int) < (ids.length : Int)) = false := decide_eq_false (by omega)
 have d2 : decide ((100 : Int) < (p.tags.length : Int)) = false := decide_eq_false (by omega)
 have hl0 : l.length ≤ 20 := by omega
 have hl1 : ids.length ≤ 40 := by omega
 have hl2 : p.tags.length ≤ 100 := by omega
 clear hbig
 go_enter Tryz.func3, Tryz.ntmps3
 go_upto_region 1 with (fail)
 have HB1 : Sd (Below w.heap.size w (w.alloc (.cells #[.int .i64 p.last, .int .i64 p.hour, .int .i64 p.day, .int .i64 p.week, .int .i64 p.month, .int .i64 p.year, .int .i64 p.within, .slice A p.tags.length c] 24))) := ⟨below_alloc (Below.refl _ _) _⟩
 have HG1 : Sd ((w.alloc (.cells #[.int .i64 p.last, .int .i64 p.hour, .int .i64 p.day, .int .i64 p.week, .int .i64 p.month, .int .i64 p.year, .int .i64 p.within, .slice A p.tags.length c] 24)).heap[w.heap.size]? = some (.cells #[.int .i64 p.last, .int .i64 p.hour, .int .i64 p.day, .int .i64 p.week, .int .i64 p.month, .int .i64 p.year, .int .i64 p.within, .slice A p.tags.length c] 24 (0, 0))) := ⟨(MapKept.heap_alloc w _).1⟩
 generalize (w.alloc (.cells #[.int .i64 p.last, .int .i64 p.hour, .int .i64 p.day, .int .i64 p.week, .int .i64 p.month, .int .i64 p.year, .int .i64 p.within, .slice A p.tags.length c] 24)) = W1 at HB1 HG1 ⊢
 obtain ⟨g, hg⟩ : ∃ g, g = w.heap.size := ⟨_, rfl⟩
 rw [← hg] at HG1 ⊢
 clear hg
 have c7 : W1.cell? ⟨g, 7, none⟩ = some (.slice A p.tags.length c) := (blk_cell HG1.out 7).trans rfl
 go_wp2_with (fail)
 go_loopw [7, 8] (fun v7 v8 wr => ∃ k : Nat, k ≤ l.length ∧ v7 = .int .i64 k ∧ Sd (∀ y ∈ l.take k, OkS y) ∧ Sd (Below W1.heap.size W1 wr)) (fun v7 _ _ => l.length - (intOf v7).toNat)
 case atStart => exact ⟨0, Nat.zero_le _, rfl, ⟨fun y hy => by simp at hy⟩, ⟨Below.refl _ _⟩⟩
 case round =>
  obtain ⟨k, hk, rfl, HOK, HWr⟩ := hrel
  by_cases hlt : k < l.length
  ·obtain ⟨x, hx⟩ : ∃ r, l[k]? = some r := ⟨_, List.getElem?_eq_getElem hlt⟩
   have HW : Sd (Below w.heap.size w wr) := ⟨below_step HB1.out HWr.out⟩
   obtain ⟨ad, A2, c2, A3, c3, rfl, _, _, q2, q3, _, _, hc2, hC2, hc3, hC3⟩ := at_T28 (Kd.C_below HC.out HW.out) (k : Int) (by omega) (by omega)
   have hrd : rd_T28 l (k : Int) = x := by unfold rd_T28; rw [Int.toNat_natCast, List.getD_eq_getElem?_getD, hx]; rfl
   rw [hrd] at q2 q3 hc2 hC2 hc3 hC3
   rw [Int.toNat_natCast] at q2 q3
   have HM := Sd.mk hx
   have HC2 := Sd.mk hC2
   have hn2 : x.f2.length < 9223372036854775808 := by have := hC2.2.1; omega
   have hn3 : x.f3.length < 9223372036854775808 := by have := hC3.2.1; omega
   have p0 := eq_true (show (0 : Int) ≤ (k : Int) by omega)
   have p1 := eq_true (show (k : Int) < (l.length : Int) by omega)
   clear hx hrd hC2 hC3 hc2 hc3
   by_cases t0 : 70 < x.f2.length
   ·have e0 : decide ((70 : Int) < (x.f2.length : Int)) = true := decide_eq_true (by omega)
    go_wp2_with (fail)
    refine (works_calls _ (HT.out.below HW.out)).mono ?_
    rintro e9 w9 ⟨rfl, hB⟩
    have HBZ := Sd.mk (below_step HW.out hB)
    clear hB
    go_wp2_with (fail)
    go_ret
    exact ⟨rfl, HBZ.out⟩
   ·have e0 : decide ((70 : Int) < (x.f2.length : Int)) = false := decide_eq_false (by omega)
    by_cases t1 : 70 < x.f3.length
    ·have e1 : decide ((70 : Int) < (x.f3.length : Int)) = true := decide_eq_true (by omega)
     go_wp2_with (fail)
     refine (works_calls _ (HT.out.below HW.out)).mono ?_
     rintro e9 w9 ⟨rfl, hB⟩
     have HBZ := Sd.mk (below_step HW.out hB)
     clear hB
     go_wp2_with (fail)
     go_ret
     exact ⟨rfl, HBZ.out⟩
    ·have e1 : decide ((70 : Int) < (x.f3.length : Int)) = false := decide_eq_false (by omega)
     go_wp2_with (fail)
     go_loopw [8] (fun v8 wi => ∃ j : Nat, j ≤ x.f2.length ∧ v8 = .int .i64 j ∧ Sd (∀ q ∈ x.f2.take j, q.size ≤ 300) ∧ wi = wr) (fun v8 _ => x.f2.length - (intOf v8).toNat)
     case atStart => exact ⟨0, Nat.zero_le _, rfl, ⟨fun y hy => by simp at hy⟩, rfl⟩
     case round =>
      obtain ⟨j, hj, rfl, HQ, rfl⟩ := hrel
      by_cases hjl : j < x.f2.length
      ·obtain ⟨ad2, hA2, hcell⟩ := Kd.at_string HC2.out (j : Int) (by omega) (by omega)
       rw [Int.toNat_natCast, rd9_get hjl] at hcell
       obtain ⟨s, hs⟩ : ∃ s, s = x.f2[j] := ⟨_, rfl⟩
       rw [← hs] at hcell
       have HJ : Sd (x.f2[j]? = some s) := ⟨by rw [hs]; exact List.getElem?_eq_getElem hjl⟩
       subst hA2
       have p2 := eq_true (show (0 : Int) ≤ (j : Int) by omega)
       have p3 := eq_true (show (j : Int) < (x.f2.length : Int) by omega)
       clear hs
       by_cases t2 : 300 < s.size
       ·have e2 : decide ((300 : Int) < (s.size : Int)) = true := decide_eq_true (by omega)
        go_wp2_with (fail)
        refine (works_calls _ (HT.out.below HW.out)).mono ?_
        rintro e9 w9 ⟨rfl, hB⟩
        have HBZ := Sd.mk (below_step HW.out hB)
        clear hB
        go_wp2_with (fail)
        go_ret
        exact ⟨rfl, HBZ.out⟩
       ·have e2 : decide ((300 : Int) < (s.size : Int)) = false := decide_eq_false (by omega)
        go_wp2_with (fail)
        go_roundw
        case rel =>
         refine ⟨j + 1, hjl, by go_num, ⟨fun q hq => ?_⟩, by (trivial)⟩
         rw [List.take_add_one, HJ.out] at hq
         rcases List.mem_append.1 hq with hq | hq
         ·exact HQ.out q hq
         ·simp at hq
          subst hq
          omega
        case measure => (simp [intOf]; omega)
      ·obtain rfl : j = x.f2.length := by omega
       have HOK2 : Sd (∀ y ∈ l.take (k + 1), OkS y) := ⟨ok_take HM.out HOK.out ⟨by omega, by omega, by have h := HQ.out; rwa [List.take_length] at h⟩⟩
       go_wp2_with (fail)
       go_roundw
       case rel => exact ⟨k + 1, hlt, by go_num, HOK2, HWr⟩
       case measure => (simp [intOf]; omega)
  ·obtain rfl : k = l.length := by omega
   have HIN : Sd (InL l) := ⟨in_of hl0 (by have h := HOK.out; rwa [List.take_length] at h) HS.out⟩
   have HW : Sd (Below w.heap.size w wr) := ⟨below_step HB1.out HWr.out⟩
   have HGr : Sd (wr.heap[g]? = some (.cells #[.int .i64 p.last, .int .i64 p.hour, .int .i64 p.day, .int .i64 p.week, .int .i64 p.month, .int .i64 p.year, .int .i64 p.within, .slice A p.tags.length c] 24 (0, 0))) := ⟨blk_below HG1.out HWr.out⟩
   clear HOK hlt hk HB1 HG1 HWr c7
   go_wp2_with (fail)
   refine (lend_calls Ai ci ids wr (Kd.C_below HI.out HW.out) (by omega)).mono ?_
   rintro e w5 ⟨A5, c5, rfl, hc5, hC5, hB⟩
   have HC5 := Sd.mk hC5
   have HCC5 := Sd.mk hc5
   have HG5 := Sd.mk (blk_below HGr.out hB)
   have HB5 := Sd.mk (below_step HW.out hB)
   clear hC5 hc5 hB HGr HW
   go_upto_region 14 with (fail)
   obtain ⟨W5, hW5⟩ : ∃ W5, W5 = w5 := ⟨_, rfl⟩
   subst hW5
   obtain ⟨raws, hrl, hraw, hrk⟩ := raws_of (Kd.C_below HC.out HB5.out)
   have HRAW := Sd.mk hraw
   have HRK := Sd.mk (And.intro hrl hrk)
   clear hraw hrl hrk
   have hS : ∀ W, Below W5.heap.size W5 W → (W.cell? ⟨g, 0, none⟩ = some (.int .i64 p.last) ∧ W.cell? ⟨g, 1, none⟩ = some (.int .i64 p.hour) ∧ W.cell? ⟨g, 2, none⟩ = some (.int .i64 p.day) ∧ W.cell? ⟨g, 3, none⟩ = some (.int .i64 p.week) ∧ W.cell? ⟨g, 4, none⟩ = some (.int .i64 p.month) ∧ W.cell? ⟨g, 5, none⟩ = some (.int .i64 p.year) ∧ W.cell? ⟨g, 6, none⟩ = some (.int .i64 p.within) ∧ W.cell? ⟨g, 7, none⟩ = some (.slice A p.tags.length c) ∧ Below W5.heap.size W5 W) := fun W hB => by
    have h := blk_below HG5.out hB
    exact ⟨(blk_cell h 0).trans rfl, (blk_cell h 1).trans rfl, (blk_cell h 2).trans rfl, (blk_cell h 3).trans rfl, (blk_cell h 4).trans rfl, (blk_cell h 5).trans rfl, (blk_cell h 6).trans rfl, (blk_cell h 7).trans rfl, hB⟩
   have hK1 : ∀ W W', (W.cell? ⟨g, 0, none⟩ = some (.int .i64 p.last) ∧ W.cell? ⟨g, 1, none⟩ = some (.int .i64 p.hour) ∧ W.cell? ⟨g, 2, none⟩ = some (.int .i64 p.day) ∧ W.cell? ⟨g, 3, none⟩ = some (.int .i64 p.week) ∧ W.cell? ⟨g, 4, none⟩ = some (.int .i64 p.month) ∧ W.cell? ⟨g, 5, none⟩ = some (.int .i64 p.year) ∧ W.cell? ⟨g, 6, none⟩ = some (.int .i64 p.within) ∧ W.cell? ⟨g, 7, none⟩ = some (.slice A p.tags.length c) ∧ Below W5.heap.size W5 W) → Below W.heap.size W W' → (W'.cell? ⟨g, 0, none⟩ = some (.int .i64 p.last) ∧ W'.cell? ⟨g, 1, none⟩ = some (.int .i64 p.hour) ∧ W'.cell? ⟨g, 2, none⟩ = some (.int .i64 p.day) ∧ W'.cell? ⟨g, 3, none⟩ = some (.int .i64 p.week) ∧ W'.cell? ⟨g, 4, none⟩ = some (.int .i64 p.month) ∧ W'.cell? ⟨g, 5, none⟩ = some (.int .i64 p.year) ∧ W'.cell? ⟨g, 6, none⟩ = some (.int .i64 p.within) ∧ W'.cell? ⟨g, 7, none⟩ = some (.slice A p.tags.length c) ∧ Below W5.heap.size W5 W') := fun W W' h hB => hS W' (below_step h.2.2.2.2.2.2.2.2 hB)
   have hpl : ∀ (A8 : Option Addr) (c8 : Nat) (W : World), (W.cell? ⟨g, 0, none⟩ = some (.int .i64 p.last) ∧ W.cell? ⟨g, 1, none⟩ = some (.int .i64 p.hour) ∧ W.cell? ⟨g, 2, none⟩ = some (.int .i64 p.day) ∧ W.cell? ⟨g, 3, none⟩ = some (.int .i64 p.week) ∧ W.cell? ⟨g, 4, none⟩ = some (.int .i64 p.month) ∧ W.cell? ⟨g, 5, none⟩ = some (.int .i64 p.year) ∧ W.cell? ⟨g, 6, none⟩ = some (.int .i64 p.within) ∧ W.cell? ⟨g, 7, none⟩ = some (.slice A p.tags.length c) ∧ Below W5.heap.size W5 W) → Kd.C kV W A8 raws.length raws → Calls Tryz.prog 6 #[aggP p A p.tags.length c, .slice A5 ids.length c5, .slice A8 raws.length c8] W fun e w' => ∃ (v : Value) (out : List ByteArray), e = .returned (.tuple #[v, .int .i64 (planC p ids l)]) ∧ Kd.R Kd.string 9 w' W.heap.size (fun _ => True) v out ∧ Below W.heap.size W w' ∧ PlanL p ids l out := fun A8 c8 W h hc => by
    have hb := h.2.2.2.2.2.2.2.2
    have hc2 := C_back hc HRK.out.1 (fun j x r hx hr => k28.K_below hb (HRK.out.2 j x r hx hr))
    rw [HRK.out.1] at hc2 ⊢
    exact plan_calls p A A8 A5 c c8 c5 l ids W hc2 (HT.out.below (below_step HB5.out hb)) (Kd.C_below HA.out (below_step HB5.out hb)) (C_firsts (Kd.C_below HC5.out hb)) HIN.out (by omega) (fun s hs => by have := HTS.out s hs; omega)
   have hz := hS _ (Below.refl _ _)
   obtain ⟨r, hr⟩ : ∃ r, r = planC p ids l := ⟨_, rfl⟩
   rw [← hr] at hpl
   have HR := Sd.mk hr
   clear hr
   go_region_held3 (fun W => W.cell? ⟨g, 0, none⟩ = some (.int .i64 p.last) ∧ W.cell? ⟨g, 1, none⟩ = some (.int .i64 p.hour) ∧ W.cell? ⟨g, 2, none⟩ = some (.int .i64 p.day) ∧ W.cell? ⟨g, 3, none⟩ = some (.int .i64 p.week) ∧ W.cell? ⟨g, 4, none⟩ = some (.int .i64 p.month) ∧ W.cell? ⟨g, 5, none⟩ = some (.int .i64 p.year) ∧ W.cell? ⟨g, 6, none⟩ = some (.int .i64 p.within) ∧ W.cell? ⟨g, 7, none⟩ = some (.slice A p.tags.length c) ∧ Below W5.heap.size W5 W) (first | (with_reducible exact hS _ HB9) | (with_reducible exact hS _ HB8) | (with_reducible exact hS _ (below_drew (Below.refl _ _))) | (with_reducible exact hK1 _ _ (by assumption) (below_alloc (Below.refl _ _) _))) (first | ((refine Kd.R_append_rows_step kV (Rr := fun x cs => cs = x ∧ cs.length = 6 ∧ ∀ u ∈ cs, u.oneCell' = true) (w0 := W5) W5.heap.size ?hw (.tmp 78) (.tmp 79) 25 28 (.agg #[.int .i64 0, .string ⟨#[]⟩, .slice none 0 0, .slice none 0 0, .string ⟨#[]⟩, .string ⟨#[]⟩]) 104 ?ho Tryz.underlying25 info28 rfl (by decide) (by omega) (.slice (some ⟨W5.heap.size, 0, none⟩) 0 0) [] raws As l.length cs (fun _ => True) (fun _ => False) ?hs ?hx ?aO ?aR (fun _ _ h => h) (fun _ h => h.elim) (fun _ _ => trivial) ?aB ?aS ?aL ?_); (case hw => kernel_rfl); (case ho => rfl); (case hs => rfl); (case hx => rfl); (case aO => (repeat ((exact lit0 (Nat.le_refl _))))); (case aR => refine Kd.C_below HRAW.out ?_; (repeat (first | (with_reducible exact Below.refl _ _) | (with_reducible refine below_alloc ?_ _) | (with_reducible refine below_drew1 ?_)))); (case aB => (repeat (first | (with_reducible exact Below.refl _ _) | (with_reducible refine below_alloc ?_ _) | (with_reducible refine below_drew1 ?_)))); (case aS => exact (show Below W5.heap.size W5 _ from by (repeat (first | (with_reducible exact Below.refl _ _) | (with_reducible refine below_alloc ?_ _) | (with_reducible refine below_drew1 ?_)))).size); (case aL => simp; omega); intro v8 w8 ho hb hg hat; have HO8 := Sd.mk ho; have HB8 := hb; clear ho hg hat; have ho8 := HO8.out; rw [List.nil_append] at ho8; obtain ⟨A8, c8, rfl, hc8, hC8⟩ := Kd.R_reads ho8; have HC8 := Sd.mk hC8; clear hC8 hc8 ho8 HO8) | (go_at_call 6; (with_reducible refine (hpl A8 c8 _ (by assumption) HC8.out).mono ?_); rintro e w9 ⟨v, out, rfl, hR, hB, hPL⟩; have HR9 := Sd.mk hR; have HPL := Sd.mk hPL; have HB9 : Below W5.heap.size W5 w9 := (hK1 _ _ (by assumption) hB).2.2.2.2.2.2.2.2; clear hR hPL))
   obtain ⟨Ao, co, rfl, hco, hCo⟩ := Kd.R_reads HR9.out
   have HCo := Sd.mk hCo
   have HCOo := Sd.mk hco
   have HG9 := Sd.mk (blk_below HG5.out HB9)
   have HB9w := Sd.mk (below_step HB5.out HB9)
   have HC59 := Sd.mk (Kd.C_below HC5.out HB9)
   obtain ⟨K, hK⟩ := plan_same p ids l HIN.out (by omega) (fun s hs => by have := HTS.out s hs; omega) out HPL.out
   have hKK : r28_Plan.f K p.last p.hour p.day p.week p.month p.year p.within p.tags ids l = some (out, planC p ids l) := hK K (Nat.le_refl _)
   rw [← HR.out] at hKK
   have HKK := Sd.mk hKK
   have HOL : Sd (out.length ≤ 10000) := ⟨by
    by_cases h0 : planC p ids l = 0
    ·obtain ⟨sls, _, e⟩ := HPL.out.2 h0
     rw [e]
     have h1 := risL_len ((forL (appK p l sls) l.length).map (idAt ids))
     have h2 := forL_len (appK p l sls) l.length
     rw [List.length_map] at h1
     omega
    ·rw [HPL.out.1 h0]
     simp⟩
   have c70 : w9.cell? ⟨g, 0, none⟩ = some (.int .i64 p.last) := (blk_cell HG9.out 0).trans rfl
   have c71 : w9.cell? ⟨g, 1, none⟩ = some (.int .i64 p.hour) := (blk_cell HG9.out 1).trans rfl
   have c72 : w9.cell? ⟨g, 2, none⟩ = some (.int .i64 p.day) := (blk_cell HG9.out 2).trans rfl
   have c73 : w9.cell? ⟨g, 3, none⟩ = some (.int .i64 p.week) := (blk_cell HG9.out 3).trans rfl
   have c74 : w9.cell? ⟨g, 4, none⟩ = some (.int .i64 p.month) := (blk_cell HG9.out 4).trans rfl
   have c75 : w9.cell? ⟨g, 5, none⟩ = some (.int .i64 p.year) := (blk_cell HG9.out 5).trans rfl
   have c76 : w9.cell? ⟨g, 6, none⟩ = some (.int .i64 p.within) := (blk_cell HG9.out 6).trans rfl
   have c77 : w9.cell? ⟨g, 7, none⟩ = some (.slice A p.tags.length c) := (blk_cell HG9.out 7).trans rfl
   clear hS hK1 hpl hz hKK hK hco hCo HR9 hB HC8 hb HRAW HRK HPL HG5 HC5 HB9
   go_wp2_with (fail)
   refine (of_calls p.last p.hour p.day p.week p.month p.year p.within A p.tags.length c w9).mono ?_
   rintro e w10 ⟨rfl, hB⟩
   have HB10 := Sd.mk (below_step HB9w.out hB)
   have HCo10 := Sd.mk (Kd.C_below HCo.out hB)
   have HC510 := Sd.mk (Kd.C_below HC59.out hB)
   clear hB HCo HC59 HB9w c70 c71 c72 c73 c74 c75 c76 c77
   go_wp2_with (fail)
   refine (r28_Plan.calls K p.last p.hour p.day p.week p.month p.year p.within A c p.tags Ai ci ids As cs l out r w10 (Kd.C_below HA.out HB10.out) HCC.out.2.1 (Kd.C_below HI.out HB10.out) HCC.out.2.2 (Kd.C_below HC.out HB10.out) HCC.out.1 HKK.out).mono ?_
   rintro e w11 ⟨v11, rfl, hR, hB⟩
   obtain ⟨Ar, cr, rfl, hcr, hCr⟩ := Kd.R_reads hR
   have HCr := Sd.mk hCr
   have HCRr := Sd.mk hcr
   have HB11 := Sd.mk (below_step HB10.out hB)
   have HCo11 := Sd.mk (Kd.C_below HCo10.out hB)
   have HC511 := Sd.mk (Kd.C_below HC510.out hB)
   clear hB hR hcr hCr HCo10 HC510 HB10
   go_wp2_with (fail)
   refine (same_calls Ao Ar co cr out out w11 HCo11.out HCOo.out HCr.out HCRr.out HOL.out).mono ?_
   rintro e w12 ⟨rfl, hB⟩
   rw [decide_eq_true (rfl : out = out)]
   have HB12 := Sd.mk (below_step HB11.out hB)
   have HC512 := Sd.mk (Kd.C_below HC511.out hB)
   clear hB HCo11 HC511 HB11
   go_wp2_with (fail)
   refine (kept_calls A5 Ai c5 ci ids w12 HC512.out HCC5.out (Kd.C_below HI.out HB12.out) HCC.out.2.2 (by omega)).mono ?_
   rintro e w13 ⟨rfl, hB⟩
   have HB13 := Sd.mk (below_step HB12.out hB)
   clear hB
   go_wp2_with (fail)
   refine (works_calls w13 (HT.out.below HB13.out)).mono ?_
   rintro e w14 ⟨rfl, hB⟩
   have HB14 := Sd.mk (below_step HB13.out hB)
   clear hB
   go_wp2_with (fail)
   go_ret
   exact ⟨rfl, HB14.out⟩
end Go.Proofs.YtpdkgpmcmebefaaGreatDoor.Q
