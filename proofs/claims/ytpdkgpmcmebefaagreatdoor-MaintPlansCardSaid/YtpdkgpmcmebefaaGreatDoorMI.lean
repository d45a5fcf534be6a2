/- Of the proof about maint: several texts, joined. -/
import Derived.Test.YtpdkgpmcmebefaaGreatDoorMH
import Derived.Test.YtpdkgpmcmebefaaGreatDoorShelf
import Derived.Test.YtpdkgpmcmebefaaGreatDoorMF
import Derived.Maps.GroupsBeside
import Derived.Maps.Ext
import Derived.StringKeys
import Derived.Deep.DeepCutAuto
import Derived.WalkSpells
set_option maxHeartbeats 16000000
set_option maxRecDepth 100000
set_option linter.unusedVariables false
set_option linter.unusedSimpArgs false
namespace Go.Proofs.YtpdkgpmcmebefaaGreatDoor.Q
open Go.RowKit Go.Proofs.YtpdkgpmcmebefaaGreatDoorW.PrintWords Go.Proofs.YtpdkgpmcmebefaaGreatDoorW.PrintLast Go.Proofs.YtpdkgpmcmebefaaGreatDoorW.PrintMore
attribute [local go_sem] max2_int min2_int max_two min_two max_three min_three max_four min_four
theorem join_len (sep : UInt8) : ∀ l : List (List UInt8), (Lib.join l [sep]).length ≤ (l.map (fun p => p.length + 1)).sum
 | [] => Nat.zero_le _
 | x :: r => by
  rw [Lib.join_cons, List.length_append, List.map_cons, List.sum_cons]
  have : (Lib.joinTail [sep] r).length = (r.map (fun p => p.length + 1)).sum := by
   unfold Lib.joinTail
   rw [List.length_flatten, List.map_map]
   congr 1
  omega
theorem addr_of {w : World} {ad : Addr} {v : Value} (h : w.cell? ad = some v) : ad = ⟨ad.block, ad.off, none⟩ ∧ ad.block < w.heap.size := by
 refine ⟨?_, World.block_lt_of_cell? w _ h⟩
 unfold World.cell? at h
 cases ad with
 | mk b o s =>
  cases s with
  | none => rfl
  | some s =>
   exfalso
   dsimp only at h
   split at h
   ·simp at h
   ·cases h
theorem rdJ_at {l : List ByteArray} {k : Nat} {p : ByteArray} (h : l[k]? = some p) : rdOf ByteArray.empty l (k : Int) = p := by
 unfold rdOf
 rw [Int.toNat_natCast, List.getD_eq_getElem?_getD, h]
 rfl
theorem join_calls (A : Option Addr) (c n : Nat) (l : List ByteArray) (w : World) (h : Kd.C Kd.string w A n l) (hn : l.length = n) (hc : n ≤ c) (hz : (l.map (fun p => p.size + 1)).sum ≤ 1048577) :
  Calls Tryz.prog 75 #[.slice A n c, .string ⟨#[0]⟩] w fun e w' => e = .returned (.string ⟨(Lib.join (l.map (·.data.toList)) [0]).toArray⟩) ∧ Below w.heap.size w w' := by
 subst hn
 cases l with
 | nil =>
  refine (Go.Proofs.Tryz.strings_Join_none A c ⟨#[0]⟩ w).mono ?_
  rintro e w' ⟨rfl, rfl⟩
  exact ⟨rfl, Below.refl _ _⟩
 | cons x r =>
  generalize hL : x :: r = l at *
  have hp : 0 < l.length := by rw [← hL]; simp
  have hle : l.length ≤ (l.map (fun p => p.size + 1)).sum := by
   clear hL hp h hz hc
   induction l with
   | nil => simp
   | cons a l ih => simp only [List.length_cons, List.map_cons, List.sum_cons]; omega
  obtain ⟨ad, rfl, h0⟩ := Kd.at_string h (0 : Int) (by omega) (by omega)
  have e0 : ad.add (0 : Int).toNat = ad := rfl
  rw [e0] at h0
  obtain ⟨e1, hb⟩ := addr_of h0
  have hcells : ∀ (j : Nat) y, l[j]? = some y → w.cell? ⟨ad.block, ad.off + j, none⟩ = some (.string y) := by
   intro j y hj
   have hjl : j < l.length := (List.getElem?_eq_some_iff.1 hj).1
   obtain ⟨ad2, h2, h3⟩ := Kd.at_string h (j : Int) (by omega) (by omega)
   injection h2 with h2
   subst h2
   rw [rdJ_at hj, Int.toNat_natCast] at h3
   rw [← h3]
   congr 1
   unfold Addr.add
   split
   ·rename_i h4; rw [h4]; exact e1.symm
   ·rfl
  have hlen : (Lib.join (l.map (·.data.toList)) (⟨#[0]⟩ : ByteArray).data.toList).length ≤ 140737488355328 := by
   refine Nat.le_trans (join_len 0 _) (Nat.le_trans (Nat.le_of_eq ?_) (Nat.le_trans hz (by omega)))
   rw [List.map_map]
   congr 1
  rw [show (some ad : Option Addr) = some ⟨ad.block, ad.off, none⟩ from by rw [← e1]]
  refine (Go.Proofs.Tryz.strings_Join ad.block ad.off c l ⟨#[0]⟩ w hcells hb (by omega) hc hlen).mono ?_
  rintro e w' ⟨rfl, hB⟩
  exact ⟨rfl, hB⟩
def groupP (x : S28) : ByteArray := ⟨(Lib.join ((x.f1 :: x.f2).map (·.data.toList)) [0]).toArray⟩
theorem group_calls (x : S28) (A2 A3 : Option Addr) (c2 c3 n3 : Nat) (w : World) (hx2 : Kd.C Kd.string w A2 x.f2.length x.f2) (hl : x.f2.length ≤ 1000) (hz : ((x.f1 :: x.f2).map (fun p => p.size + 1)).sum ≤ 1048577) :
  Calls Tryz.prog 38 #[.agg #[.int .i64 x.f0, .string x.f1, .slice A2 x.f2.length c2, .slice A3 n3 c3, .string x.f4, .string x.f5]] w fun e w' => e = .returned (.string (groupP x)) ∧ Below w.heap.size w w' := by
 have hu28 := Tryz.underlying28
 have H2 := Sd.mk hx2
 have HL := Sd.mk hl
 have HZ : Sd ((([x.f1] ++ x.f2).map (fun p => p.size + 1)).sum ≤ 1048577) := ⟨hz⟩
 have HG : Sd (groupP x = ⟨(Lib.join (([x.f1] ++ x.f2).map (·.data.toList)) [0]).toArray⟩) := ⟨rfl⟩
 clear hx2 hl hz
 have HX : Sd ((w.alloc (.cells #[.int .i64 x.f0, .string x.f1, .slice A2 x.f2.length c2, .slice A3 n3 c3, .string x.f4, .string x.f5] 28)).heap[w.heap.size]? = some (.cells #[.int .i64 x.f0, .string x.f1, .slice A2 x.f2.length c2, .slice A3 n3 c3, .string x.f4, .string x.f5] 28 (0, 0))) := ⟨blk_new _ _⟩
 have HB0 : Sd (Below w.heap.size w (w.alloc (.cells #[.int .i64 x.f0, .string x.f1, .slice A2 x.f2.length c2, .slice A3 n3 c3, .string x.f4, .string x.f5] 28))) := ⟨below_alloc (Below.refl _ _) _⟩
 go_enter Tryz.func38, Tryz.ntmps38
 go_upto_region 1 with (fail)
 generalize (w.alloc (.cells #[.int .i64 x.f0, .string x.f1, .slice A2 x.f2.length c2, .slice A3 n3 c3, .string x.f4, .string x.f5] 28)) = wr at HX HB0 ⊢
 have x1 : wr.cell? ⟨w.heap.size, 1, none⟩ = some (.string x.f1) := (blk_cell HX.out 1).trans rfl
 have x2 : wr.cell? ⟨w.heap.size, 2, none⟩ = some (.slice A2 x.f2.length c2) := (blk_cell HX.out 2).trans rfl
 go_wp2_with (first | ((with_reducible refine gate_dst (N := 5) rfl ?_); refine Kd.R_lit Kd.string (w0 := wr) wr.heap.size 9 ?hg (N := 5) ?hd (xs := [x.f1]) (inner := [.string x.f1]) (ok := fun _ => True) (okp := fun _ => True) ?hr ?hp (fun _ hk => hk) trivial (Below.refl _ _) (Nat.le_refl _) (by simp) ?_; (case hd => rfl); (case hg => rfl); (case hr => (go_simp; done)); (case hp => exact (Reps.one (show Kd.M Kd.string _ _ _ (x.f1 : ByteArray) [.string x.f1] from rfl) (Reps.none _ _))); intro v1 w1 ho hb hg_ hnew_; have HO1 := Sd.mk ho; have HB1 := Sd.mk hb; have y2 : w1.cell? ⟨w.heap.size, 2, none⟩ = some (.slice A2 x.f2.length c2) := pw_cell_below hb x2; clear ho hb hg_ hnew_) | ((with_reducible refine gate_builtin (b := .append) (xs := #[.tmp 5, .tmp 7]) rfl ?_); at_builtin; refine Kd.R_append_rows Kd.string (Rr := Kd.K Kd.string w1) (w0 := wr) wr.heap.size ?hg (.tmp 5) (.tmp 7) 22 9 (.string ⟨#[]⟩) 16 ?ho Tryz.underlying22 info9 rfl (by decide) (by omega) v1 [x.f1] x.f2 A2 x.f2.length c2 (fun _ => True) (fun _ => False) ?hs ?hx ?aO ?aR ?aK (fun _ hk => hk.elim) (fun _ _ => trivial) ?aB ?aS ?aL ?_; (case hg => rfl); (case ho => rfl); (case hs => rfl); (case hx => rfl); (case aO => exact HO1.out); (case aR => exact Kd.C_below H2.out (below_step HB0.out HB1.out)); (case aK => exact fun x cs h => h); (case aB => exact HB1.out); (case aS => exact HB1.out.size); (case aL => have := HL.out; simp; omega); intro v2 w2 ho hb hg_ hat; have HO2 := Sd.mk ho; have HB2 := Sd.mk hb; clear ho hb hg_ hat) | (go_at_call 75; obtain ⟨A9, c9, rfl, hc9, hr9⟩ := Kd.R_reads HO2.out; (with_reducible refine (join_calls A9 c9 _ ([x.f1] ++ x.f2) w2 hr9 rfl hc9 HZ.out).mono ?_); rintro e w3 ⟨rfl, hB⟩; have HB3 := Sd.mk (below_step HB2.out hB); clear hB))
 go_ret
 exact ⟨by rw [HG.out]; rfl, below_step HB0.out HB3.out⟩
structure Seen where
 last : Int
 kept : Int
 any : Bool
def encS (s : Seen) : List Value := [.int .i64 s.last, .int .i64 s.kept, .bool s.any]
def encU (us : List Seen) : List Value := us.flatMap encS
def keepsP (s : Seen) (key most : Int) : Bool × Seen := if (s.any && s.last == key) = true then (false, s) else (decide (s.kept + 1 ≤ most), ⟨key, s.kept + 1, true⟩)
theorem six {α : Type} {l : List α} (h : l.length = 6) : ∃ a b c d e f, l = [a, b, c, d, e, f] := by
 match l, h with
 | [a, b, c, d, e, f], _ => exact ⟨a, b, c, d, e, f, rfl⟩
theorem encU_at {us : List Seen} (h : us.length = 6) {u : Nat} (hu : u < 6) : (encU us).toArray[3 * u]? = some (.int .i64 us[u].last) ∧ (encU us).toArray[3 * u + 1]? = some (.int .i64 us[u].kept) ∧ (encU us).toArray[3 * u + 2]? = some (.bool us[u].any) := by
 obtain ⟨a, b, c, d, e, f, rfl⟩ := six h
 rcases (show u = 0 ∨ u = 1 ∨ u = 2 ∨ u = 3 ∨ u = 4 ∨ u = 5 by omega) with rfl | rfl | rfl | rfl | rfl | rfl <;> exact ⟨rfl, rfl, rfl⟩
theorem encU_set {us : List Seen} (h : us.length = 6) {u : Nat} (hu : u < 6) (s : Seen) : (((encU us).toArray.setIfInBounds (3 * u + 2) (.bool s.any)).setIfInBounds (3 * u) (.int .i64 s.last)).setIfInBounds (3 * u + 1) (.int .i64 s.kept) = (encU (us.set u s)).toArray := by
 obtain ⟨a, b, c, d, e, f, rfl⟩ := six h
 rcases (show u = 0 ∨ u = 1 ∨ u = 2 ∨ u = 3 ∨ u = 4 ∨ u = 5 by omega) with rfl | rfl | rfl | rfl | rfl | rfl <;> rfl
theorem grown_set (w : World) (g o : Nat) (v : Value) : w.grownBy (w.setCell ⟨g, o, none⟩ v) (some g) := ⟨rfl, rfl, rfl, by simp, fun k _ hk => Below.heap_setCell w ⟨g, o, none⟩ v k (fun e => hk (by rw [e]))⟩
theorem keeps_calls (g : Nat) (us : List Seen) (u : Nat) (t most : Int) (w : World) (hT : MonthT w) (hU : w.heap[g]? = some (.cells (encU us).toArray 68 (0, 0))) (hl : us.length = 6) (hu : 1 ≤ u ∧ u ≤ 5) (h0 : 0 ≤ t) (h1 : t ≤ 1099511627776) (hk : 0 ≤ us[u].kept ∧ us[u].kept ≤ 100000) :
  Calls Tryz.prog 42 #[.pointer (some ⟨g, 3 * u, none⟩), .int .i64 (u : Int), .int .i64 t, .int .i64 most] w fun e w' => e = .returned (.bool (keepsP us[u] (keyI u t) most).1) ∧ w'.heap[g]? = some (.cells (encU (us.set u (keepsP us[u] (keyI u t) most).2)).toArray 68 (0, 0)) ∧ w.grownBy w' (some g) := by
 have hu67 := Tryz.underlying67
 have HK := Sd.mk (fun W (hB : Below w.heap.size w W) => civil_Key_calls (u : Int) t (by omega) h0 h1 W (hT.below hB))
 have hset := fun s => encU_set hl (u := u) (by omega) s
 have hsame : us.set u us[u] = us := List.set_getElem_self _
 have hat := encU_at hl (u := u) (by omega)
 have hkk := Sd.mk hk
 generalize hs : us[u] = s at hk hkk hsame hat ⊢
 have HH := Sd.mk (And.intro hset (And.intro hsame hat))
 generalize keyI u t = key at HK ⊢
 clear hset hsame hat hs hk hT h0 h1
 have HU0 := Sd.mk hU
 clear hU
 have hcs : s.any = false ∨ (s.any = true ∧ (s.last == key) = false) ∨ (s.any = true ∧ (s.last == key) = true) := by cases s.any <;> cases (s.last == key) <;> simp
 have hw1 : wrap64 (s.kept + 1) = s.kept + 1 := wrap_id (by have := hkk.out; omega)
 have HW := Sd.mk hw1
 clear hw1
 rcases hcs with ha | ⟨ha, hb⟩ | ⟨ha, hb⟩
 all_goals
  have HP : Sd (keepsP s key most = if (s.any && s.last == key) = true then (false, s) else (decide (s.kept + 1 ≤ most), ⟨key, s.kept + 1, true⟩)) := ⟨rfl⟩
  first | rw [ha, hb, if_pos (by rfl)] at HP | rw [ha, hb, if_neg (by decide)] at HP | rw [ha, Bool.false_and, if_neg (by decide)] at HP
  rw [HP.out]
  go_enter Tryz.func42, Tryz.ntmps42
  go_wp2_with (fail)
  refine (HK.out _ (Below.refl _ _)).mono ?_
  rintro e w1 ⟨rfl, hB⟩
  have HU := Sd.mk (blk_below HU0.out hB)
  have HB := Sd.mk hB
  have c0 : w1.cell? ⟨g, 3 * u, none⟩ = some (.int .i64 s.last) := (blk_cell HU.out _).trans HH.out.2.2.1
  have c1 : w1.cell? ⟨g, 3 * u + 1, none⟩ = some (.int .i64 s.kept) := (blk_cell HU.out _).trans HH.out.2.2.2.1
  have c2 : w1.cell? ⟨g, 3 * u + 2, none⟩ = some (.bool s.any) := (blk_cell HU.out _).trans HH.out.2.2.2.2
  rw [ha] at c2
  have f0 := blk_frozen HU.out (3 * u)
  have f1 := blk_frozen HU.out (3 * u + 1)
  have f2 := blk_frozen HU.out (3 * u + 2)
  clear hB
  go_wp2_with (fail)
  try rw [HW.out]
  go_ret
  first | exact ⟨rfl, by rw [HH.out.2.1]; exact HU.out, grown_of_below HB.out _⟩ | exact ⟨rfl, by have h := blk_set (blk_set (blk_set HU.out (3 * u + 2) (.bool true)) (3 * u) (.int .i64 key)) (3 * u + 1) (.int .i64 (s.kept + 1)); rw [HH.out.1 ⟨key, s.kept + 1, true⟩] at h; exact h, ((grown_of_below HB.out _).trans (grown_set _ _ _ _)).trans ((grown_set _ _ _ _).trans (grown_set _ _ _ _))⟩
end Go.Proofs.YtpdkgpmcmebefaaGreatDoor.Q
namespace Go.Proofs.YtpdkgpmcmebefaaGreatDoor.Q
open Go.RowKit Go.Shelf Go.Proofs.YtpdkgpmcmebefaaGreatDoorW.PrintWords Go.Proofs.YtpdkgpmcmebefaaGreatDoorW.PrintLast Go.Proofs.YtpdkgpmcmebefaaGreatDoorW.PrintMore
attribute [local go_sem] max2_int min2_int max_two min_two max_three min_three max_four min_four
def AsksC (W : World) (f : FuncId) (cap : Array Value) (l : List ByteArray) (q : ByteArray → Bool) : Prop :=
 Enters Tryz.prog f ∧ ∀ w, Below W.heap.size W w → ∀ m ∈ l, Calls Tryz.prog f (#[.string m] ++ cap) w fun e w' => e = .returned (.bool (q m)) ∧ Below w.heap.size w w'
theorem any_take {α : Type} (q : α → Bool) (l : List α) (k : Nat) (x : α) (h : l[k]? = some x) : (l.take (k + 1)).any q = ((l.take k).any q || q x) := by
 rw [List.take_add_one, h]
 simp
def idxP {α : Type} (l : List α) (q : α → Bool) : Int := if l.any q then ((l.findIdx q : Nat) : Int) else -1
theorem idxP_none {α : Type} {l : List α} {q : α → Bool} (h : l.any q = false) : idxP l q = -1 := by unfold idxP; rw [h]; rfl
theorem idxP_at {α : Type} {l : List α} {q : α → Bool} {k : Nat} {x : α} (hx : l[k]? = some x) (h : q x = true) (h0 : (l.take k).any q = false) : idxP l q = k := by
 have hk : k < l.length := (List.getElem?_eq_some_iff.1 hx).1
 have hxe : l[k] = x := (List.getElem?_eq_some_iff.1 hx).2
 have ha : l.any q = true := List.any_eq_true.2 ⟨x, List.mem_of_getElem? hx, h⟩
 unfold idxP; rw [ha]
 have : l.findIdx q = k := by
  rw [List.findIdx_eq hk]
  refine ⟨by rw [hxe]; exact h, fun j hj => ?_⟩
  rw [List.any_eq_false] at h0
  have := h0 l[j] (List.mem_take_iff_getElem.2 ⟨j, by omega, rfl⟩)
  simpa using this
 simp [this]
theorem indexf_calls (A : Option Addr) (c : Nat) (l : List ByteArray) (f : FuncId) (cap : Array Value) (q : ByteArray → Bool) (w : World) (h : Kd.C Kd.string w A l.length l) (hl : l.length ≤ 10000) (hq : AsksC w f cap l q) :
  Calls Tryz.prog 79 #[.slice A l.length c, .func (.func f) #[] cap] w fun e w' => e = .returned (.int .i64 (idxP l q)) ∧ Below w.heap.size w w' := by
 have HC := Sd.mk h
 have HA := Sd.mk hq
 clear h hq
 go_enter Tryz.func79, Tryz.ntmps79
 go_wp2_with (fail)
 go_loopw [8] (fun v8 wr => ∃ k : Nat, k ≤ l.length ∧ v8 = .int .i64 k ∧ Sd ((l.take k).any q = false) ∧ Sd (Below w.heap.size w wr)) (fun v8 _ => l.length - (intOf v8).toNat)
 case atStart => exact ⟨0, Nat.zero_le _, rfl, ⟨rfl⟩, ⟨Below.refl _ _⟩⟩
 case round =>
  obtain ⟨k, hk, rfl, HQ, HW⟩ := hrel
  by_cases hlt : k < l.length
  ·obtain ⟨m, hm⟩ : ∃ r, l[k]? = some r := ⟨_, List.getElem?_eq_getElem hlt⟩
   have hrm : m ∈ l := List.mem_of_getElem? hm
   obtain ⟨ad, e0, hcell⟩ := Kd.at_string (Kd.C_below HC.out HW.out) (k : Int) (by omega) (by omega)
   rw [rdJ_at hm, Int.toNat_natCast] at hcell
   have HCA := Sd.mk (HA.out.2 wr HW.out m hrm)
   have HM := Sd.mk hm
   have HTK := Sd.mk (any_take q l k m hm)
   cases e0
   clear hrm hm
   go_wp2_with (fail)
   rw [HA.out.1, Oper.upon_enter]
   refine HCA.out.mono ?_
   rintro e1 w1 ⟨rfl, hB⟩
   have HW1 := Sd.mk (below_step HW.out hB)
   clear hB HCA HW
   cases hb : q m with
   | true =>
    have HN : Sd (idxP l q = k) := ⟨idxP_at HM.out hb HQ.out⟩
    go_wp2_with (fail)
    go_ret
    exact ⟨by rw [HN.out]; rfl, HW1.out⟩
   | false =>
    have HN : Sd ((l.take (k + 1)).any q = false) := ⟨by rw [HTK.out, HQ.out, hb]; rfl⟩
    go_wp2_with (fail)
    go_roundw
    case rel => exact ⟨k + 1, hlt, by go_simp, HN, HW1⟩
    case measure => simp [intOf]; omega
  ·obtain rfl : k = l.length := by omega
   have HN : Sd (l.any q = false) := ⟨by have := HQ.out; rwa [List.take_length] at this⟩
   go_wp2_with (fail)
   go_ret
   exact ⟨by rw [idxP_none HN.out]; rfl, HW.out⟩
theorem idxP_ge {α : Type} (l : List α) (q : α → Bool) : decide (0 ≤ idxP l q) = l.any q := by
 unfold idxP
 cases l.any q <;> simp
theorem containsf_calls (A : Option Addr) (c : Nat) (l : List ByteArray) (f : FuncId) (cap : Array Value) (q : ByteArray → Bool) (w : World) (h : Kd.C Kd.string w A l.length l) (hl : l.length ≤ 10000) (hq : AsksC w f cap l q) :
  Calls Tryz.prog 43 #[.slice A l.length c, .func (.func f) #[] cap] w fun e w' => e = .returned (.bool (l.any q)) ∧ Below w.heap.size w w' := by
 have HG := Sd.mk (idxP_ge l q)
 have HC := Sd.mk (indexf_calls A c l f cap q w h hl hq)
 clear h hq
 go_enter Tryz.func43, Tryz.ntmps43
 go_wp2_with (fail)
 refine HC.out.mono ?_
 rintro e1 w1 ⟨rfl, hB⟩
 have HB := Sd.mk hB
 clear hB HC
 generalize idxP l q = r at HG ⊢
 obtain ⟨b, hb⟩ : ∃ b, b = l.any q := ⟨_, rfl⟩
 have d1 : decide (0 ≤ r) = b := by rw [hb]; exact HG.out
 have HBQ := Sd.mk hb
 clear HG hb
 go_wp2_with (fail)
 go_ret
 exact ⟨by rw [← HBQ.out]; rfl, HB.out⟩
def hasTag (tags : List ByteArray) (t : ByteArray) : Bool := tags.any (fun x => x.toList == t.toList)
theorem hasTag_has (tags : List ByteArray) (t : ByteArray) : Lib.containsS tags t = hasTag tags t := by
 rw [Bool.eq_iff_iff, Lib.containsS_iff]
 unfold hasTag
 rw [List.any_eq_true]
 constructor
 ·intro h
  exact ⟨t, h, beq_self_eq_true _⟩
 ·rintro ⟨x, hx, he⟩
  rw [← eq_of_toList (eq_of_beq he)]
  exact hx
theorem contains_calls (A : Option Addr) (c : Nat) (l : List ByteArray) (t : ByteArray) (w : World) (h : Kd.C Kd.string w A l.length l) (hl : l.length ≤ 10000) :
  Calls Tryz.prog 45 #[.slice A l.length c, .string t] w fun e w' => e = .returned (.bool (hasTag l t)) ∧ w' = w := by
 cases l with
 | nil => exact Tryz.slices_Contains_string_empty A c t w
 | cons x r =>
  generalize hL : x :: r = l at *
  have hp : 0 < l.length := by rw [← hL]; simp
  obtain ⟨ad, rfl, h0⟩ := Kd.at_string h (0 : Int) (by omega) (by omega)
  have e0 : ad.add (0 : Int).toNat = ad := rfl
  rw [e0] at h0
  obtain ⟨e1, hb⟩ := addr_of h0
  have hcells : ∀ j, j < l.length → w.cell? ⟨ad.block, ad.off + j, none⟩ = some (.string (l.getD j ByteArray.empty)) := by
   intro j hj
   obtain ⟨ad2, h2, h3⟩ := Kd.at_string h (j : Int) (by omega) (by omega)
   injection h2 with h2
   subst h2
   have h4 : rdOf ByteArray.empty l (j : Int) = l.getD j ByteArray.empty := rfl
   rw [Int.toNat_natCast] at h3
   rw [← h4, ← h3]
   congr 1
   unfold Addr.add
   split
   ·rename_i h4; rw [h4]; exact e1.symm
   ·rfl
  have := Tryz.slices_Contains_string ad.block ad.off l.length c l t w (Nat.le_refl _) (by omega) hcells
  rw [List.take_length, hasTag_has] at this
  rw [e1]
  exact this
theorem tag_calls (g : Nat) (p : Pol) (A : Option Addr) (c : Nat) (t : ByteArray) (w : World) (hb : w.heap[g]? = some (.cells #[.int .i64 p.last, .int .i64 p.hour, .int .i64 p.day, .int .i64 p.week, .int .i64 p.month, .int .i64 p.year, .int .i64 p.within, .slice A p.tags.length c] 24 (0, 0))) (h : Kd.C Kd.string w A p.tags.length p.tags) (hl : p.tags.length ≤ 10000) :
  Calls Tryz.prog 44 #[.string t, .pointer (some ⟨g, 0, none⟩)] w fun e w' => e = .returned (.bool (hasTag p.tags t)) ∧ Below w.heap.size w w' := by
 have hu24 := Tryz.underlying24
 have HC := Sd.mk (fun W (hB : Below w.heap.size w W) => contains_calls A c p.tags t W (Kd.C_below h hB) hl)
 have x7 : w.cell? ⟨g, 7, none⟩ = some (.slice A p.tags.length c) := (blk_cell hb 7).trans rfl
 clear h hb
 go_enter Tryz.func44, Tryz.ntmps44
 go_wp2_with (fail)
 refine (HC.out _ (Below.refl _ _)).mono ?_
 rintro e1 w1 ⟨rfl, rfl⟩
 go_wp2_with (fail)
 go_ret
 exact ⟨rfl, Below.refl _ _⟩
theorem tag_asks (g : Nat) (p : Pol) (A : Option Addr) (c : Nat) (l : List ByteArray) (w : World) (hb : w.heap[g]? = some (.cells #[.int .i64 p.last, .int .i64 p.hour, .int .i64 p.day, .int .i64 p.week, .int .i64 p.month, .int .i64 p.year, .int .i64 p.within, .slice A p.tags.length c] 24 (0, 0))) (h : Kd.C Kd.string w A p.tags.length p.tags) (hl : p.tags.length ≤ 10000) :
  AsksC w 44 #[.pointer (some ⟨g, 0, none⟩)] l (hasTag p.tags) :=
 ⟨enters_of Tryz.func44 (by kernel_rfl) rfl, fun W hB m _ => tag_calls g p A c m W (blk_below hb hB) (Kd.C_below h hB) hl⟩
end Go.Proofs.YtpdkgpmcmebefaaGreatDoor.Q
namespace Go.Proofs.YtpdkgpmcmebefaaGreatDoor.Q
open Go.RowKit Go.Proofs.YtpdkgpmcmebefaaGreatDoorW.PrintWords Go.Proofs.YtpdkgpmcmebefaaGreatDoorW.PrintLast Go.Proofs.YtpdkgpmcmebefaaGreatDoorW.PrintMore
attribute [local go_sem] max2_int min2_int max_two min_two max_three min_three max_four min_four
def atS (l : List S28) (i : Nat) : S28 := rd_T28 l (i : Int)
def seen0 : Seen := ⟨0, 0, false⟩
noncomputable def uStep (p : Pol) (t : Int) (st : Bool × List Seen) (u : Nat) : Bool × List Seen :=
 if u = 0 then st else (st.1 || (keepsP (st.2.getD u seen0) (keyI (u : Int) t) (rd (unitsP p) (u : Int))).1, st.2.set u (keepsP (st.2.getD u seen0) (keyI (u : Int) t) (rd (unitsP p) (u : Int))).2)
noncomputable def uFold (p : Pol) (t : Int) (us : List Seen) (k : Nat) : Bool × List Seen := (List.range k).foldl (uStep p t) (false, us)
def nearP (p : Pol) (l : List S28) (pl : List Nat) (x : S28) : Bool := decide (0 < p.within) && decide (wrap64 ((atS l (pl.getD 0 0)).f0 - x.f0) ≤ p.within)
def tagB (p : Pol) (x : S28) : Bool := x.f3.any (hasTag p.tags)
noncomputable def gStep (p : Pol) (l : List S28) (pl : List Nat) (st : List Seen × List Bool) (n : Nat) : List Seen × List Bool :=
 ((uFold p (atS l (pl.getD n 0)).f0 st.1 6).2, st.2.set (pl.getD n 0) (st.2.getD (pl.getD n 0) false || (((decide ((n : Int) < p.last) || (uFold p (atS l (pl.getD n 0)).f0 st.1 6).1) || nearP p l pl (atS l (pl.getD n 0))) || tagB p (atS l (pl.getD n 0)))))
def us0 : List Seen := List.replicate 6 seen0
noncomputable def gFold (p : Pol) (l : List S28) (pl : List Nat) (ks : List Bool) (n : Nat) : List Seen × List Bool := (List.range n).foldl (gStep p l pl) (us0, ks)
theorem uFold_succ (p : Pol) (t : Int) (us : List Seen) (k : Nat) : uFold p t us (k + 1) = uStep p t (uFold p t us k) k := by
 unfold uFold
 rw [List.range_succ, List.foldl_append]
 rfl
theorem gFold_succ (p : Pol) (l : List S28) (pl : List Nat) (ks : List Bool) (k : Nat) : gFold p l pl ks (k + 1) = gStep p l pl (gFold p l pl ks k) k := by
 unfold gFold
 rw [List.range_succ, List.foldl_append]
 rfl
def SeenOk (us : List Seen) (n : Nat) : Prop := us.length = 6 ∧ ∀ s ∈ us, 0 ≤ s.kept ∧ s.kept ≤ n
theorem SeenOk.zero : SeenOk us0 0 := ⟨rfl, fun s hs => by unfold us0 at hs; rw [List.mem_replicate] at hs; rw [hs.2]; exact ⟨by decide, by decide⟩⟩
theorem SeenOk.get {us : List Seen} {n : Nat} (h : SeenOk us n) {u : Nat} (hu : u < 6) : 0 ≤ (us.getD u seen0).kept ∧ (us.getD u seen0).kept ≤ n := by
 have hl : u < us.length := by rw [h.1]; exact hu
 rw [List.getD_eq_getElem?_getD, List.getElem?_eq_getElem hl]
 exact h.2 _ (List.getElem_mem hl)
theorem keeps_kept (s : Seen) (key most : Int) : s.kept ≤ (keepsP s key most).2.kept ∧ (keepsP s key most).2.kept ≤ s.kept + 1 := by
 unfold keepsP
 split
 ·exact ⟨by dsimp only; omega, by dsimp only; omega⟩
 ·exact ⟨by dsimp only; omega, by dsimp only; omega⟩
def SeenMid (us : List Seen) (n k : Nat) : Prop := us.length = 6 ∧ ∀ u, u < 6 → 0 ≤ (us.getD u seen0).kept ∧ (us.getD u seen0).kept ≤ n + (if u < k then 1 else 0)
theorem SeenOk.mid {us : List Seen} {n : Nat} (h : SeenOk us n) : SeenMid us n 0 := ⟨h.1, fun u hu => by have := h.get hu; rw [if_neg (Nat.not_lt_zero u)]; omega⟩
theorem SeenMid.step {us : List Seen} {n k : Nat} (h : SeenMid us n k) (hk : k < 6) (key most : Int) : SeenMid (us.set k (keepsP (us.getD k seen0) key most).2) n (k + 1) := by
 refine ⟨by rw [List.length_set]; exact h.1, fun u hu => ?_⟩
 have h0 := h.2 u hu
 by_cases e : u = k
 ·subst e
  have h1 := keeps_kept (us.getD u seen0) key most
  have : (us.set u (keepsP (us.getD u seen0) key most).2).getD u seen0 = (keepsP (us.getD u seen0) key most).2 := by
   rw [List.getD_eq_getElem?_getD, List.getElem?_set_self (by rw [h.1]; exact hu)]
   rfl
  rw [this]
  have h3 : ¬ u < u := Nat.lt_irrefl _
  rw [if_neg h3] at h0
  rw [if_pos (Nat.lt_succ_self _)]
  omega
 ·have : (us.set k (keepsP (us.getD k seen0) key most).2).getD u seen0 = us.getD u seen0 := by
   rw [List.getD_eq_getElem?_getD, List.getElem?_set_ne (fun h => e h.symm), ← List.getD_eq_getElem?_getD]
  rw [this]
  by_cases h4 : u < k
  ·rw [if_pos h4] at h0
   rw [if_pos (by omega)]
   exact h0
  ·rw [if_neg h4] at h0
   rw [if_neg (by omega)]
   exact h0
theorem SeenMid.skip {us : List Seen} {n k : Nat} (h : SeenMid us n k) : SeenMid us n (k + 1) := ⟨h.1, fun u hu => by
 have h0 := h.2 u hu
 by_cases h4 : u < k
 ·rw [if_pos h4] at h0
  rw [if_pos (by omega)]
  exact h0
 ·rw [if_neg h4] at h0
  split <;> omega⟩
theorem SeenMid.ok {us : List Seen} {n : Nat} (h : SeenMid us n 6) : SeenOk us (n + 1) := ⟨h.1, fun s hs => by
 obtain ⟨u, hu, rfl⟩ := List.getElem_of_mem hs
 have hu6 : u < 6 := by rw [← h.1]; exact hu
 have h0 := h.2 u hu6
 rw [if_pos hu6, List.getD_eq_getElem?_getD, List.getElem?_eq_getElem hu] at h0
 exact ⟨h0.1, h0.2⟩⟩
theorem uFold_mid (p : Pol) (t : Int) (us : List Seen) (n : Nat) (h : SeenOk us n) : ∀ k, k ≤ 6 → SeenMid (uFold p t us k).2 n k
 | 0, _ => h.mid
 | k + 1, hk => by
  rw [uFold_succ]
  unfold uStep
  split
  ·exact (uFold_mid p t us n h k (by omega)).skip
  ·exact (uFold_mid p t us n h k (by omega)).step (by omega) _ _
theorem gFold_ok (p : Pol) (l : List S28) (pl : List Nat) (ks : List Bool) : ∀ n, SeenOk (gFold p l pl ks n).1 n ∧ (gFold p l pl ks n).2.length = ks.length
 | 0 => ⟨SeenOk.zero, rfl⟩
 | n + 1 => by
  rw [gFold_succ]
  have ih := gFold_ok p l pl ks n
  exact ⟨(uFold_mid p _ _ n ih.1 6 (by omega)).ok, by unfold gStep; simp [ih.2]⟩
def WSt (W : World) (gw : Nat) (ks : List Bool) : Prop := ∃ ws : List Int, W.heap[gw]? = some (.cells (ws.map (Value.int .i64)).toArray 3 (0, 0)) ∧ ws.length = ks.length ∧ ∀ j : Nat, j < ks.length → (ws.getD j 0 = 0 ↔ ks.getD j false = false)
def IRow (W : World) (g : Nat) (pl : List Nat) : Prop := ∃ (cur : Array Value) (t : TypeId), W.heap[g]? = some (.cells cur t (0, 0)) ∧ ∀ (j : Nat) (x : Nat), pl[j]? = some x → cur[j]? = some (.int .i64 (x : Int))
theorem blk_grown {W W' : World} {g r : Nat} {o : Obj} (h : W.heap[g]? = some o) (hg : W.grownBy W' (some r)) (hn : g ≠ r) : W'.heap[g]? = some o := (hg.block g (blk_lt h) (fun e => hn (Option.some.inj e))).trans h
theorem IRow.grown {W W' : World} {g r : Nat} {pl : List Nat} (h : IRow W g pl) (hg : W.grownBy W' (some r)) (hn : g ≠ r) : IRow W' g pl := by
 obtain ⟨cur, t, h1, h2⟩ := h
 exact ⟨cur, t, blk_grown h1 hg hn, h2⟩
theorem IRow.cell {W : World} {g : Nat} {pl : List Nat} (h : IRow W g pl) {j x : Nat} (hx : pl[j]? = some x) : W.cell? ⟨g, j, none⟩ = some (.int .i64 (x : Int)) := by
 obtain ⟨cur, t, h1, h2⟩ := h
 exact (blk_cell h1 j).trans (h2 j x hx)
theorem WSt.grown {W W' : World} {g r : Nat} {ks : List Bool} (h : WSt W g ks) (hg : W.grownBy W' (some r)) (hn : g ≠ r) : WSt W' g ks := by
 obtain ⟨ws, h1, h2⟩ := h
 exact ⟨ws, blk_grown h1 hg hn, h2⟩
theorem WSt.below {W W' : World} {g : Nat} {ks : List Bool} (h : WSt W g ks) (hg : Below W.heap.size W W') : WSt W' g ks := by
 obtain ⟨ws, h1, h2⟩ := h
 exact ⟨ws, blk_below h1 hg, h2⟩
theorem WSt.cell {W : World} {g : Nat} {ks : List Bool} (h : WSt W g ks) {i : Nat} (hi : i < ks.length) : ∃ v : Int, W.cell? ⟨g, i, none⟩ = some (.int .i64 v) ∧ W.frozen? ⟨g, i, none⟩ = false := by
 obtain ⟨ws, h1, h2, h3⟩ := h
 refine ⟨ws.getD i 0, (blk_cell h1 i).trans ?_, blk_frozen h1 i⟩
 have hw : i < ws.length := by omega
 rw [List.getElem?_toArray, List.getElem?_map, List.getElem?_eq_getElem hw, List.getD_eq_getElem?_getD, List.getElem?_eq_getElem hw]
 rfl
theorem WSt.set {W : World} {g : Nat} {ks : List Bool} (h : WSt W g ks) {i : Nat} (hi : i < ks.length) (v : Int) (hv : v ≠ 0) : WSt (W.setCell ⟨g, i, none⟩ (.int .i64 v)) g (ks.set i true) := by
 obtain ⟨ws, h1, h2, h3⟩ := h
 refine ⟨ws.set i v, ?_, by rw [List.length_set, List.length_set]; exact h2, fun j hj => ?_⟩
 ·rw [blk_set h1 i]
  congr 2
  apply Array.toList_inj.1
  simp
 ·rw [List.length_set] at hj
  have h4 := h3 j hj
  rw [List.getD_eq_getElem?_getD, List.getD_eq_getElem?_getD, List.getElem?_set, List.getElem?_set] at *
  by_cases e : i = j
  ·subst e
   rw [if_pos rfl, if_pos rfl, if_pos (by omega), if_pos hi]
   simp [hv]
  ·rw [if_neg e, if_neg e]
   exact h4
theorem set_self {ks : List Bool} {i : Nat} : ks.set i (ks.getD i false || false) = ks := by
 rw [Bool.or_false]
 by_cases h : i < ks.length
 ·have : ks.getD i false = ks[i] := by rw [List.getD_eq_getElem?_getD, List.getElem?_eq_getElem h]; rfl
  rw [this]
  exact List.set_getElem_self h
 ·exact List.set_eq_of_length_le (by omega)
end Go.Proofs.YtpdkgpmcmebefaaGreatDoor.Q
namespace Go.Proofs.YtpdkgpmcmebefaaGreatDoor.Q
open Go.RowKit Go.Maps Go.ChangeShapes Go.MapKept Go.Proofs.YtpdkgpmcmebefaaGreatDoorW.PrintWords Go.Proofs.YtpdkgpmcmebefaaGreatDoorW.PrintLast Go.Proofs.YtpdkgpmcmebefaaGreatDoorW.PrintMore
attribute [local go_sem] max2_int min2_int max_two min_two max_three min_three max_four min_four
theorem law9 : Keyed Tryz.prog 9 := string_keyed Tryz.underlying9
theorem zero39 (w : World) : (zeroValue 39).run Tryz.prog w = .ok (.slice none 0 0) w := by kernel_rfl
abbrev kN : Kd Nat := Kd.scalar (fun n : Nat => .int .i64 (n : Int)) (fun _ => rfl)
def gd (zs : List Nat) : DataW Unit := if zs = [] then .nil else .slice (lits .i64 (zs.map fun n : Nat => (n : Int))) []
theorem lits_inj {a b : List Int} (h : lits (H := Unit) .i64 a = lits .i64 b) : a = b := by
 unfold lits at h
 exact (List.map_inj_right (fun x y hxy => by injection hxy with hxy; injection hxy)).1 h
theorem gd_row {w : World} {base : Nat} {v : Value} {zs : List Int} {G : List Nat} (h : gd G = rowDatum .i64 v zs) (ho : w.ownsInts base 3 .i64 v zs) : zs = G.map fun n : Nat => (n : Int) := by
 unfold gd at h
 by_cases hG : G = []
 ·rw [if_pos hG] at h
  rcases ho.datum (H := Unit) with ⟨_, h0⟩ | h1
  ·rw [h0, hG]; rfl
  ·rw [h1] at h
   cases h
 ·rw [if_neg hG] at h
  rcases ho.datum (H := Unit) with ⟨h0, _⟩ | h1
  ·rw [h0] at h
   cases h
  ·rw [h1] at h
   injection h with h
   exact (lits_inj h).symm
theorem enc_cast (G : List Nat) : (G.map fun n : Nat => (n : Int)).map (Value.int .i64) = encs (fun n : Nat => .int .i64 (n : Int)) G := by
 unfold encs
 rw [List.map_map]
 rfl
def GAt (w : World) (base b n : Nat) (G : List UInt8 → List Nat) : Prop := ∃ D : DataW Unit, w.ownsGroups Tryz.prog 9 base 3 .i64 b n D ∧ IsMap D ∧ ∀ x, D.atKey (.string x) .nil = gd (G x)
theorem GAt.made (w : World) : GAt (w.alloc (.map #[] 0)) (w.heap.size + 1) w.heap.size 0 (fun _ => []) := ⟨_, World.ownsGroups_made w _ _ _ _, ⟨_, rfl⟩, fun _ => rfl⟩
def updG (G : List UInt8 → List Nat) (s : List UInt8) (l : List Nat) : List UInt8 → List Nat := fun x => if x = s then l else G x
def GBack (w : World) (base b n : Nat) (G : List UInt8 → List Nat) (s : ByteArray) (v : Value) : Prop :=
 ∀ (w1 : World) (v' : Value) (l : List Nat), w.grownBy w1 v.ownBlock → kN.R 3 w1 base (fun _ => True) v' l → l ≠ [] → l.length ≤ n + 1 → (∀ x ∈ l, x ≤ 1000000) → (v'.ownBlock = v.ownBlock ∨ ∃ g, v'.ownBlock = some g ∧ w.heap.size ≤ g) →
  ∃ w2, (Instr.mapUpdate 61 (.map (some b)) (.string s) v').run Tryz.prog w1 = .ok () w2 ∧ GAt w2 base b (n + 1) (updG G s.data.toList l) ∧ w1.grownBy w2 (some b)
theorem GAt.look {w : World} {base b n : Nat} {G : List UInt8 → List Nat} {s : ByteArray} (h : GAt w base b n G) (hs : s.size ≤ maxLen) (hn : n < maxLen) :
  ∃ v, (Instr.lookup 61 (.map (some b)) (.string s) false).run Tryz.prog w = .ok v w ∧ kN.R 3 w base (fun _ => True) v (G s.data.toList) ∧ (G s.data.toList).length ≤ n ∧ ((G s.data.toList = [] ∧ v = .slice none 0 0) ∨ (G s.data.toList ≠ [] ∧ ∃ g c, v = .slice (some ⟨g, 0, none⟩) (G s.data.toList).length c)) ∧ GBack w base b n G s v := by
 obtain ⟨D, ho, hm, hG⟩ := h
 have hkey := Go.WideMaps.keyOf_string_mk Tryz.underlying9 hs
 obtain ⟨v, zs, hrun, hat, hoi, hl, hback⟩ := ho.at law9 Tryz.underlying61 (zero39 w) hn hkey
 rw [hG] at hat
 have hzs := gd_row hat hoi
 subst hzs
 have hform : (G s.data.toList = [] ∧ v = .slice none 0 0) ∨ (G s.data.toList ≠ [] ∧ ∃ g c, v = .slice (some ⟨g, 0, none⟩) (G s.data.toList).length c) := by
  by_cases hne : G s.data.toList = []
  ·refine .inl ⟨hne, ?_⟩
   rcases hoi.1.2 with ⟨hv, _⟩ | ⟨g, cap, cur, rfl, _⟩
   ·exact hv
   ·unfold gd at hat
    rw [if_pos hne] at hat
    cases hat
  ·refine .inr ⟨hne, ?_⟩
   rcases hoi.1.2 with ⟨_, h0⟩ | ⟨g, cap, cur, hv, _⟩
   ·simp at h0
    exact absurd h0 hne
   ·rw [List.length_map] at hv
    exact ⟨g, cap, hv⟩
 refine ⟨v, hrun, Kd.R_of_own (by have := hoi.1; rw [List.length_map, enc_cast] at this; exact this) (fun _ _ => trivial), by simpa using hl, hform, fun w1 v' l hg hr hne hll hx hloc => ?_⟩
 have hoi' : w1.ownsInts base 3 .i64 v' (l.map fun n : Nat => (n : Int)) := ⟨by rw [List.length_map, enc_cast]; exact Kd.own_of_R hr, fun z hz => by
  obtain ⟨y, hy, rfl⟩ := List.mem_map.1 hz
  have := hx y hy
  have e1 : IntKind.i64.min = -9223372036854775808 := by decide
  have e2 : IntKind.i64.max = 9223372036854775807 := by decide
  unfold Lit.wf
  rw [Bool.and_eq_true, e1, e2]
  exact ⟨decide_eq_true (by omega), decide_eq_true (by omega)⟩⟩
 obtain ⟨w2, h1, h2, h3⟩ := hback w1 v' _ hg hoi' (by simpa using hll) hloc
 refine ⟨w2, h1, ⟨_, h2, hm.put _ _, fun x => ?_⟩, h3⟩
 unfold updG
 by_cases e : x = s.data.toList
 ·rw [if_pos e, e, atKey_put_same hm (law9.key hkey)]
  unfold gd
  rw [if_neg hne]
  rw [hoi'.datum_pos (by simpa using hne)]
 ·rw [if_neg e, atKey_put_other (fun h => e (by injection h)), hG]
theorem GAt.kept {w w' : World} {base b n : Nat} {G : List UInt8 → List Nat} (h : GAt w base b n G) {row : Option Nat} (hg : w.grownBy w' row) (hr : ∀ j, row = some j → w.heap.size ≤ j ∨ ∃ cells t, t ≠ 3 ∧ w.heap[j]? = some (.cells cells t (0, 0))) : GAt w' base b n G := by
 obtain ⟨D, ho, hm, hG⟩ := h
 refine ⟨D, ho.kept hg ?_ ?_, hm, hG⟩
 ·intro e
  obtain ⟨es, clock, hb, _⟩ := ho
  rcases hr b e.symm with h1 | ⟨cells, t, _, h1⟩
  ·have := blk_lt hb
   omega
  ·rw [hb] at h1
   cases h1
 ·intro es clock hb x hx
  obtain ⟨es', clock', hb', F, _⟩ := ho
  obtain ⟨rfl, rfl⟩ : es' = es ∧ clock' = clock := by rw [hb'] at hb; simpa using hb
  cases hx' : x.val.ownBlock with
  | none => exact Or.inl rfl
  | some g =>
   refine Or.inr (fun e1 => ?_)
   obtain ⟨y, hy⟩ := F.reads x hx
   obtain ⟨z, hz, _⟩ := Go.WideElems.rd_val hy
   obtain ⟨zs, hoi, _⟩ := rowElem_inv hz
   obtain ⟨c2, hc2⟩ := own_typed hoi.1 g hx'
   rcases hr g e1.symm with h1 | ⟨cells, t, ht, h1⟩
   ·have := blk_lt hc2
    omega
   ·rw [h1] at hc2
    simp only [Option.some.injEq, Obj.cells.injEq] at hc2
    exact ht hc2.2.1
theorem GAt.below {w w' : World} {base b n : Nat} {G : List UInt8 → List Nat} (h : GAt w base b n G) (hb : Below w.heap.size w w') : GAt w' base b n G := h.kept (grown_of_below hb none) (fun j hj => by cases hj)
theorem GAt.blk {w : World} {base b n : Nat} {G : List UInt8 → List Nat} (h : GAt w base b n G) : ∃ es clock, w.heap[b]? = some (.map es clock) := by
 obtain ⟨D, ⟨es, clock, hb, _⟩, _⟩ := h
 exact ⟨es, clock, hb⟩
theorem GAt.congr {w : World} {base b n : Nat} {G G' : List UInt8 → List Nat} (h : GAt w base b n G) (hG : ∀ x, G x = G' x) : GAt w base b n G' := by rwa [show G' = G from funext fun x => (hG x).symm]
section
variable (w : World) {ops : Array Oper} {rest : List Oper} {o : Oper} {a : Act} {Q : Exit → Act → World → Prop}
theorem wpList_lookup_run (hg : o.guard = none) (m x : Operand) (t : TypeId) (hop : o.op = Op.lookup t m x false) {mv key v : Value} (hm : a.eval m = mv) (hx : a.eval x = key) (hrun : (Instr.lookup t mv key false).run Tryz.prog w = .ok v w)
  (hK : wpList Tryz.prog ops Q rest (a.put o.dst v) w) : wpList Tryz.prog ops Q (o :: rest) a w := by
 refine wpList_plain hg fun K' hK' => ?_
 unfold Oper.wp
 simp [execOp, hop, hm, hx, hrun, Result.andThen]
 exact hK' _ _ hK
theorem wpList_update_run (hg : o.guard = none) (m x v : Operand) (t : TypeId) (hop : o.op = Op.mapUpdate t m x v) {mv key vv : Value} {w2 : World} (hm : a.eval m = mv) (hx : a.eval x = key) (hv : a.eval v = vv) (hrun : (Instr.mapUpdate t mv key vv).run Tryz.prog w = .ok () w2)
  (hK : wpList Tryz.prog ops Q rest (a.put o.dst undef) w2) : wpList Tryz.prog ops Q (o :: rest) a w := by
 refine wpList_plain hg fun K' hK' => ?_
 unfold Oper.wp
 simp [execOp, hop, hm, hx, hv, hrun, Result.andThen]
 exact hK' _ _ hK
end
theorem pair_uniq {l : List MapEntry} (h : l.Pairwise fun x y => x.key ≠ y.key) {a b : MapEntry} (ha : a ∈ l) (hb : b ∈ l) (he : a.key = b.key) : a = b := by
 obtain ⟨i, hi, rfl⟩ := List.getElem_of_mem ha
 obtain ⟨j, hj, rfl⟩ := List.getElem_of_mem hb
 have hp := List.pairwise_iff_getElem.1 h
 rcases Nat.lt_trichotomy i j with h1 | h1 | h1
 ·exact absurd he (hp i j hi hj h1)
 ·subst h1; rfl
 ·exact absurd he.symm (hp j i hj hi h1)
theorem GAt.rows {w : World} {base b n : Nat} {G : List UInt8 → List Nat} (h : GAt w base b n G) : ∃ V : ByteArray → Nat × Nat, ∀ s : ByteArray, s.size ≤ maxLen → G s.data.toList ≠ [] →
  (∀ W' : World, W'.heap[b]? = w.heap[b]? → (Instr.lookup 61 (.map (some b)) (.string s) false).run Tryz.prog W' = .ok (.slice (some ⟨(V s).1, 0, none⟩) (G s.data.toList).length (V s).2) W') ∧
  kN.R 3 w base (fun _ => True) (.slice (some ⟨(V s).1, 0, none⟩) (G s.data.toList).length (V s).2) (G s.data.toList) ∧
  ∀ t : ByteArray, t.size ≤ maxLen → G t.data.toList ≠ [] → t ≠ s → (V t).1 ≠ (V s).1 := by
 obtain ⟨D, ho, hm, hG⟩ := h
 obtain ⟨es, clock, hb, F, hs, rfl, hbb, hlen, hap⟩ := ho
 have key : ∀ s : ByteArray, s.size ≤ maxLen → G s.data.toList ≠ [] → ∃ e0 ∈ es.toList, e0.key = .string s ∧ (∀ W' : World, W'.heap[b]? = w.heap[b]? → (Instr.lookup 61 (.map (some b)) (.string s) false).run Tryz.prog W' = .ok e0.val W') ∧ ∃ g c, e0.val = .slice (some ⟨g, 0, none⟩) (G s.data.toList).length c ∧ kN.R 3 w base (fun _ => True) e0.val (G s.data.toList) := by
  intro s hs hne
  have hkey := Go.WideMaps.keyOf_string_mk Tryz.underlying9 hs
  rcases Maps.fit_look false law9 Tryz.underlying61 (zero39 w) hb F hkey with ⟨_, _, hat⟩ | ⟨e0, y, h1, h2, _, hR, hat, _⟩
  ·exfalso
   have h3 := hat .nil
   rw [hG] at h3
   unfold gd at h3
   rw [if_neg hne] at h3
   cases h3
  ·refine ⟨e0, h1, h2, fun W' hW => ?_, ?_⟩
   ·rcases Maps.fit_look false law9 Tryz.underlying61 (zero39 W') (hW.trans hb) F hkey with ⟨_, hno, _⟩ | ⟨e1, y1, h3, h4, hrun, _⟩
    ·exact absurd h2 (hno e0 h1)
    ·have : e1 = e0 := pair_uniq ((stamped_iff es clock).1 F.stamped).2.2 h3 h1 (h4.trans h2.symm)
     subst this
     exact hrun
   ·obtain ⟨zs, hoi, rfl⟩ := rowElem_inv hR
    have h3 := hat .nil
    rw [hG] at h3
    have hzs := gd_row h3 hoi
    subst hzs
    have hr : kN.R 3 w base (fun _ => True) e0.val (G s.data.toList) := Kd.R_of_own (by have := hoi.1; rw [List.length_map, enc_cast] at this; exact this) (fun _ _ => trivial)
    rcases hoi.1.2 with ⟨_, h0⟩ | ⟨g, cap, cur, hv, _⟩
    ·simp at h0
     exact absurd h0 hne
    ·rw [List.length_map] at hv
     exact ⟨g, cap, hv, hr⟩
 have key2 : ∀ s : ByteArray, ∃ p : Nat × Nat, s.size ≤ maxLen → G s.data.toList ≠ [] → ∃ e0 ∈ es.toList, e0.key = .string s ∧ (∀ W' : World, W'.heap[b]? = w.heap[b]? → (Instr.lookup 61 (.map (some b)) (.string s) false).run Tryz.prog W' = .ok e0.val W') ∧ e0.val = .slice (some ⟨p.1, 0, none⟩) (G s.data.toList).length p.2 ∧ kN.R 3 w base (fun _ => True) e0.val (G s.data.toList) := by
  intro s
  by_cases hc : s.size ≤ maxLen ∧ G s.data.toList ≠ []
  ·obtain ⟨e0, h1, h2, h3, g, c, h4, h5⟩ := key s hc.1 hc.2
   exact ⟨(g, c), fun _ _ => ⟨e0, h1, h2, h3, h4, h5⟩⟩
  ·exact ⟨(0, 0), fun h1 h2 => absurd ⟨h1, h2⟩ hc⟩
 obtain ⟨V, hV⟩ := Classical.axiomOfChoice key2
 refine ⟨V, fun s hs hne => ?_⟩
 obtain ⟨e0, h1, h2, h3, h4, h5⟩ := hV s hs hne
 refine ⟨fun W' hW => by rw [← h4]; exact h3 W' hW, by rw [← h4]; exact h5, fun t ht hnt hts => ?_⟩
 obtain ⟨e1, g1, g2, g3, g4, g5⟩ := hV t ht hnt
 have h6 := hap e1 g1 e0 h1 (by rw [g2, h2]; intro e; injection e with e; exact hts e)
 rw [g4, h4] at h6
 rcases h6 with h6 | h6
 ·cases h6
 ·intro e
  exact h6 (by show some _ = some _; rw [e])
end Go.Proofs.YtpdkgpmcmebefaaGreatDoor.Q
namespace Go.Proofs.YtpdkgpmcmebefaaGreatDoor.Q
open Go.RowKit Go.Proofs Go.Sort Go.Proofs.YtpdkgpmcmebefaaGreatDoorW.PrintWords Go.Proofs.YtpdkgpmcmebefaaGreatDoorW.PrintLast Go.Proofs.YtpdkgpmcmebefaaGreatDoorW.PrintMore
attribute [local go_sem] max2_int min2_int max_two min_two max_three min_three max_four min_four
theorem clo_calls (gb : Nat) (As : Option Addr) (cs : Nat) (l : List S28) (i k : Nat) (w : World) (hb : w.heap[gb]? = some (.cells #[.slice As l.length cs] 25 (0, 0))) (hC : Kd.C k28 w As l.length l) (hi : i < l.length) (hk : k < l.length) (hl : ∀ x ∈ l, x.f2.length ≤ 1000 ∧ x.f3.length ≤ 1000) :
  Calls Tryz.prog 40 #[.int .i64 (i : Int), .int .i64 (k : Int), .pointer (some ⟨gb, 0, none⟩)] w fun e w' => e = .returned (.int .i64 (newI l (i : Int) (k : Int))) ∧ Gr w w' := by
 have HN := Sd.mk (newest_calls As cs l (i : Int) (k : Int) w hC (by omega) (by omega) (by omega) (by omega) hl)
 have x0 : w.cell? ⟨gb, 0, none⟩ = some (.slice As l.length cs) := (blk_cell hb 0).trans rfl
 clear hb hC hi hk hl
 generalize newI l (i : Int) (k : Int) = r at HN ⊢
 go_enter Tryz.func40, Tryz.ntmps40
 go_wp2_with (fail)
 refine HN.out.mono ?_
 rintro e w1 ⟨rfl, hB⟩
 have HB := Sd.mk hB
 clear hB HN
 go_wp2_with (fail)
 go_ret
 exact ⟨rfl, HB.out⟩
theorem gr_grow {W w' : World} (h : Gr W w') : ∃ q os, w' = grow (W.drewN q) os := by
 obtain ⟨hb, hd⟩ := h
 refine ⟨w'.drawn - W.drawn, w'.heap.extract W.heap.size w'.heap.size, ?_⟩
 have hh : w'.heap = W.heap ++ w'.heap.extract W.heap.size w'.heap.size := by
  apply Array.ext_getElem?
  intro k
  by_cases hk : k < W.heap.size
  ·rw [hb.block k hk, Array.getElem?_append_left hk]
  ·rw [Array.getElem?_append_right (by omega), Array.getElem?_extract]
   have hs := hb.size
   by_cases h2 : k < w'.heap.size
   ·rw [if_pos (by omega), show W.heap.size + (k - W.heap.size) = k from by omega]
   ·rw [if_neg (by omega), Array.getElem?_eq_none (by omega)]
 cases w' with
 | mk heap tape drawn os output =>
  have h1 : os = W.os := hb.os
  have h2 : tape = W.tape := hb.tape
  have h3 : output = W.output := hb.output
  have h4 : drawn = W.drawn + (drawn - W.drawn) := by have : W.drawn ≤ drawn := hd; omega
  unfold grow World.drewN
  dsimp only at hh ⊢
  rw [← hh, ← h4, h1, h2, h3]
section
variable {α : Type} [Inhabited α] {enc : α → Value}
theorem grownBy_sw {w : World} {g n : Nat} {os : Array Obj} (d : Array α) : w.grownBy (sortWorld enc w g 0 n d os) (some g) := by
 unfold sortWorld
 refine ⟨rfl, rfl, rfl, by simp, fun k hk hne => ?_⟩
 rw [heap_grow_old _ _ (by simpa using hk)]
 have : g ≠ k := fun e => hne (by rw [e])
 simp [putRow, mapBlock, Sort.ahead, Array.getElem?_modify, this]
theorem holds_blk {w : World} {g : Nat} {cur : Array Value} {e : TypeId} {ss : List α} (hb : w.heap[g]? = some (.cells cur e (0, 0))) (ht : cur.toList.take ss.length = ss.map enc) : Holds enc w g 0 ss.toArray := by
 intro j hj
 have hj' : j < ss.length := by simpa using hj
 refine ⟨?_, by simp [World.frozen?, hb]⟩
 have h1 : (cur.toList.take ss.length)[j]? = (ss.map enc)[j]? := by rw [ht]
 rw [List.getElem?_take_of_lt hj'] at h1
 rw [Nat.zero_add, blk_cell hb, ← Array.getElem?_toList, h1]
 simp [hj']
theorem ownsRow_sw {w : World} {base g cap n : Nat} {e : TypeId} {os : Array Obj} {cur : Array Value} {ss ts : List α} (hl : ts.length = ss.length) (hbase : base ≤ g) (hb : w.heap[g]? = some (.cells cur e (0, 0)))
  (h1 : ss.length ≤ cap) (h2 : cap ≤ maxLen) (h3 : cur.size = cap * 1) :
  (sortWorld enc w g 0 n ts.toArray os).ownsRow base e 1 (.slice (some ⟨g, 0, none⟩) ss.length cap) ss.length (ts.map enc) := by
 refine ⟨by simp [hl], .inr ⟨g, cap, putCells enc 0 ts.toArray cur, rfl, hbase, ?_, h1, h2, by simp [putCells, h3], ?_⟩⟩
 ·unfold sortWorld
  have hg : g < w.heap.size := blk_lt hb
  rw [heap_grow_old _ _ (by simpa using hg)]
  simp [putRow, mapBlock, Sort.ahead, Array.getElem?_modify, hb, onCells]
 ·rw [Nat.mul_one, ← hl]
  apply List.ext_getElem?
  intro j
  by_cases hj : j < ts.length
  ·rw [List.getElem?_take_of_lt hj, Array.getElem?_toList]
   simp [putCells, hj, show j < cur.size by omega]
  ·rw [List.getElem?_take_eq_none (by omega), List.getElem?_eq_none (by simp; omega)]
end
theorem sortf_calls (gb g base cap : Nat) (As : Option Addr) (cs : Nat) (l : List S28) (pl : List Nat) (w0 w : World) (hb : w.heap[gb]? = some (.cells #[.slice As l.length cs] 25 (0, 0))) (hC : Kd.C k28 w0 As l.length l) (hB : Below w0.heap.size w0 w) (hR : kN.R 3 w base (fun _ => True) (.slice (some ⟨g, 0, none⟩) pl.length cap) pl) (hg : w0.heap.size ≤ g) (hpl : ∀ i ∈ pl, i < l.length) (hnd : pl.Nodup) (hne : pl ≠ []) (hpn : pl.length ≤ 1000) (hll : l.length ≤ 1000) (hl : ∀ x ∈ l, x.f2.length ≤ 1000 ∧ x.f3.length ≤ 1000) :
  Calls Tryz.prog 39 #[.slice (some ⟨g, 0, none⟩) pl.length cap, .func (.func 40) #[] #[.pointer (some ⟨gb, 0, none⟩)]] w fun e w' => e = .returned (.tuple #[]) ∧ (∃ sl : List Nat, sl.Perm pl ∧ sl.Pairwise (fun i k => cN l i k < 0) ∧ kN.R 3 w' base (fun _ => True) (.slice (some ⟨g, 0, none⟩) pl.length cap) sl) ∧ w.grownBy w' (some g) := by
 have ho := Kd.own_of_R hR
 obtain ⟨i0, hi0⟩ : ∃ i0, i0 ∈ pl := List.exists_mem_of_ne_nil _ hne
 haveI : Inhabited (Fin l.length) := ⟨⟨i0, hpl i0 hi0⟩⟩
 obtain ⟨ds, hds⟩ : ∃ ds : List (Fin l.length), ds.map (fun x => x.val) = pl := by
  refine ⟨pl.pmap (fun i h => (⟨i, h⟩ : Fin l.length)) hpl, ?_⟩
  rw [List.map_pmap]
  simp
 have hdl : ds.length = pl.length := by rw [← hds, List.length_map]
 obtain ⟨enc, henc⟩ : ∃ enc : Fin l.length → Value, enc = fun i => .int .i64 (i.val : Int) := ⟨_, rfl⟩
 have hee : ds.map enc = encs (fun n : Nat => .int .i64 (n : Int)) pl := by
  rw [← hds, henc]
  unfold encs
  rw [List.map_map]
  rfl
 obtain ⟨cf, hcf⟩ : ∃ cf : Fin l.length → Fin l.length → Int, cf = fun i k => newI l (i.val : Int) (k.val : Int) := ⟨_, rfl⟩
 have hneg : ∀ i k, cf i k < 0 ↔ cN l i.val k.val < 0 := fun i k => by
  rw [hcf]
  exact newI_neg l i.val k.val (by have := i.isLt; omega) (by have := k.isLt; omega)
 have hlt : ∀ i k, ltOf cf i k = decide (cN l i.val k.val < 0) := fun i k => by
  unfold ltOf
  exact decide_eq_decide.2 (hneg i k)
 have tc := tc_N l
 have hO : SWO (ltOf cf) := ⟨fun x => by rw [hlt, decide_eq_false_iff_not]; have := tc.same x.val; omega,
  fun x y z a b => by
   rw [hlt, decide_eq_true_eq] at *
   exact tc.lt_of_lt_of_le a (by omega),
  fun x y z a b => by
   rw [hlt, decide_eq_false_iff_not] at *
   have h1 := tc.1 x.val y.val
   have h2 := tc.1 y.val z.val
   have h3 := tc.1 x.val z.val
   have := tc.2 z.val y.val x.val (by omega) (by omega)
   omega⟩
 have hT : ∀ x y, ltOf cf x y = false → ltOf cf y x = false → x = y := fun x y a b => by
  rw [hlt, decide_eq_false_iff_not] at *
  have h1 := tc.1 x.val y.val
  exact Fin.ext (cN_total l (by omega))
 rcases ho.2 with ⟨hv, _⟩ | ⟨g', cap', cur, hv, hbase, hblk, h1, h2, h3, h4⟩
 ·cases hv
 injection hv with hv e1 e2
 injection hv with hv
 injection hv with hv
 subst hv e2
 rw [Nat.mul_one, ← hee, ← hdl] at h4
 have hgb : gb ≠ g := fun e => by
  subst e
  rw [hb] at hblk
  injection hblk with hblk
  injection hblk with _ hblk
  exact absurd hblk (by decide)
 have hcmp : CmpLays1 Tryz.prog 40 #[.pointer (some ⟨gb, 0, none⟩)] enc cf g 0 ds.toArray.size w := fun m os dk hdk x y => by
  have hgr : w.grownBy (sortWorld enc w g 0 m dk os) (some g) := grownBy_sw dk
  have hbl : Below w0.heap.size w0 (sortWorld enc w g 0 m dk os) := pw_below_grown hB _ hB.size hgr (fun k hk => by rw [← Option.some.inj hk]; exact hg)
  have h5 := clo_calls gb As cs l x.val y.val (sortWorld enc w g 0 m dk os) (blk_grown hb hgr hgb) (Kd.C_below hC hbl) x.isLt y.isLt hl
  have h6 : (#[enc x, enc y] ++ #[Value.pointer (some ⟨gb, 0, none⟩)] : Array Value) = #[.int .i64 (x.val : Int), .int .i64 (y.val : Int), .pointer (some ⟨gb, 0, none⟩)] := by rw [henc]; rfl
  rw [h6]
  refine h5.mono fun e w' h => ⟨by rw [h.1, hcf], gr_grow h.2⟩
 have hS := Tryz.slices_SortFunc_total enc (fun x => by rw [henc]; rfl) cf hO 40 #[.pointer (some ⟨gb, 0, none⟩)] g 0 cap ds.toArray w (enters_of Tryz.func40 (by kernel_rfl) rfl) hcmp (holds_blk hblk h4) (blk_lt hblk) (by rw [show ds.toArray.size = pl.length from by simpa using hdl]; omega) hT
 rw [show ds.toArray.size = pl.length from by simpa using hdl] at hS
 refine hS.mono ?_
 rintro e w' ⟨rfl, n, os, rfl⟩
 obtain ⟨ts, hts⟩ : ∃ ts, ts = ds.toArray.toList.mergeSort fun x y => !(ltOf cf) y x := ⟨_, rfl⟩
 rw [← hts]
 have hperm : ts.Perm ds := by rw [hts]; exact (List.mergeSort_perm _ _)
 have htl : ts.length = ds.length := hperm.length_eq
 refine ⟨rfl, ⟨ts.map (fun x => x.val), ?_, ?_, ?_⟩, grownBy_sw _⟩
 ·rw [← hds]
  exact hperm.map _
 ·rw [List.pairwise_map]
  have hndt : ts.Nodup := (hperm.nodup_iff).2 (by
   have : (ds.map fun x => x.val).Nodup := by rw [hds]; exact hnd
   exact (List.pairwise_map.1 this).imp (fun h e => h (by rw [e])))
  have hle : ts.Pairwise fun a b => (!(ltOf cf) b a) = true := by
   rw [hts]
   refine List.pairwise_mergeSort (fun a b c hab hbc => ?_) (fun a b => ?_) _
   ·rw [hlt, Bool.not_eq_true', decide_eq_false_iff_not] at *
    have h1 := tc.1 a.val b.val
    have h2 := tc.1 b.val c.val
    have h3 := tc.1 a.val c.val
    have := tc.2 a.val b.val c.val (by omega) (by omega)
    omega
   ·rw [hlt, hlt, Bool.or_eq_true, Bool.not_eq_true', Bool.not_eq_true', decide_eq_false_iff_not, decide_eq_false_iff_not]
    have h1 := tc.1 a.val b.val
    omega
  refine (hle.and hndt).imp fun {a b} hab => ?_
  have h5 := hab.1
  rw [hlt, Bool.not_eq_true', decide_eq_false_iff_not] at h5
  have h6 := tc.1 a.val b.val
  rcases Int.lt_trichotomy (cN l a.val b.val) 0 with h7 | h7 | h7
  ·exact h7
  ·exact absurd (Fin.ext (cN_total l h7)) hab.2
  ·omega
 ·have hrow := ownsRow_sw (enc := enc) (n := n) (os := os) (base := base) (ss := ds) htl hbase hblk (by rw [hdl]; exact h1) h2 h3
  have hl2 : (ts.map fun x => x.val).length = pl.length := by rw [List.length_map, htl, hdl]
  have := Kd.R_of_own (h1 := fun _ => rfl) (enc := fun n : Nat => .int .i64 (n : Int)) (xs := ts.map fun x => x.val) (v := .slice (some ⟨g, 0, none⟩) pl.length cap) (e := 3) (w := sortWorld enc w g 0 n ts.toArray os) (base := base) (ok := fun _ => True) (by
   rw [hl2, ← hdl]
   have h6 : encs (fun n : Nat => .int .i64 (n : Int)) (ts.map fun x => x.val) = ts.map enc := by
    unfold encs
    rw [List.map_map, henc]
    rfl
   rw [h6]
   exact hrow) (fun _ _ => trivial)
  exact this
end Go.Proofs.YtpdkgpmcmebefaaGreatDoor.Q
namespace Go.Proofs.YtpdkgpmcmebefaaGreatDoor.Q
open Go.RowKit Go.Proofs.YtpdkgpmcmebefaaGreatDoorW.PrintWords Go.Proofs.YtpdkgpmcmebefaaGreatDoorW.PrintLast Go.Proofs.YtpdkgpmcmebefaaGreatDoorW.PrintMore
attribute [local go_sem] max2_int min2_int max_two min_two max_three min_three max_four min_four
def gkey (l : List S28) (i : Nat) : ByteArray := groupP (atS l i)
def posG (l : List S28) (k : Nat) (x : List UInt8) : List Nat := (List.range k).filter fun i => decide ((gkey l i).data.toList = x)
theorem posG_succ (l : List S28) (k : Nat) (x : List UInt8) : posG l (k + 1) x = updG (posG l k) (gkey l k).data.toList (posG l k (gkey l k).data.toList ++ [k]) x := by
 unfold posG updG
 rw [List.range_succ, List.filter_append]
 by_cases e : x = (gkey l k).data.toList
 ·rw [if_pos e, e]
  simp
 ·rw [if_neg e]
  have : decide ((gkey l k).data.toList = x) = false := decide_eq_false fun h => e h.symm
  simp [this]
theorem posG_mem {l : List S28} {k i : Nat} {x : List UInt8} : i ∈ posG l k x ↔ i < k ∧ (gkey l i).data.toList = x := by
 unfold posG
 rw [List.mem_filter, List.mem_range, decide_eq_true_eq]
theorem posG_nil {l : List S28} {k : Nat} {x : List UInt8} : posG l k x = [] ↔ ∀ i, i < k → (gkey l i).data.toList ≠ x := by
 rw [List.eq_nil_iff_forall_not_mem]
 exact ⟨fun h i hi e => h i (posG_mem.2 ⟨hi, e⟩), fun h i hm => h i (posG_mem.1 hm).1 (posG_mem.1 hm).2⟩
theorem posG_nodup (l : List S28) (k : Nat) (x : List UInt8) : (posG l k x).Nodup := List.Pairwise.filter _ List.nodup_range
theorem posG_len (l : List S28) (k : Nat) (x : List UInt8) : (posG l k x).length ≤ k := by
 have := List.length_filter_le (fun i => decide ((gkey l i).data.toList = x)) (List.range k)
 rwa [List.length_range] at this
def ordK (l : List S28) : Nat → List ByteArray
 | 0 => []
 | k + 1 => if posG l k (gkey l k).data.toList = [] then ordK l k ++ [gkey l k] else ordK l k
theorem data_inj {a b : ByteArray} (h : a.data.toList = b.data.toList) : a = b := by
 cases a; cases b
 simp only [ByteArray.mk.injEq]
 exact Array.toList_inj.1 h
theorem ordK_mem (l : List S28) (s : ByteArray) : ∀ k, s ∈ ordK l k ↔ ∃ i, i < k ∧ gkey l i = s
 | 0 => by simp [ordK]
 | k + 1 => by
  rw [ordK]
  split
  ·rw [List.mem_append, ordK_mem l s k, List.mem_singleton]
   constructor
   ·rintro (⟨i, hi, e⟩ | e)
    ·exact ⟨i, by omega, e⟩
    ·exact ⟨k, by omega, e.symm⟩
   ·rintro ⟨i, hi, e⟩
    by_cases h : i = k
    ·exact .inr (by rw [← e, h])
    ·exact .inl ⟨i, by omega, e⟩
  ·rename_i hne
   rw [ordK_mem l s k]
   constructor
   ·rintro ⟨i, hi, e⟩
    exact ⟨i, by omega, e⟩
   ·rintro ⟨i, hi, e⟩
    by_cases h : i = k
    ·subst h
     obtain ⟨j, hj⟩ := List.exists_mem_of_ne_nil _ hne
     obtain ⟨h1, h2⟩ := posG_mem.1 hj
     exact ⟨j, h1, by rw [← e]; exact data_inj h2⟩
    ·exact ⟨i, by omega, e⟩
theorem ordK_nodup (l : List S28) : ∀ k, (ordK l k).Nodup
 | 0 => List.nodup_nil
 | k + 1 => by
  rw [ordK]
  split
  ·rename_i hnil
   refine List.nodup_append.2 ⟨ordK_nodup l k, List.pairwise_singleton _ _, fun a ha b hb => ?_⟩
   rw [List.mem_singleton.1 hb]
   intro e
   subst e
   obtain ⟨i, hi, he⟩ := (ordK_mem l _ k).1 ha
   exact posG_nil.1 hnil i hi (by rw [he])
  ·exact ordK_nodup l k
theorem ordK_len (l : List S28) : ∀ k, (ordK l k).length ≤ k
 | 0 => Nat.le_refl _
 | k + 1 => by
  rw [ordK]
  have := ordK_len l k
  split
  ·rw [List.length_append, List.length_singleton]; omega
  ·omega
theorem ordK_pos {l : List S28} {k : Nat} {s : ByteArray} (h : s ∈ ordK l k) : posG l k s.data.toList ≠ [] := by
 obtain ⟨i, hi, e⟩ := (ordK_mem l s k).1 h
 intro h2
 exact posG_nil.1 h2 i hi (by rw [e])
theorem groupP_size (x : S28) (hz : ((x.f1 :: x.f2).map (fun p => p.size + 1)).sum ≤ 1048577) : (groupP x).size ≤ 1048577 := by
 unfold groupP
 have h1 := join_len 0 ((x.f1 :: x.f2).map (·.data.toList))
 have h2 : (((x.f1 :: x.f2).map (·.data.toList)).map fun p => p.length + 1) = (x.f1 :: x.f2).map fun p => p.size + 1 := by
  rw [List.map_map]
  rfl
 rw [h2] at h1
 show (Lib.join ((x.f1 :: x.f2).map (·.data.toList)) [0]).toArray.size ≤ _
 rw [List.size_toArray]
 omega
end Go.Proofs.YtpdkgpmcmebefaaGreatDoor.Q
namespace Go.Proofs.YtpdkgpmcmebefaaGreatDoor.Q
open Go.RowKit Go.Maps Go.Proofs.YtpdkgpmcmebefaaGreatDoorW.PrintWords Go.Proofs.YtpdkgpmcmebefaaGreatDoorW.PrintLast Go.Proofs.YtpdkgpmcmebefaaGreatDoorW.PrintMore
attribute [local go_sem] max2_int min2_int max_two min_two max_three min_three max_four min_four
abbrev kH : Kd (Nat × Nat × Nat) := Kd.scalar (fun x => .slice (some ⟨x.1, 0, none⟩) x.2.1 x.2.2) (fun _ => rfl)
theorem info3' : (Tryz.prog.info? 3).map (fun i => (i.zero, i.size, i.bytes)) = some (some (.int .i64 0), 1, 8) := by kernel_rfl
theorem info39' : (Tryz.prog.info? 39).map (fun i => (i.zero, i.size, i.bytes)) = some (some (.slice none 0 0), 1, 24) := by kernel_rfl
theorem other_type {w : World} {b1 b2 e1 e2 s1 s2 n1 n2 : Nat} {v1 v2 : Value} {xs ys : List Value} (h1 : w.ownsRow b1 e1 s1 v1 n1 xs) (h2 : w.ownsRow b2 e2 s2 v2 n2 ys) (he : e1 ≠ e2) : ∀ k, v1.ownBlock = some k → some k ≠ v2.ownBlock := by
 intro k hk h
 obtain ⟨c1, hc1⟩ := own_typed h1 k hk
 obtain ⟨c2, hc2⟩ := own_typed h2 k h.symm
 rw [hc1] at hc2
 simp only [Option.some.injEq, Obj.cells.injEq] at hc2
 exact he hc2.2.1
def GoodL (l : List S28) : Prop := l.length ≤ 1000 ∧ ∀ x ∈ l, x.f2.length ≤ 1000 ∧ x.f3.length ≤ 1000 ∧ ((x.f1 :: x.f2).map (fun p => p.size + 1)).sum ≤ 1048577
theorem groups_calls (As : Option Addr) (cs : Nat) (l : List S28) (w0 w : World) (hC : Kd.C k28 w0 As l.length l) (hB : Below w0.heap.size w0 w) (hL : GoodL l) :
  Calls Tryz.prog 21 #[.slice As l.length cs] w fun e w' => ∃ (v : Value) (sls : List (List Nat)) (V : ByteArray → Nat × Nat), e = .returned v ∧ sls.length = (ordK l l.length).length ∧ kH.R 39 w' w.heap.size (fun _ => True) v ((ordK l l.length).map fun s => ((V s).1, (posG l l.length s.data.toList).length, (V s).2)) ∧ Below w.heap.size w w' ∧
   ∀ (j : Nat) (s : ByteArray) (sl : List Nat), (ordK l l.length)[j]? = some s → sls[j]? = some sl → sl.Perm (posG l l.length s.data.toList) ∧ sl.Pairwise (fun i k => cN l i k < 0) ∧ kN.R 3 w' w.heap.size (fun _ => True) (.slice (some ⟨(V s).1, 0, none⟩) (posG l l.length s.data.toList).length (V s).2) sl := by
 have hu28 := Tryz.underlying28
 have HL := Sd.mk hL
 have HC := Sd.mk hC
 have HBW := Sd.mk hB
 clear hC hB hL
 have hmm := @run_makeMap Tryz.prog
 go_enter Tryz.func21, Tryz.ntmps21
 go_wp2_with (fail)
 have HG0 : Sd (GAt ((w.alloc (.cells #[.slice As l.length cs] 25)).alloc (.map #[] 0)) (w.heap.size + 1 + 1) (w.heap.size + 1) 0 (posG l 0)) := ⟨by
  have h := GAt.made (w.alloc (.cells #[.slice As l.length cs] 25))
  rw [show (w.alloc (.cells #[.slice As l.length cs] 25)).heap.size = w.heap.size + 1 from by simp] at h
  exact h⟩
 have HX0 : Sd (((w.alloc (.cells #[.slice As l.length cs] 25)).alloc (.map #[] 0)).heap[w.heap.size]? = some (.cells #[.slice As l.length cs] 25 (0, 0))) := ⟨blk_below (blk_new _ _) (below_alloc (Below.refl _ _) _)⟩
 have HB0 : Sd (Below w.heap.size w ((w.alloc (.cells #[.slice As l.length cs] 25)).alloc (.map #[] 0))) := ⟨below_alloc (below_alloc (Below.refl _ _) _) _⟩
 have HS0 : Sd (w.heap.size + 1 + 1 ≤ ((w.alloc (.cells #[.slice As l.length cs] 25)).alloc (.map #[] 0)).heap.size) := ⟨by simp⟩
 obtain ⟨gb, hgb⟩ : ∃ gb, gb = w.heap.size := ⟨_, rfl⟩
 obtain ⟨b, hb⟩ : ∃ b, b = w.heap.size + 1 := ⟨_, rfl⟩
 obtain ⟨base, hbase⟩ : ∃ base, base = w.heap.size + 1 + 1 := ⟨_, rfl⟩
 have HN : Sd (w.heap.size ≤ gb ∧ gb < b ∧ b < base) := ⟨by subst hgb hb hbase; omega⟩
 rw [← hbase, ← hb] at HG0
 rw [← hgb] at HX0
 rw [← hbase] at HS0
 rw [← hb, ← hgb]
 generalize ((w.alloc (.cells #[.slice As l.length cs] 25)).alloc (.map #[] 0)) = W0 at HG0 HX0 HB0 HS0 ⊢
 clear hgb hb hbase
 go_loopw [4, 15] (fun v4 v15 wr => ∃ k : Nat, k ≤ l.length ∧ v15 = .int .i64 k ∧ Sd (GAt wr base b k (posG l k)) ∧ Sd (Kd.R Kd.string 9 wr w.heap.size (fun _ => True) v4 (ordK l k)) ∧ Sd (wr.heap[gb]? = some (.cells #[.slice As l.length cs] 25 (0, 0))) ∧ Sd (Below w.heap.size w wr) ∧ Sd (base ≤ wr.heap.size)) (fun _ v15 _ => l.length - (intOf v15).toNat)
 case atStart => exact ⟨0, Nat.zero_le _, rfl, HG0, ⟨Kd.R_nil Kd.string 9 _ _ _⟩, HX0, HB0, HS0⟩
 case round =>
  clear HG0 HX0 HB0 HS0
  obtain ⟨k, hk, rfl, HG, HO, HX, HB, HS⟩ := hrel
  by_cases hlt : k < l.length
  ·obtain ⟨ad, B2, d2, B3, d3, e1, x0, x1, x2, x3, x4, x5, _, hx2, _, hx3⟩ := at_T28 HC.out (k : Int) (by omega) (by omega)
   rw [Int.toNat_natCast] at x0 x1 x2 x3 x4 x5
   have hxl : atS l k ∈ l := by
    unfold atS rd_T28
    rw [Int.toNat_natCast, List.getD_eq_getElem?_getD, List.getElem?_eq_getElem hlt]
    exact List.getElem_mem _
   have hxx := HL.out.2 _ hxl
   have hfx : rd_T28 l (k : Int) = atS l k := rfl
   rw [hfx] at x0 x1 x2 x3 x4 x5 hx2 hx3
   obtain ⟨s, hs⟩ : ∃ s, s = gkey l k := ⟨_, rfl⟩
   have hsk : s = groupP (atS l k) := hs
   have hsz : s.size ≤ maxLen := by rw [hsk]; have := groupP_size (atS l k) hxx.2.2; unfold maxLen; omega
   have hpu := fun x => posG_succ l k x
   have hou : ordK l (k + 1) = if posG l k (gkey l k).data.toList = [] then ordK l k ++ [gkey l k] else ordK l k := rfl
   rw [← hs] at hpu hou
   have HPU := Sd.mk hpu
   have HOU := Sd.mk hou
   have HSZ := Sd.mk hsz
   have HK := Sd.mk hlt
   have HSM : Sd (∀ x ∈ posG l k s.data.toList ++ [k], x ≤ 1000000) := ⟨fun x hx => by
    have h1 := HL.out.1
    rcases List.mem_append.1 hx with h | h
    ·have := (posG_mem.1 h).1; omega
    ·rw [List.mem_singleton.1 h]; omega⟩
   have HB00 := Sd.mk (below_then HBW.out HBW.out.size HB.out)
   replace x0 := pw_cell_below HB00.out x0
   replace x1 := pw_cell_below HB00.out x1
   replace x2 := pw_cell_below HB00.out x2
   replace x3 := pw_cell_below HB00.out x3
   replace x4 := pw_cell_below HB00.out x4
   replace x5 := pw_cell_below HB00.out x5
   generalize atS l k = x at x0 x1 x2 x3 x4 x5 hx2 hx3 hxx hsk
   have HGC := Sd.mk (fun W (hW : Below w.heap.size w W) => group_calls x B2 B3 d2 d3 x.f3.length W (Kd.C_below hx2 (below_then HBW.out HBW.out.size hW)) hxx.1 hxx.2.2)
   rw [← hsk] at HGC
   clear hxl hxx hfx hs hsk hsz hpu hou hx2 hx3
   cases e1
   go_wp2_with (fail)
   have hB1 : Below wr.heap.size wr (wr.alloc (.cells #[.int .i64 x.f0, .string x.f1, .slice B2 x.f2.length d2, .slice B3 x.f3.length d3, .string x.f4, .string x.f5] 28)) := below_alloc (Below.refl _ _) _
   refine (HGC.out _ (below_step HB.out hB1)).mono ?_
   rintro e w3 ⟨rfl, hB⟩
   have hB2 := below_step hB1 hB
   have HG3 := Sd.mk (HG.out.below hB2)
   have HO3 := Sd.mk (Kd.R_below HO.out hB2)
   have HX3 := Sd.mk (blk_below HX.out hB2)
   have HB3 := Sd.mk (below_step HB.out hB2)
   have HS3 : Sd (base ≤ w3.heap.size) := ⟨Nat.le_trans HS.out hB2.size⟩
   clear hB hB1 hB2 x0 x1 x2 x3 x4 x5 HGC HG HO HX HB HS
   obtain ⟨v, hrun, hRv, _, hform, _⟩ := HG3.out.look (s := s) HSZ.out (by have h1 := HL.out.1; have h2 := HK.out; unfold maxLen; omega)
   have hform2 : ∃ A n c, v = .slice A n c ∧ A.isNone = decide (posG l k s.data.toList = []) := by
    rcases hform with ⟨h1, h2⟩ | ⟨h1, g, c, h2⟩
    ·exact ⟨none, 0, 0, h2, by rw [decide_eq_true h1]; rfl⟩
    ·exact ⟨some ⟨g, 0, none⟩, _, c, h2, by rw [decide_eq_false h1]; rfl⟩
   obtain ⟨A, n, c, rfl, hA⟩ := hform2
   have hql : ∀ W, (binOp .eql 39 (.slice A n c) (.slice none 0 0)).run Tryz.prog W = .ok (.bool A.isNone) W := fun W => Lib.run_eql_slice_nil W 39 3 A n c 0 0 Tryz.underlying39
   generalize A.isNone = nb at hA hql
   have HA := Sd.mk hA
   clear hform hRv hA
   go_upto_if 25 with (((with_reducible refine gate_dst (N := 24) rfl ?_); refine wpList_lookup_run _ rfl (.tmp 22) (.tmp 23) 61 rfl (by rfl) (by rfl) hrun ?_))
   clear hrun hql
   go_cut [4] (fun v4 wc => Sd (GAt wc base b k (posG l k)) ∧ Sd (Kd.R Kd.string 9 wc w.heap.size (fun _ => True) v4 (ordK l (k + 1))) ∧ Sd (wc.heap[gb]? = some (.cells #[.slice (some ad) l.length cs] 25 (0, 0))) ∧ Sd (Below w.heap.size w wc) ∧ Sd (base ≤ wc.heap.size))
   case first =>
    cases nb
    ·have hp : ¬ posG l k s.data.toList = [] := of_decide_eq_false HA.out.symm
     have HOU2 : Sd (ordK l (k + 1) = ordK l k) := ⟨by rw [HOU.out, if_neg hp]⟩
     clear hp
     go_wp2_with (fail)
     go_meet
     case rel => exact ⟨HG3, ⟨by rw [HOU2.out]; exact HO3.out⟩, HX3, HB3, HS3⟩
    ·have hp : posG l k s.data.toList = [] := odt HA.out.symm
     have HOU2 : Sd (ordK l (k + 1) = ordK l k ++ [s]) := ⟨by rw [HOU.out, if_pos hp]⟩
     clear hp
     go_wp2_with (((with_reducible refine gate_builtin (b := .append) (xs := #[.tmp 26, .tmp 28]) rfl ?_); at_builtin; refine Kd.R_append Kd.string (w0 := w) w.heap.size ?hg (.tmp 26) (.tmp 28) 22 9 (.string ⟨#[]⟩) 16 ?ho Tryz.underlying22 info9 rfl (by decide) (by omega) u4 (ordK l k) s [.string s] (fun _ => True) (fun _ => False) ?hs ?hx ?aP (fun _ hk => hk.elim) (fun _ _ => trivial) ?aO ?aB ?aS ?aL ?_; (case hg => rfl); (case ho => rfl); (case hs => rfl); (case hx => rfl); (case aP => exact rfl); (case aB => exact HB3.out); (case aO => exact HO3.out); (case aS => exact HB3.out.size); (case aL => have h1 := ordK_len l k; have h2 := HL.out.1; have h3 := HK.out; omega); intro v5 w5 ho hb hg hat; have HO5 := Sd.mk ho; have HB5 := Sd.mk hb; have HGR := Sd.mk hg; clear ho hb hg hat))
     go_meet
     case rel => exact ⟨⟨HG3.out.kept HGR.out (fun j hj => by
      obtain ⟨inner, ho⟩ := Kd.R_own HO3.out
      obtain ⟨cells, hc⟩ := own_typed ho j hj
      exact .inr ⟨cells, 9, by decide, hc⟩)⟩, ⟨by rw [HOU2.out]; exact HO5.out⟩, ⟨(HGR.out.block gb (blk_lt HX3.out) (Kd.R_ne HO3.out HX3.out (by decide))).trans HX3.out⟩, HB5, ⟨Nat.le_trans HS3.out HGR.out.size⟩⟩
   case rest =>
    obtain ⟨HGc, HOc, HXc, HBc, HSc⟩ := hcut
    clear HG3 HO3 HX3 HB3 HS3 HA
    obtain ⟨v, hrun, hRv, _, _, hback⟩ := HGc.out.look (s := s) HSZ.out (by have h1 := HL.out.1; have h2 := HK.out; unfold maxLen; omega)
    have HRv := Sd.mk hRv
    have HBK := Sd.mk hback
    clear hRv hback
    have hkb : k ≤ 1000 := by have h1 := HL.out.1; have h2 := HK.out; omega
    go_wp2_with (first | ((with_reducible refine gate_dst (N := 34) rfl ?_); refine wpList_lookup_run _ rfl (.tmp 32) (.tmp 33) 61 rfl (by rfl) (by rfl) hrun ?_) | ((with_reducible refine gate_builtin (b := .append) (xs := #[.tmp 34, .tmp 36]) rfl ?_); at_builtin; refine Kd.R_append kN (w0 := wc) base ?hg (.tmp 34) (.tmp 36) 39 3 (.int .i64 0) 8 ?ho Tryz.underlying39 info3' rfl (by decide) (by omega) v (posG l k s.data.toList) k [.int .i64 (k : Int)] (fun _ => True) (fun _ => False) ?hs ?hx ?aP (fun _ hk => hk.elim) (fun _ _ => trivial) ?aO ?aB ?aS ?aL ?_; (case hg => rfl); (case ho => rfl); (case hs => rfl); (case hx => rfl); (case aP => exact rfl); (case aB => exact Below.refl _ _); (case aO => exact HRv.out); (case aS => exact HSc.out); (case aL => have h1 := posG_len l k s.data.toList; have h2 := HL.out.1; have h3 := HK.out; omega); intro v6 w6 ho hb hg hat; have HO6 := Sd.mk ho; have HGR6 := Sd.mk hg; have HAT := Sd.mk hat; clear ho hb hg hat; obtain ⟨w7, hrun7, hG7, hgr7⟩ := HBK.out w6 v6 _ HGR6.out HO6.out (by simp) (by have h1 := posG_len l k s.data.toList; simp; omega) HSM.out HAT.out; have HG7 := Sd.mk hG7; have HGR7 := Sd.mk hgr7; clear hG7 hgr7) | (at_mapUpdate; refine wpList_update_run _ rfl (.tmp 30) (.tmp 31) (.tmp 37) 61 rfl (by rfl) (by rfl) (by rfl) hrun7 ?_))
    obtain ⟨i1, o1⟩ := Kd.R_own HRv.out
    obtain ⟨i2, o2⟩ := Kd.R_own HOc.out
    have HF : Sd (Kd.R Kd.string 9 w7 w.heap.size (fun _ => True) _ (ordK l (k + 1)) ∧ w7.heap[gb]? = some (.cells #[.slice (some ad) l.length cs] 25 (0, 0)) ∧ Below w.heap.size w w7 ∧ base ≤ w7.heap.size) := ⟨by
     obtain ⟨es, clock, hmap⟩ := HGc.out.blk
     have hbo : ∀ j, some b = some j → some j ≠ _ := fun j hj he => by
      obtain ⟨cells, hc⟩ := own_typed o2 j he.symm
      rw [← Option.some.inj hj, hmap] at hc
      cases hc
     have hn := HN.out
     refine ⟨Kd.R_grown2 (Kd.R_grown2 HOc.out rfl HGR6.out (other_type o1 o2 (by decide))) rfl HGR7.out hbo, ?_, ?_, ?_⟩
     ·exact blk_grown ((HGR6.out.block gb (blk_lt HXc.out) (Kd.R_ne HRv.out HXc.out (by decide))).trans HXc.out) HGR7.out (by omega)
     ·refine pw_below_grown (pw_below_grown HBc.out _ HBc.out.size HGR6.out (fun j hj => ?_)) _ (Nat.le_trans HBc.out.size HGR6.out.size) HGR7.out (fun j hj => ?_)
      ·have := own_base o1 j hj; omega
      ·rw [← Option.some.inj hj]; omega
     ·exact Nat.le_trans HSc.out (Nat.le_trans HGR6.out.size HGR7.out.size)⟩
    clear hrun hrun7 o1 o2 i1 i2
    go_wp2_with (fail)
    go_roundw
    case rel => exact ⟨k + 1, HK.out, by go_num, ⟨HG7.out.congr fun x => (HPU.out x).symm⟩, ⟨HF.out.1⟩, ⟨HF.out.2.1⟩, ⟨HF.out.2.2.1⟩, ⟨HF.out.2.2.2⟩⟩
    case measure => (have h2 := HK.out; simp [intOf]; omega)
  ·obtain rfl : k = l.length := by omega
   obtain ⟨V, hV⟩ := HG.out.rows
   obtain ⟨ks, hks⟩ : ∃ ks, ks = ordK l l.length := ⟨_, rfl⟩
   rw [← hks] at HO
   have HKS := Sd.mk hks
   obtain ⟨G, hGe⟩ : ∃ G, G = posG l l.length := ⟨_, rfl⟩
   have HGE := Sd.mk hGe
   rw [← hGe] at hV
   have HKF : Sd (ks.Nodup ∧ ks.length ≤ 1000 ∧ ∀ s ∈ ks, s.size ≤ maxLen ∧ G s.data.toList ≠ [] ∧ (G s.data.toList).Nodup ∧ (G s.data.toList).length ≤ 1000 ∧ ∀ i ∈ G s.data.toList, i < l.length) := ⟨by
    subst hks hGe
    refine ⟨ordK_nodup l _, Nat.le_trans (ordK_len l _) HL.out.1, fun s hs => ⟨?_, ordK_pos hs, posG_nodup l _ _, Nat.le_trans (posG_len l _ _) HL.out.1, fun i hi => (posG_mem.1 hi).1⟩⟩
    obtain ⟨i, hi, he⟩ := (ordK_mem l s _).1 hs
    rw [← he]
    have hxl : atS l i ∈ l := by
     unfold atS rd_T28
     rw [Int.toNat_natCast, List.getD_eq_getElem?_getD, List.getElem?_eq_getElem hi]
     exact List.getElem_mem _
    have := groupP_size (atS l i) (HL.out.2 _ hxl).2.2
    unfold gkey
    unfold maxLen
    omega⟩
   have HV := Sd.mk hV
   obtain ⟨es, clock, hmap⟩ := HG.out.blk
   have HM := Sd.mk hmap
   obtain ⟨Ao, co, rfl, hco, hCo⟩ := Kd.R_reads HO.out
   have HCO := Sd.mk hCo
   clear hks hGe hV hmap hco hCo HG
   go_wp2_with (fail)
   go_loopw [8, 41] (fun v8 v41 wj => ∃ (j : Nat) (sls : List (List Nat)), j ≤ ks.length ∧ v41 = .int .i64 j ∧ Sd (sls.length = j ∧ kH.R 39 wj w.heap.size (fun _ => True) v8 ((ks.take j).map fun s => ((V s).1, (G s.data.toList).length, (V s).2))) ∧ Sd (∀ (i : Nat) (s : ByteArray) (sl : List Nat), ks[i]? = some s → sls[i]? = some sl → sl.Perm (G s.data.toList) ∧ sl.Pairwise (fun i k => cN l i k < 0) ∧ kN.R 3 wj base (fun _ => True) (.slice (some ⟨(V s).1, 0, none⟩) (G s.data.toList).length (V s).2) sl) ∧ Sd (∀ (i : Nat) (s : ByteArray), j ≤ i → ks[i]? = some s → kN.R 3 wj base (fun _ => True) (.slice (some ⟨(V s).1, 0, none⟩) (G s.data.toList).length (V s).2) (G s.data.toList)) ∧ Sd (wj.heap[b]? = some (.map es clock) ∧ wj.heap[gb]? = some (.cells #[.slice As l.length cs] 25 (0, 0)) ∧ Below w.heap.size w wj ∧ base ≤ wj.heap.size ∧ Kd.R Kd.string 9 wj w.heap.size (fun _ => True) (.slice Ao ks.length co) ks)) (fun _ v41 _ => ks.length - (intOf v41).toNat)
   case atStart => exact ⟨0, [], Nat.zero_le _, rfl, ⟨rfl, Kd.R_nil kH 39 _ _ _⟩, ⟨fun i s sl _ h => by simp at h⟩, ⟨fun i s _ h => by
    have hm := List.mem_of_getElem? h
    exact (HV.out s (HKF.out.2.2 s hm).1 (HKF.out.2.2 s hm).2.1).2.1⟩, ⟨HM.out, HX.out, HB.out, HS.out, HO.out⟩⟩
   case round =>
    obtain ⟨j, sls, hj, rfl, HR1, HR2, HR3, HR4⟩ := hrel
    by_cases hjl : j < ks.length
    ·obtain ⟨s, hs⟩ : ∃ s, ks[j]? = some s := ⟨_, List.getElem?_eq_getElem hjl⟩
     have hsm := List.mem_of_getElem? hs
     have hkf := HKF.out.2.2 s hsm
     have hvv := HV.out s hkf.1 hkf.2.1
     have hrun := hvv.1 wr (HR4.out.1.trans HM.out.symm)
     obtain ⟨ad, e0, hcell⟩ := Kd.at_string (Kd.R_reads' HR4.out.2.2.2.2).2.2 (j : Int) (by omega) (by omega)
     rw [rdJ_at hs, Int.toNat_natCast] at hcell
     have HSO := Sd.mk (sortf_calls gb (V s).1 base (V s).2 As cs l (G s.data.toList) w0 wr HR4.out.2.1 HC.out (below_then HBW.out HBW.out.size HR4.out.2.2.1) (HR3.out j s (Nat.le_refl _) hs) (by
      obtain ⟨i1, o1⟩ := Kd.R_own (HR3.out j s (Nat.le_refl _) hs)
      have := own_base o1 (V s).1 rfl
      have h2 := HN.out
      have h3 := HBW.out.size
      omega) hkf.2.2.2.2 hkf.2.2.1 hkf.2.1 hkf.2.2.2.1 HL.out.1 (fun x hx => ⟨(HL.out.2 x hx).1, (HL.out.2 x hx).2.1⟩))
     have HSS := Sd.mk (And.intro hs (And.intro hjl hvv.2.2))
     have hjb : j ≤ 1000 := by have := HKF.out.2.1; omega
     cases e0
     clear hsm hkf hvv hs hj
     go_wp2_with (fail)
     refine HSO.out.mono ?_
     rintro e w2 ⟨rfl, ⟨sl, hp, hpw, hR⟩, hgr⟩
     have HSL := Sd.mk (And.intro hp (And.intro hpw hR))
     have HGR := Sd.mk hgr
     have HBD : Sd (w.heap.size ≤ (V s).1 ∧ base ≤ (V s).1) := ⟨by
      obtain ⟨i1, o1⟩ := Kd.R_own (HR3.out j s (Nat.le_refl _) HSS.out.1)
      have := own_base o1 (V s).1 rfl
      have h2 := HN.out
      omega⟩
     have HB2 : Sd (Below w.heap.size w w2) := ⟨pw_below_grown HR4.out.2.2.1 _ HR4.out.2.2.1.size hgr (fun k hk => by rw [← Option.some.inj hk]; exact HBD.out.1)⟩
     have HO2 : Sd (kH.R 39 w2 w.heap.size (fun _ => True) u8 ((ks.take j).map fun s => ((V s).1, (G s.data.toList).length, (V s).2))) := ⟨Kd.R_grown2 HR1.out.2 rfl hgr (fun k hk => by
      obtain ⟨i1, o1⟩ := Kd.R_own (HR3.out j s (Nat.le_refl _) HSS.out.1)
      obtain ⟨i2, o2⟩ := Kd.R_own HR1.out.2
      exact other_type o1 o2 (by decide) k hk)⟩
     clear hp hpw hR hgr HSO hrun hcell
     have HTK : Sd ((ks.take (j + 1)).map (fun s => ((V s).1, (G s.data.toList).length, (V s).2)) = (ks.take j).map (fun s => ((V s).1, (G s.data.toList).length, (V s).2)) ++ [((V s).1, (G s.data.toList).length, (V s).2)]) := ⟨by rw [List.take_add_one, HSS.out.1]; simp⟩
     go_wp2_with (((with_reducible refine gate_builtin (b := .append) (xs := #[.tmp 51, .tmp 53]) rfl ?_); at_builtin; refine Kd.R_append kH (w0 := w) w.heap.size ?hg (.tmp 51) (.tmp 53) 46 39 (.slice none 0 0) 24 ?ho Tryz.underlying46 info39' rfl (by decide) (by omega) u8 ((ks.take j).map fun s => ((V s).1, (G s.data.toList).length, (V s).2)) ((V s).1, (G s.data.toList).length, (V s).2) [.slice (some ⟨(V s).1, 0, none⟩) (G s.data.toList).length (V s).2] (fun _ => True) (fun _ => False) ?hs ?hx ?aP (fun _ hk => hk.elim) (fun _ _ => trivial) ?aO ?aB ?aS ?aL ?_; (case hg => rfl); (case ho => rfl); (case hs => rfl); (case hx => rfl); (case aP => exact rfl); (case aB => exact HB2.out); (case aO => exact HO2.out); (case aS => exact HB2.out.size); (case aL => rw [List.length_map]; have h1 := List.length_take_le j ks; omega); intro v5 w5 ho hb hg hat; have HO5 := Sd.mk ho; have HB5 := Sd.mk hb; have HG5 := Sd.mk hg; clear ho hb hg hat))
     have hn := HN.out
     have hpres : ∀ (t : ByteArray) (z : List Nat), (V t).1 ≠ (V s).1 → kN.R 3 wr base (fun _ => True) (.slice (some ⟨(V t).1, 0, none⟩) (G t.data.toList).length (V t).2) z → kN.R 3 w2 base (fun _ => True) (.slice (some ⟨(V t).1, 0, none⟩) (G t.data.toList).length (V t).2) z := fun t z ht h =>
      Kd.R_grown2 h rfl HGR.out (fun k hk he => by
       have h1 : some k = some (V t).1 := he
       rw [← hk] at h1
       exact ht (Option.some.inj h1).symm)
     obtain ⟨i39, o39⟩ := Kd.R_own HO2.out
     have hpres2 : ∀ (v : Value) (z : List Nat), kN.R 3 w2 base (fun _ => True) v z → kN.R 3 w5 base (fun _ => True) v z := fun v z h => by
      obtain ⟨i3, o3⟩ := Kd.R_own h
      exact Kd.R_grown2 h rfl HG5.out (other_type o39 o3 (by decide))
     have hoth : ∀ (i : Nat) (t : ByteArray), i ≠ j → ks[i]? = some t → (V t).1 ≠ (V s).1 := fun i t hij ht => by
      have hm := List.mem_of_getElem? ht
      refine HSS.out.2.2 t (HKF.out.2.2 t hm).1 (HKF.out.2.2 t hm).2.1 (fun e => hij ?_)
      subst e
      exact (List.getElem?_inj (List.getElem?_eq_some_iff.1 ht).1 HKF.out.1).1 (ht.trans HSS.out.1.symm)
     have hF1 : ∀ (i : Nat) (t : ByteArray) (z : List Nat), ks[i]? = some t → (sls ++ [sl])[i]? = some z → z.Perm (G t.data.toList) ∧ z.Pairwise (fun i k => cN l i k < 0) ∧ kN.R 3 w5 base (fun _ => True) (.slice (some ⟨(V t).1, 0, none⟩) (G t.data.toList).length (V t).2) z := fun i t z ht hz => by
      by_cases hij : i < j
      ·rw [List.getElem?_append_left (by rw [HR1.out.1]; exact hij)] at hz
       have h := HR2.out i t z ht hz
       exact ⟨h.1, h.2.1, hpres2 _ _ (hpres t z (hoth i t (by omega) ht) h.2.2)⟩
      ·rw [List.getElem?_append_right (by rw [HR1.out.1]; omega), HR1.out.1] at hz
       have hi0 : i - j = 0 := by
        have := (List.getElem?_eq_some_iff.1 hz).1
        simp at this
        omega
       rw [hi0] at hz
       have hze : z = sl := by simpa using hz.symm
       have hij2 : i = j := by omega
       subst hij2
       have hts : t = s := Option.some.inj (ht.symm.trans HSS.out.1)
       subst hts
       rw [hze]
       exact ⟨HSL.out.1, HSL.out.2.1, hpres2 _ _ HSL.out.2.2⟩
     have hF2 : ∀ (i : Nat) (t : ByteArray), j + 1 ≤ i → ks[i]? = some t → kN.R 3 w5 base (fun _ => True) (.slice (some ⟨(V t).1, 0, none⟩) (G t.data.toList).length (V t).2) (G t.data.toList) := fun i t hi ht =>
      hpres2 _ _ (hpres t _ (hoth i t (by omega) ht) (HR3.out i t (by omega) ht))
     have hm2 : w2.heap[b]? = some (.map es clock) := blk_grown HR4.out.1 HGR.out (by have := HBD.out.2; omega)
     have hx2 : w2.heap[gb]? = some (.cells #[.slice As l.length cs] 25 (0, 0)) := blk_grown HR4.out.2.1 HGR.out (by have := HBD.out.2; omega)
     have hF3 : w5.heap[b]? = some (.map es clock) ∧ w5.heap[gb]? = some (.cells #[.slice As l.length cs] 25 (0, 0)) ∧ Below w.heap.size w w5 ∧ base ≤ w5.heap.size ∧ Kd.R Kd.string 9 w5 w.heap.size (fun _ => True) (.slice (some ad) ks.length co) ks := by
      refine ⟨(HG5.out.block b (blk_lt hm2) (fun e => ?_)).trans hm2, (HG5.out.block gb (blk_lt hx2) (Kd.R_ne HO2.out hx2 (by decide))).trans hx2, HB5.out, ?_, ?_⟩
      ·obtain ⟨cells, hc⟩ := own_typed o39 b e.symm
       rw [hm2] at hc
       cases hc
      ·exact Nat.le_trans HR4.out.2.2.2.1 (Nat.le_trans HGR.out.size HG5.out.size)
      ·obtain ⟨i3, o3⟩ := Kd.R_own (HR3.out j s (Nat.le_refl _) HSS.out.1)
       obtain ⟨i9, o9⟩ := Kd.R_own HR4.out.2.2.2.2
       have h2 : Kd.R Kd.string 9 w2 w.heap.size (fun _ => True) (.slice (some ad) ks.length co) ks := Kd.R_grown2 HR4.out.2.2.2.2 rfl HGR.out (other_type o3 o9 (by decide))
       obtain ⟨i9b, o9b⟩ := Kd.R_own h2
       exact Kd.R_grown2 h2 rfl HG5.out (other_type o39 o9b (by decide))
     have HF1 := Sd.mk hF1
     have HF2 := Sd.mk hF2
     have HF3 := Sd.mk hF3
     clear hpres hpres2 hoth hF1 hF2 hF3 hm2 hx2 hn o39 i39
     go_roundw
     case rel => exact ⟨j + 1, sls ++ [sl], hjl, by (rfl), ⟨by rw [List.length_append, HR1.out.1]; rfl, by rw [HTK.out]; exact HO5.out⟩, HF1, HF2, HF3⟩
     case measure => (simp [intOf]; omega)
    ·obtain rfl : j = ks.length := by omega
     clear hjl
     go_wp2_with (fail)
     have hR1 := HR1.out
     have hR2 := HR2.out
     have hn := HN.out
     have hb4 := HR4.out.2.2.1
     rw [List.take_length] at hR1
     rw [HKS.out] at hR1 hR2
     rw [HGE.out] at hR1 hR2
     have HFIN := Sd.mk (And.intro hR1 (And.intro hR2 (And.intro hn hb4)))
     clear hR1 hR2 hn hb4
     go_ret
     exact ⟨_, sls, V, rfl, HFIN.out.1.1, HFIN.out.1.2, HFIN.out.2.2.2, fun i s sl hs hsl => ⟨(HFIN.out.2.1 i s sl hs hsl).1, (HFIN.out.2.1 i s sl hs hsl).2.1, Kd.R_lower (HFIN.out.2.1 i s sl hs hsl).2.2 (by have := HFIN.out.2.2.1; omega)⟩⟩
end Go.Proofs.YtpdkgpmcmebefaaGreatDoor.Q
