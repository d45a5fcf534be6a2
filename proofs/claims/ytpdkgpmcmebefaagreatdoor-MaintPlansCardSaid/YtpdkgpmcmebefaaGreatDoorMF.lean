/- Of the proof about maint: several texts, joined. -/
import Derived.Test.YtpdkgpmcmebefaaGreatDoorMA
import Derived.Lib.SmallJoins
import Derived.Laws.Externs
import Derived.Lib.Bytealg
import Derived.Laws.Cover1
import Derived.LoopN
import Derived.Lib.ConvBytes
import Derived.Shelf.Abstract
set_option maxHeartbeats 16000000
set_option maxRecDepth 100000
set_option linter.unusedVariables false
set_option linter.unusedSimpArgs false
namespace Go.Proofs.YtpdkgpmcmebefaaGreatDoor.Q
open Go.RowKit Go.Proofs.YtpdkgpmcmebefaaGreatDoorW.PrintWords Go.Proofs.YtpdkgpmcmebefaaGreatDoorW.PrintLast Go.Proofs.YtpdkgpmcmebefaaGreatDoorW.PrintMore
attribute [local go_sem] max2_int min2_int max_two min_two max_three min_three max_four min_four
def ixs (s : ByteArray) : Int := Lib.indexByte s.data.toList 47
def cts (s : ByteArray) : Nat := Lib.countByte s.data.toList 47
def splitN : Nat → ByteArray → List ByteArray
 | 0, s => [s]
 | n + 1, s => if ixs s < 0 then [s] else s.extract 0 (ixs s).toNat :: splitN n (s.extract ((ixs s).toNat + 1) s.size)
def partsOf (s : ByteArray) : List ByteArray := if s.size = 0 then [] else splitN (cts s) s
theorem count_any (s : ByteArray) (w : World) : Calls Tryz.prog 132 #[.string s, .string ⟨#[47]⟩] w fun e w' => e = .returned (.int .i64 (cts s)) ∧ w' = w := by
 go_enter Tryz.func132, Tryz.ntmps132
 go_wp2
 rw [run_callFunc_extern Tryz.func141 (by kernel_rfl) (by kernel_rfl) (by kernel_rfl) (e := Extern.BytealgCount.count) (by kernel_rfl), Lib.run_countString]
 simp only [Result.andThen]
 rw [Oper.upon_value]
 go_wp2
 go_ret
 exact ⟨rfl, rfl⟩
theorem indexByte_any (s : ByteArray) (w : World) : Calls Tryz.prog 138 #[.string s, .int .u8 47] w fun e w' => e = .returned (.int .i64 (ixs s)) ∧ w' = w := by
 go_enter Tryz.func138, Tryz.ntmps138
 go_wp2
 rw [run_callFunc_extern Tryz.func143 (by kernel_rfl) (by kernel_rfl) (by kernel_rfl) (e := Extern.BytealgIndexByte.indexByte) (by kernel_rfl), Lib.run_indexByteString]
 simp only [Result.andThen]
 rw [Oper.upon_value]
 go_wp2
 go_ret
 exact ⟨rfl, rfl⟩
theorem toList_loop (s : ByteArray) : ∀ (n i : Nat) (r : List UInt8), s.size - i = n → ByteArray.toList.loop s i r = r.reverse ++ s.data.toList.drop i
 | 0, i, r, h => by
  have hl : s.data.toList.length = s.size := by rw [Array.length_toList]; rfl
  rw [ByteArray.toList.loop, if_neg (by omega), List.drop_eq_nil_of_le (by omega), List.append_nil]
 | n + 1, i, r, h => by
  have hl : s.data.toList.length = s.size := by rw [Array.length_toList]; rfl
  have hi : i < s.data.toList.length := by omega
  have hi2 : i < s.data.size := by rw [← Array.length_toList]; exact hi
  rw [ByteArray.toList.loop, if_pos (by omega), toList_loop s n (i + 1) _ (by omega), List.reverse_cons, List.append_assoc, List.drop_eq_getElem_cons hi]
  have e : s.get! i = s.data.toList[i] := by
   show s.data[i]! = _
   rw [getElem!_pos s.data i hi2]
   simp
  rw [e]
  rfl
theorem toList_data (s : ByteArray) : s.toList = s.data.toList := by
 unfold ByteArray.toList
 rw [toList_loop s s.size 0 [] (by omega)]
 simp
theorem eq_of_toList {a b : ByteArray} (h : a.toList = b.toList) : a = b := by
 rw [toList_data, toList_data] at h
 cases a; cases b
 simp only [ByteArray.mk.injEq]
 exact Array.toList_inj.1 h
theorem index31 (s : ByteArray) (w : World) : Calls Tryz.prog 142 #[.string s, .string ⟨#[47]⟩] w fun e w' => e = .returned (.int .i64 (ixs s)) ∧ w' = w := by
 by_cases hs : s = ⟨#[47]⟩
 ·subst hs
  have h0 : ixs ⟨#[47]⟩ = 0 := by decide
  rw [h0]
  go_enter Tryz.func142, Tryz.ntmps142
  go_wp2_with (fail)
  go_ret
  exact ⟨rfl, rfl⟩
 ·have hne : ((⟨#[47]⟩ : ByteArray).toList == s.toList) = false := beq_eq_false_iff_ne.mpr (fun h => hs (eq_of_toList h).symm)
  have h47 : (⟨#[47]⟩ : ByteArray).toList = [47] := by decide +kernel
  have hne2 : ([47] == s.toList) = false := by rw [← hne, h47]
  go_enter Tryz.func142, Tryz.ntmps142
  go_wp2_with (go_at_call 138; refine (indexByte_any s _).mono ?_; rintro e w1 ⟨rfl, rfl⟩)
  go_ret
  exact ⟨rfl, rfl⟩
theorem index_any (s : ByteArray) (w : World) : Calls Tryz.prog 133 #[.string s, .string ⟨#[47]⟩] w fun e w' => e = .returned (.int .i64 (ixs s)) ∧ w' = w := by
 go_enter Tryz.func133, Tryz.ntmps133
 go_wp2_with (go_at_call 142; refine (index31 s _).mono ?_; rintro e w1 ⟨rfl, rfl⟩)
 go_ret
 exact ⟨rfl, rfl⟩
theorem cts_le (s : ByteArray) : cts s ≤ s.size := by
 unfold cts Lib.countByte
 have h := List.count_le_length (a := (47 : UInt8)) (l := s.data.toList)
 rwa [Array.length_toList] at h
theorem madeCells_one (n : Nat) : (madeCells (Value.string ⟨#[]⟩).cells (n * 1)).toList = List.replicate n (.string ⟨#[]⟩) := by
 rw [Nat.mul_one]
 rw [List.eq_replicate_iff]
 refine ⟨by rw [Array.length_toList, size_madeCells], fun v hv => ?_⟩
 simp only [madeCells, Value.cells, Array.toList_map, List.mem_map] at hv
 obtain ⟨j, _, rfl⟩ := hv
 simp [Nat.mod_one]
theorem add_off (g n : Nat) : (⟨g, 0, none⟩ : Addr).add n = ⟨g, n, none⟩ := by
 unfold Addr.add
 split <;> simp_all
theorem C_of_cells {W : World} {g : Nat} {cs : Array Value} (h : W.heap[g]? = some (.cells cs 9 (0, 0))) (l : List ByteArray) (hl : l.length ≤ 1000) (hc : ∀ (j : Nat) (p : ByteArray), l[j]? = some p → cs[j]? = some (Value.string p)) : Kd.C Kd.string W (some ⟨g, 0, none⟩) l.length l := by
 refine ⟨rfl, by omega, fun _ => ⟨⟨g, 0, none⟩, rfl, fun j p hj => ⟨[.string p], rfl, rfl, fun i u hu => ?_⟩⟩⟩
 match i, hu with
 | 0, hu =>
  simp only [List.getElem?_cons_zero, Option.some.injEq] at hu
  subst hu
  rw [show j * Kd.string.sz + 0 = j from by show j * 1 + 0 = j; omega, add_off, blk_cell h]
  exact hc j p hj
theorem ixs_lt (s : ByteArray) : -1 ≤ ixs s ∧ (ixs s < s.size ∨ ixs s = -1) := by
 have h : ∀ l : List UInt8, -1 ≤ Lib.indexByte l 47 ∧ (Lib.indexByte l 47 < l.length ∨ Lib.indexByte l 47 = -1) := by
  intro l
  induction l with
  | nil => exact ⟨Int.le_refl _, .inr rfl⟩
  | cons b l ih =>
   unfold Lib.indexByte
   split
   ·simp
   ·split
    ·simp
    ·rename_i h1 h2
     have h3 : Lib.indexByte l 47 ≠ -1 := by simpa using h2
     simp only [List.length_cons]
     omega
 have h1 := h s.data.toList
 unfold ixs
 rw [Array.length_toList] at h1
 exact h1
theorem make_n (n : Nat) (hn : n ≤ 400) (W : World) : ∃ cs : Array Value, cs.toList = List.replicate n (.string ⟨#[]⟩) ∧ (Instr.makeSlice 22 (.int .i64 (n : Int)) (.int .i64 (n : Int))).run Tryz.prog W = .ok (.slice (some ⟨W.heap.size, 0, none⟩) n n) (W.alloc (.cells cs 9)) := by
 obtain ⟨i, hi, hz⟩ := Option.map_eq_some_iff.1 info9
 simp only [Prod.mk.injEq] at hz
 have h := run_makeSlice (P := Tryz.prog) W 22 9 i (.string ⟨#[]⟩) Tryz.underlying22 hi hz.1 .i64 .i64 n n (by omega) (by omega) (by rw [hz.2.1, Int.toNat_natCast]; omega) (by rw [hz.2.2]; omega) (by omega)
 rw [hz.2.1] at h
 simp only [Int.toNat_natCast] at h
 exact ⟨_, madeCells_one n, h⟩
theorem genSplit_any (s : ByteArray) (hs : s.size ≤ 300) (w : World) : Calls Tryz.prog 118 #[.string s, .string ⟨#[47]⟩, .int .i64 0, .int .i64 (-1)] w fun e w' => ∃ A c, e = .returned (.slice A (splitN (cts s) s).length c) ∧ (splitN (cts s) s).length ≤ c ∧ Kd.C Kd.string w' A (splitN (cts s) s).length (splitN (cts s) s) ∧ Below w.heap.size w w' := by
 have hle := cts_le s
 have hmk := make_n (cts s + 1) (by omega) w
 obtain ⟨cs0, hcs0, hrun⟩ := hmk
 generalize hN : cts s = N at hle hcs0 hrun ⊢
 have hcm : ((N + 1 : Nat) : Int) = (N : Int) + 1 := by omega
 rw [hcm] at hrun
 have hcount := count_any s w
 rw [hN] at hcount
 go_enter Tryz.func118, Tryz.ntmps118
 go_wp2_with (go_at_call 132; refine hcount.mono ?_; rintro e w1 ⟨rfl, rfl⟩)
 have HB1 : Sd (Below w1.heap.size w1 (w1.alloc (.cells cs0 9))) := ⟨below_alloc (Below.refl _ _) _⟩
 have HK1 : Sd ((w1.alloc (.cells cs0 9)).heap[w1.heap.size]? = some (.cells cs0 9 (0, 0))) := ⟨blk_new _ _⟩
 have HN := Sd.mk (show N ≤ 300 by omega)
 obtain ⟨gb, hgb⟩ : ∃ gb, gb = w1.heap.size := ⟨_, rfl⟩
 have HGB : Sd (w1.heap.size ≤ gb) := ⟨by omega⟩
 rw [← hgb] at HK1 hrun ⊢
 have HBk := HB1
 obtain ⟨w2, hw2⟩ : ∃ w2, w2 = w1.alloc (.cells cs0 9) := ⟨_, rfl⟩
 rw [← hw2] at HK1 HBk ⊢
 have HS := Sd.mk hs
 have HC0 := Sd.mk hcs0
 clear hw2 HB1 hrun hcount hcm hle hs hcs0 hN hgb
 go_loopw [0, 10, 11] (fun v0 v10 v11 w' => ∃ (i : Nat) (rest : ByteArray) (done : List ByteArray) (cs : Array Value), v0 = .string rest ∧ v10 = .int .i64 (i : Int) ∧ Sd (i ≤ N ∧ done.length = i ∧ rest.size ≤ 300 ∧ done ++ splitN (N - i) rest = splitN N s) ∧ Sd (w'.heap[gb]? = some (.cells cs 9 (0, 0)) ∧ cs.toList = done.map Value.string ++ List.replicate (N + 1 - i) (.string ⟨#[]⟩)) ∧ Sd (Below w1.heap.size w1 w')) (fun _ v10 _ _ => N + 1 - (intOf v10).toNat)
 case atStart => exact ⟨0, s, [], cs0, rfl, rfl, ⟨by omega, rfl, HS.out, rfl⟩, ⟨HK1.out, by simpa using HC0.out⟩, HBk⟩
 case round =>
  clear HK1 HBk HC0
  obtain ⟨i, rest, done, cs, rfl, rfl, HR, HK, HBW⟩ := hrel
  obtain ⟨hi, hd, hr, hsp⟩ := HR.out
  have hix := ixs_lt rest
  have hNN := HN.out
  have hind := index_any rest wr
  have hcsz : cs.size = N + 1 := by
   have h := congrArg List.length HK.out.2
   rw [Array.length_toList, List.length_append, List.length_map, List.length_replicate, hd] at h
   omega
  have hlt : i < cs.size := by omega
  have hcl : wr.cell? ⟨gb, i, none⟩ = some cs[i] := (blk_cell HK.out.1 _).trans (Array.getElem?_eq_getElem hlt)
  have hfz : wr.frozen? ⟨gb, i, none⟩ = false := blk_frozen HK.out.1 _
  have hput : ∀ x : ByteArray, (cs.setIfInBounds i (.string x)).toList = (done ++ [x]).map Value.string ++ List.replicate (N + 1 - (i + 1)) (.string ⟨#[]⟩) := by
   intro x
   rw [Array.toList_setIfInBounds, HK.out.2]
   rw [show N + 1 - i = (N + 1 - (i + 1)) + 1 from by omega, List.replicate_succ]
   rw [List.set_append_right _ _ (by rw [List.length_map, hd]; exact Nat.le_refl _), List.length_map, hd, Nat.sub_self]
   simp
  have HP := Sd.mk hput
  clear hput
  generalize hm : ixs rest = m at hix hind
  by_cases c2 : i < N
  ·by_cases c3 : m < 0
   ·have c3b : decide (m < 0) = true := decide_eq_true c3
    have hend : done ++ [rest] = splitN N s := by
     rw [← hsp, show N - i = (N - (i + 1)) + 1 from by omega]
     conv => rhs; rw [splitN, hm, if_pos c3]
    have hlen : (splitN N s).length = i + 1 := by rw [← hend, List.length_append, hd]; rfl
    have HE := Sd.mk hend
    have HLn := Sd.mk hlen
    clear hend hlen
    go_wp2_with (go_at_call 133; refine hind.mono ?_; rintro e w4 ⟨rfl, rfl⟩)
    go_ret
    refine ⟨some ⟨gb, 0, none⟩, N + 1, by rw [HLn.out]; (rfl), by rw [HLn.out]; omega, ?_, below_set HBW.out HGB.out⟩
    refine C_of_cells (Go.Joins.block_setCell HK.out.1 _) _ (by rw [HLn.out]; omega) (fun j p hj => ?_)
    have h3 := congrArg (·[j]?) (HP.out rest)
    have hjl : j < (done ++ [rest]).length := by rw [HE.out]; exact (List.getElem?_eq_some_iff.1 hj).1
    rw [← HE.out] at hj
    simp only [Array.getElem?_toList] at h3
    rw [h3, List.getElem?_append_left (by rw [List.length_map]; exact hjl), List.getElem?_map, hj]
    rfl
   ·have c3b : decide (m < 0) = false := decide_eq_false c3
    have c4 := eq_true (show 0 ≤ m by omega)
    have c5 := eq_true (show m ≤ (rest.size : Int) by omega)
    have c6 := eq_true (show 0 ≤ m + 1 by omega)
    have c7 := eq_true (show m + 1 ≤ (rest.size : Int) by omega)
    go_wp2_with (go_at_call 133; refine hind.mono ?_; rintro e w4 ⟨rfl, rfl⟩)
    have hsz : (rest.extract (m + 1).toNat rest.size).size ≤ 300 := by simp only [ByteArray.size_extract]; omega
    have hsp2 : (done ++ [rest.extract 0 m.toNat]) ++ splitN (N - (i + 1)) (rest.extract (m + 1).toNat rest.size) = splitN N s := by
     rw [← hsp, show N - i = (N - (i + 1)) + 1 from by omega]
     conv => rhs; rw [splitN, hm, if_neg (by omega)]
     rw [List.append_assoc, show m.toNat + 1 = (m + 1).toNat from by omega]
     rfl
    have HF := Sd.mk (And.intro hsz hsp2)
    clear hsz hsp2
    go_roundw
    case rel => exact ⟨i + 1, rest.extract (m + 1).toNat rest.size, done ++ [rest.extract 0 m.toNat], cs.setIfInBounds i (.string (rest.extract 0 m.toNat)), rfl, by (rfl), ⟨by omega, by rw [List.length_append, hd]; rfl, HF.out.1, HF.out.2⟩, ⟨Go.Joins.block_setCell HK.out.1 _, HP.out _⟩, ⟨below_set HBW.out HGB.out⟩⟩
    case measure => (simp [intOf]; omega)
  ·have hiN : i = N := by omega
   subst hiN
   have c3b : decide ((i : Int) < (i : Int)) = false := decide_eq_false (by omega)
   have hend : done ++ [rest] = splitN i s := by
    rw [← hsp, Nat.sub_self]
    rfl
   have hlen : (splitN i s).length = i + 1 := by rw [← hend, List.length_append, hd]; rfl
   have HE := Sd.mk hend
   have HLn := Sd.mk hlen
   clear hend hlen
   go_wp2_with (fail)
   go_ret
   refine ⟨some ⟨gb, 0, none⟩, i + 1, by rw [HLn.out]; (rfl), by rw [HLn.out]; omega, ?_, below_set HBW.out HGB.out⟩
   refine C_of_cells (Go.Joins.block_setCell HK.out.1 _) _ (by rw [HLn.out]; omega) (fun j p hj => ?_)
   have h3 := congrArg (·[j]?) (HP.out rest)
   have hjl : j < (done ++ [rest]).length := by rw [HE.out]; exact (List.getElem?_eq_some_iff.1 hj).1
   rw [← HE.out] at hj
   simp only [Array.getElem?_toList] at h3
   rw [h3, List.getElem?_append_left (by rw [List.length_map]; exact hjl), List.getElem?_map, hj]
   rfl
def cmpS (a b : ByteArray) : Int := if Op.bytesLess a.toList b.toList = true then -1 else if (!(Op.bytesLess a.toList b.toList || a.toList == b.toList)) = true then 1 else 0
def cmpL : List ByteArray → List ByteArray → Int
 | [], [] => 0
 | [], _ :: _ => -1
 | _ :: _, [] => 1
 | x :: xs, y :: ys => if cmpS x y = 0 then cmpL xs ys else cmpS x y
def lessP (p q : ByteArray) : Bool := decide (cmpL (partsOf p) (partsOf q) < 0)
theorem cmp_any (a b : ByteArray) (w : World) : Calls Tryz.prog 98 #[.string a, .string b] w fun e w' => e = .returned (.int .i64 (cmpS a b)) ∧ Drawn0 w w' := by
 have ea : cmp_isNaN_string.f a = some false := by unfold cmp_isNaN_string.f; simp
 have eb : cmp_isNaN_string.f b = some false := by unfold cmp_isNaN_string.f; simp
 unfold cmpS
 generalize h1 : Op.bytesLess a.toList b.toList = l
 generalize h2 : (a.toList == b.toList) = q
 cases l <;> cases q
 all_goals
  go_enter Tryz.func98, Tryz.ntmps98
  go_wp2_with (first | (go_at_call 74; (with_reducible refine (cmp_isNaN_string.calls a _ _ ea).mono ?_); rintro e w1 ⟨rfl, m, rfl⟩) | (go_at_call 74; (with_reducible refine (cmp_isNaN_string.calls b _ _ eb).mono ?_); rintro e w1 ⟨rfl, m, rfl⟩))
  go_ret
  exact ⟨rfl, by repeat (first | exact Drawn0.refl _ | apply Drawn0.step)⟩
theorem compare_any (A0 : Option Addr) (c0 : Nat) (l0 : List ByteArray) (A1 : Option Addr) (c1 : Nat) (l1 : List ByteArray) (w : World) (hr0 : Kd.C Kd.string w A0 l0.length l0) (hr1 : Kd.C Kd.string w A1 l1.length l1) (hl0 : l0.length ≤ 1000) (hl1 : l1.length ≤ 1000) :
  Calls Tryz.prog 72 #[.slice A0 l0.length c0, .slice A1 l1.length c1] w fun e w' => e = .returned (.int .i64 (cmpL l0 l1)) ∧ Below w.heap.size w w' := by
 have HR0 := Sd.mk hr0
 have HR1 := Sd.mk hr1
 have HL0 := Sd.mk hl0
 have HL1 := Sd.mk hl1
 clear hr0 hr1 hl0 hl1
 generalize hR : cmpL l0 l1 = R
 go_enter Tryz.func72, Tryz.ntmps72
 go_wp2_with (fail)
 go_loopw [11] (fun v11 w' => ∃ (x : Int) (m : Nat), v11 = .int .i64 x ∧ Sd (0 ≤ x ∧ x ≤ l0.length ∧ x ≤ l1.length ∧ cmpL (l0.drop x.toNat) (l1.drop x.toNat) = R) ∧ w' = w.drewN m) (fun v11 _ => l0.length + 1 - (intOf v11).toNat)
 case atStart => exact ⟨0, 0, rfl, ⟨by omega, by omega, by omega, hR⟩, rfl⟩
 case round =>
  clear hR
  obtain ⟨x, m, rfl, HX, rfl⟩ := hrel
  obtain ⟨h0, h1, h2, h3⟩ := HX.out
  have hz0 := HL0.out
  have hz1 := HL1.out
  by_cases c2 : x < (l0.length : Int)
  ·have c2b0 : decide (x < (l0.length : Int)) = true := decide_eq_true c2
   have p0 := eq_true h0
   have p1 := eq_true c2
   have hl : x.toNat < l0.length := by omega
   by_cases c3 : x < (l1.length : Int)
   ·have c3b0 : decide (x ≥ (l1.length : Int)) = false := decide_eq_false (by omega)
    have c3b1 : decide ((l1.length : Int) ≤ x) = false := decide_eq_false (by omega)
    have p2 := eq_true c3
    have hl' : x.toNat < l1.length := by omega
    obtain ⟨ad0, e0, hx0⟩ := Kd.at_string (Kd.C_drewN HR0.out m) x h0 c2
    cases e0
    obtain ⟨ad1, e1, hx1⟩ := Kd.at_string (Kd.C_drewN HR1.out m) x h0 c3
    cases e1
    have hcm : (if cmpS (rdOf ByteArray.empty l0 x) (rdOf ByteArray.empty l1 x) = 0 then cmpL (l0.drop (x.toNat + 1)) (l1.drop (x.toNat + 1)) else cmpS (rdOf ByteArray.empty l0 x) (rdOf ByteArray.empty l1 x)) = R := by
     rw [List.drop_eq_getElem_cons hl, List.drop_eq_getElem_cons hl', cmpL] at h3
     have e2 : rdOf ByteArray.empty l0 x = l0[x.toNat] := by unfold rdOf; simp [List.getD_eq_getElem?_getD, List.getElem?_eq_getElem hl]
     have e3 : rdOf ByteArray.empty l1 x = l1[x.toNat] := by unfold rdOf; simp [List.getD_eq_getElem?_getD, List.getElem?_eq_getElem hl']
     rw [e2, e3]
     exact h3
    generalize hA : rdOf ByteArray.empty l0 x = a at hx0 hcm
    generalize hB : rdOf ByteArray.empty l1 x = b at hx1 hcm
    have hcc := fun W => cmp_any a b W
    generalize hV : cmpS a b = V at hcm hcc
    clear h3 hA hB hV
    by_cases c4 : V = 0
    ·subst c4
     rw [if_pos rfl] at hcm
     have HCM := Sd.mk hcm
     clear hcm
     go_wp2_with (go_at_call 98; refine (hcc _).mono ?_; rintro e w1 ⟨rfl, m1, rfl⟩)
     go_roundw
     case rel => exact ⟨x + 1, m + m1, by (rfl), ⟨by omega, by omega, by omega, by rw [show (x + 1).toNat = x.toNat + 1 from by omega]; exact HCM.out⟩, by (rfl)⟩
     case measure => (simp [intOf]; omega)
    ·rw [if_neg c4] at hcm
     subst hcm
     have c4b : (V == 0) = false := beq_eq_false_iff_ne.mpr c4
     have c4c : (V != 0) = true := bne_iff_ne.mpr c4
     go_wp2_with (go_at_call 98; refine (hcc _).mono ?_; rintro e w1 ⟨rfl, m1, rfl⟩)
     go_ret
     exact ⟨rfl, pw_below_drewN (Below.refl _ _) _⟩
   ·have c3b0 : decide (x ≥ (l1.length : Int)) = true := decide_eq_true (by omega)
    have c3b1 : decide ((l1.length : Int) ≤ x) = true := decide_eq_true (by omega)
    obtain ⟨ad0, e0, hx0⟩ := Kd.at_string (Kd.C_drewN HR0.out m) x h0 c2
    cases e0
    have hcm : R = 1 := by
     have hn : l1.drop x.toNat = [] := List.drop_eq_nil_of_le (by omega)
     rw [List.drop_eq_getElem_cons hl, hn, cmpL] at h3
     exact h3.symm
    clear h3
    subst hcm
    go_wp2_with (fail)
    go_ret
    exact ⟨rfl, pw_below_drewN (Below.refl _ _) _⟩
  ·have hxl : x = l0.length := by omega
   subst hxl
   by_cases c5 : l0.length < l1.length
   ·have hcm : R = -1 := by
     have hn : l0.drop ((l0.length : Int)).toNat = [] := List.drop_eq_nil_of_le (by omega)
     rw [hn, List.drop_eq_getElem_cons (show ((l0.length : Int)).toNat < l1.length by omega), cmpL] at h3
     exact h3.symm
    clear h3
    subst hcm
    go_wp2_with (fail)
    go_ret
    exact ⟨rfl, pw_below_drewN (Below.refl _ _) _⟩
   ·have hcm : R = 0 := by
     have hn : l0.drop ((l0.length : Int)).toNat = [] := List.drop_eq_nil_of_le (by omega)
     have hn' : l1.drop ((l0.length : Int)).toNat = [] := List.drop_eq_nil_of_le (by omega)
     rw [hn, hn', cmpL] at h3
     exact h3.symm
    clear h3
    subst hcm
    have c5b : decide (l0.length < l1.length) = false := decide_eq_false c5
    go_wp2_with (fail)
    go_ret
    exact ⟨rfl, pw_below_drewN (Below.refl _ _) _⟩
theorem splitN_len : ∀ (n : Nat) (s : ByteArray), (splitN n s).length ≤ n + 1
 | 0, s => by simp [splitN]
 | n + 1, s => by
  rw [splitN]
  split
  ·simp
  ·have := splitN_len n (s.extract ((ixs s).toNat + 1) s.size)
   simp only [List.length_cons]
   omega
theorem split_any (s : ByteArray) (hs : s.size ≤ 300) (w : World) : Calls Tryz.prog 99 #[.string s, .string ⟨#[47]⟩] w fun e w' => ∃ A c, e = .returned (.slice A (splitN (cts s) s).length c) ∧ (splitN (cts s) s).length ≤ c ∧ Kd.C Kd.string w' A (splitN (cts s) s).length (splitN (cts s) s) ∧ Below w.heap.size w w' := by
 have hg := fun W => genSplit_any s hs W
 generalize splitN (cts s) s = l at hg ⊢
 go_enter Tryz.func99, Tryz.ntmps99
 go_wp2_with (go_at_call 118; refine (hg _).mono ?_; rintro e w1 ⟨A, c, rfl, h1, h2, h3⟩)
 go_ret
 exact ⟨A, c, rfl, h1, h2, h3⟩
theorem parts_any (s : ByteArray) (hs : s.size ≤ 300) (w : World) : Calls Tryz.prog 73 #[.string s] w fun e w' => ∃ A c, e = .returned (.slice A (partsOf s).length c) ∧ (partsOf s).length ≤ c ∧ Kd.C Kd.string w' A (partsOf s).length (partsOf s) ∧ Below w.heap.size w w' := by
 unfold partsOf
 by_cases h : s.size = 0
 ·have he : s = ⟨#[]⟩ := by
   cases s with
   | mk d =>
    have : d.size = 0 := h
    rw [Array.eq_empty_of_size_eq_zero this]
  subst he
  have h0 : (⟨#[]⟩ : ByteArray).size = 0 := rfl
  simp only [h0, if_true]
  go_enter Tryz.func73, Tryz.ntmps73
  go_wp2_with (fail)
  go_ret
  exact ⟨none, 0, rfl, Nat.le_refl _, Kd.C_nil Kd.string _, Below.refl _ _⟩
 ·rw [if_neg h]
  have hne : (s.toList == (⟨#[]⟩ : ByteArray).toList) = false := beq_eq_false_iff_ne.mpr (fun e => h (by rw [eq_of_toList e]; rfl))
  have hne2 : (s.toList == []) = false := by rw [← hne]; congr 1; decide +kernel
  have hne3 : (s.toList.isEmpty) = false := by
   cases ht : s.toList with
   | nil => rw [ht] at hne2; simp at hne2
   | cons a l => rfl
  have hg := fun W => split_any s hs W
  generalize splitN (cts s) s = l at hg ⊢
  go_enter Tryz.func73, Tryz.ntmps73
  go_wp2_with (go_at_call 99; refine (hg _).mono ?_; rintro e w1 ⟨A, c, rfl, h1, h2, h3⟩)
  go_ret
  exact ⟨A, c, rfl, h1, h2, h3⟩
theorem less_any (p q : ByteArray) (hp : p.size ≤ 300) (hq : q.size ≤ 300) (w : World) : Calls Tryz.prog 33 #[.string p, .string q] w fun e w' => e = .returned (.bool (lessP p q)) ∧ Below w.heap.size w w' := by
 have lp : (partsOf p).length ≤ 1000 := by
  unfold partsOf
  split
  ·simp
  ·have := splitN_len (cts p) p
   have := cts_le p
   omega
 have lq : (partsOf q).length ≤ 1000 := by
  unfold partsOf
  split
  ·simp
  ·have := splitN_len (cts q) q
   have := cts_le q
   omega
 have h1 := fun W => parts_any p hp W
 have h2 := fun W => parts_any q hq W
 unfold lessP
 generalize partsOf p = l1 at h1 lp ⊢
 generalize partsOf q = l2 at h2 lq ⊢
 have LP := Sd.mk lp
 have LQ := Sd.mk lq
 clear lp lq
 go_enter Tryz.func33, Tryz.ntmps33
 go_wp2_with (first | (go_at_call 72; refine (compare_any A1 c1 l1 A2 c2 l2 w2 HC1.out HC2.out LP.out LQ.out).mono ?_; rintro e w3 ⟨rfl, hb⟩; have HB3 := Sd.mk (below_step HB2.out hb); clear hb) | (go_at_call 73; (with_reducible refine (h1 w).mono ?_); rintro e w1 ⟨A1, c1, rfl, hc, hr, hb⟩; have HR1 := Sd.mk hr; have HB1 := Sd.mk hb; clear hc hr hb) | (go_at_call 73; (with_reducible refine (h2 w1).mono ?_); rintro e w2 ⟨A2, c2, rfl, hc, hr, hb⟩; have HC2 := Sd.mk hr; have HC1 := Sd.mk (Kd.C_below HR1.out hb); have HB2 := Sd.mk (below_step HB1.out hb); clear hc hr hb))
 go_ret
 exact ⟨rfl, HB3.out⟩
end Go.Proofs.YtpdkgpmcmebefaaGreatDoor.Q
namespace Go.Proofs.YtpdkgpmcmebefaaGreatDoor.Q
open Go.RowKit Go.Proofs.YtpdkgpmcmebefaaGreatDoorW.PrintWords Go.Proofs.YtpdkgpmcmebefaaGreatDoorW.PrintLast Go.Proofs.YtpdkgpmcmebefaaGreatDoorW.PrintMore
theorem LeO.upto {α : Type} {f : Nat → Option α} (h : ∀ k, LeO (f k) (f (k + 1))) (k : Nat) : ∀ d, LeO (f k) (f (k + d))
 | 0 => LeO.refl _
 | d + 1 => LeO.trans (LeO.upto h k d) (h (k + d))
theorem LeO.le {α : Type} {f : Nat → Option α} (h : ∀ k, LeO (f k) (f (k + 1))) {k m : Nat} (hk : k ≤ m) : LeO (f k) (f m) := by
 obtain ⟨d, rfl⟩ := Nat.exists_eq_add_of_le hk
 exact LeO.upto h k d
theorem wrap_id {x : Int} (h : -9223372036854775808 ≤ x ∧ x ≤ 9223372036854775807) : wrap64 x = x := by unfold wrap64; omega
def leapI (y : Int) : Bool := (y % 4 == 0) && (y % 100 != 0 || y % 400 == 0)
def yearI (y : Int) : Int := if leapI y then 366 else 365
def befI (y : Int) : Int := (y - 1) * 365 + (y - 1) / 4 - (y - 1) / 100 + (y - 1) / 400
theorem leapI_iff (y : Int) : leapI y = true ↔ y % 4 = 0 ∧ (y % 100 ≠ 0 ∨ y % 400 = 0) := by
 unfold leapI; simp
theorem bef_succ (y : Int) : befI (y + 1) = befI y + yearI y := by
 unfold befI yearI
 by_cases h : leapI y = true
 ·rw [if_pos h]
  rw [leapI_iff] at h
  omega
 ·rw [if_neg h]
  rw [leapI_iff] at h
  omega
theorem year_ge (y : Int) : 365 ≤ yearI y ∧ yearI y ≤ 366 := by unfold yearI; split <;> omega
theorem bef_add (y : Int) : ∀ n : Nat, befI y + 365 * n ≤ befI (y + n)
 | 0 => by simp
 | n + 1 => by
  have h := bef_add y n
  have h2 := bef_succ (y + n)
  have h3 := (year_ge (y + n)).1
  rw [show y + ((n + 1 : Nat) : Int) = y + n + 1 from by omega, h2]
  omega
theorem bef_add_le (y : Int) : ∀ n : Nat, befI (y + n) ≤ befI y + 366 * n
 | 0 => by simp
 | n + 1 => by
  have h := bef_add_le y n
  have h2 := bef_succ (y + n)
  have h3 := (year_ge (y + n)).2
  rw [show y + ((n + 1 : Nat) : Int) = y + n + 1 from by omega, h2]
  omega
theorem bef_lt {y z : Int} (h : y < z) : befI (y + 1) ≤ befI z := by
 have := bef_add (y + 1) (z - (y + 1)).toNat
 rw [show (y + 1) + ((z - (y + 1)).toNat : Int) = z from by omega] at this
 omega
def daysI (y : Int) (m : Nat) : Int := if m = 4 ∨ m = 6 ∨ m = 9 ∨ m = 11 then 30 else if m = 2 then (if leapI y then 29 else 28) else 31
def cumI (y : Int) : Nat → Int
 | 0 => 0
 | k + 1 => cumI y k + daysI y (k + 1)
theorem days_pos (y : Int) (m : Nat) : 28 ≤ daysI y m ∧ daysI y m ≤ 31 := by
 unfold daysI
 split
 ·omega
 ·split
  ·split <;> omega
  ·omega
theorem cum_add (y : Int) (k : Nat) : ∀ n, cumI y k ≤ cumI y (k + n)
 | 0 => by simp
 | n + 1 => by
  have h := cum_add y k n
  have h2 := (days_pos y (k + n + 1)).1
  show _ ≤ cumI y (k + n) + daysI y (k + n + 1)
  omega
theorem cum_mono {y : Int} {j k : Nat} (h : j ≤ k) : cumI y j ≤ cumI y k := by
 obtain ⟨d, rfl⟩ := Nat.exists_eq_add_of_le h
 exact cum_add y j d
theorem cum_year (y : Int) : cumI y 12 = yearI y := by
 have : cumI y 12 = 0 + daysI y 1 + daysI y 2 + daysI y 3 + daysI y 4 + daysI y 5 + daysI y 6 + daysI y 7 + daysI y 8 + daysI y 9 + daysI y 10 + daysI y 11 + daysI y 12 := rfl
 rw [this]
 unfold daysI yearI
 by_cases h : leapI y = true
 ·simp [h]
 ·simp [h]
def DateIs (d y : Int) (k : Nat) : Prop := k < 12 ∧ befI y + cumI y k ≤ d ∧ d < befI y + cumI y (k + 1)
theorem DateIs.year {d y : Int} {k : Nat} (h : DateIs d y k) : befI y ≤ d ∧ d < befI (y + 1) := by
 obtain ⟨h1, h2, h3⟩ := h
 have a := cum_mono (y := y) (Nat.zero_le k)
 have b := cum_mono (y := y) (show k + 1 ≤ 12 by omega)
 rw [cum_year] at b
 have c := bef_succ y
 have a0 : cumI y 0 = 0 := rfl
 omega
theorem DateIs.mono {d e y z : Int} {j k : Nat} (h : DateIs d y j) (g : DateIs e z k) (hde : d ≤ e) : y < z ∨ (y = z ∧ j ≤ k) := by
 by_cases h1 : z < y
 ·have := bef_lt h1
  have := h.year
  have := g.year
  omega
 ·by_cases h2 : y = z
  ·subst h2
   refine .inr ⟨rfl, ?_⟩
   by_cases h3 : j ≤ k
   ·exact h3
   ·have := cum_mono (y := y) (show k + 1 ≤ j by omega)
    obtain ⟨_, p1, _⟩ := h
    obtain ⟨_, _, p2⟩ := g
    omega
  ·exact .inl (by omega)
theorem DateIs.uniq {d y z : Int} {j k : Nat} (h : DateIs d y j) (g : DateIs d z k) : y = z ∧ j = k := by
 rcases h.mono g (Int.le_refl _) with h1 | ⟨h1, h2⟩
 ·rcases g.mono h (Int.le_refl _) with h3 | ⟨h3, _⟩ <;> omega
 ·rcases g.mono h (Int.le_refl _) with h3 | ⟨h3, h4⟩
  ·omega
  ·exact ⟨h1, by omega⟩
noncomputable def dateOf (d : Int) : Int × Nat := open Classical in if h : ∃ p : Int × Nat, DateIs d p.1 p.2 then h.choose else (0, 0)
theorem dateOf_eq {d y : Int} {k : Nat} (h : DateIs d y k) : dateOf d = (y, k) := by
 have hex : ∃ p : Int × Nat, DateIs d p.1 p.2 := ⟨(y, k), h⟩
 have : dateOf d = hex.choose := by unfold dateOf; rw [dif_pos hex]
 rw [this]
 have h2 := hex.choose_spec
 obtain ⟨e1, e2⟩ := h2.uniq h
 exact Prod.ext e1 e2
noncomputable def keyI (u t : Int) : Int :=
 if u = 1 then t / 3600 else if u = 2 then t / 86400 else if u = 3 then (t / 86400 + 3) / 7
 else if u = 4 then 12 * (dateOf (t / 86400 + befI 1970)).1 + ((dateOf (t / 86400 + befI 1970)).2 + 1 : Nat) else (dateOf (t / 86400 + befI 1970)).1
theorem bef1970 : befI 1970 = 719162 := by unfold befI; omega
theorem bef400 (n : Int) : befI (1970 + 400 * n) = befI 1970 + 146097 * n := by unfold befI; omega
theorem tdiv_nn {a b : Int} (h : 0 ≤ a) : Int.tdiv a b = a / b := Int.tdiv_eq_ediv_of_nonneg h
theorem tmod_nn {a b : Int} (h : 0 ≤ a) : Int.tmod a b = a % b := Int.tmod_eq_emod_of_nonneg h
theorem rleap (y : Int) (h : 0 ≤ y) : r21_Leap.f y = some (leapI y) := by
 unfold r21_Leap.f
 rw [tmod_nn h, tmod_nn h, tmod_nn h]
 unfold leapI
 by_cases h1 : y % 4 = 0
 ·rw [if_pos h1, h1]
  by_cases h2 : y % 100 = 0
  ·rw [if_pos h2, h2]; rfl
  ·rw [if_neg h2]
   have : (y % 100 != 0) = true := bne_iff_ne.2 h2
   rw [this]; rfl
 ·rw [if_neg h1]
  have : (y % 4 == 0) = false := beq_eq_false_iff_ne.2 h1
  rw [this]
  have : y % 400 ≠ 0 := by omega
  rw [beq_eq_false_iff_ne.2 this]; rfl
theorem ryear (y : Int) (h : 0 ≤ y) : r21_year.f y = some (yearI y) := by
 unfold r21_year.f yearI
 rw [rleap y h, Option.bind_some]
 split <;> rfl
theorem rdays (y : Int) (h : 0 ≤ y) (m : Nat) (k : Nat) (hk : 0 < k) : r21_days.f k y (m : Int) = some (daysI y m) := by
 obtain ⟨k, rfl⟩ : ∃ j, k = j + 1 := ⟨k - 1, by omega⟩
 unfold r21_days.f daysI
 by_cases h4 : m = 4
 ·subst h4; rfl
 ·rw [if_neg (by omega)]
  by_cases h6 : m = 6
  ·subst h6; rfl
  ·rw [if_neg (by omega)]
   by_cases h9 : m = 9
   ·subst h9; rfl
   ·rw [if_neg (by omega)]
    by_cases h11 : m = 11
    ·subst h11; rfl
    ·have e : ((m : Int) == 11) = false := beq_eq_false_iff_ne.2 (by omega)
     rw [e, r21_days.j0, if_neg (by simp)]
     have hd : ¬ (m = 4 ∨ m = 6 ∨ m = 9 ∨ m = 11) := by omega
     rw [if_neg hd]
     by_cases h2 : m = 2
     ·subst h2
      rw [if_pos (by rfl), if_pos rfl, rleap y h, Option.bind_some]
      split <;> rfl
     ·rw [if_neg (show ¬ ((m : Int) = 2) by omega), if_neg h2]
theorem rmonth (y : Int) (hy : 0 ≤ y) (a3 a4 a5 a6 a2 : Int) : ∀ (n i : Nat) (r : Int), i + n = 12 → 0 ≤ r → r < 400 → cumI y i + r < yearI y →
  ∃ k, k < 12 ∧ i ≤ k ∧ cumI y k ≤ cumI y i + r ∧ cumI y i + r < cumI y (k + 1) ∧ r21_Of.l1 (n + 2) r (i : Int) y ((i : Int) + 1) a2 a3 a4 a5 a6 = some (y, ((k : Nat) : Int) + 1, wrap64 (cumI y i + r - cumI y k + 1), a3, a4, a5, a6, 0)
 | 0, i, r, hi, h0, h1, h2 => by
  obtain rfl : i = 12 := by omega
  rw [cum_year] at h2
  omega
 | n + 1, i, r, hi, h0, h1, h2 => by
  have hd := days_pos y (i + 1)
  have e1 := rdays y hy (i + 1) (n + 2) (by omega)
  rw [show ((i + 1 : Nat) : Int) = (i : Int) + 1 from by omega] at e1
  have hc : cumI y (i + 1) = cumI y i + daysI y (i + 1) := rfl
  by_cases hlt : r < daysI y (i + 1)
  ·refine ⟨i, by omega, Nat.le_refl _, by omega, by omega, ?_⟩
   rw [r21_Of.l1, if_pos (by omega), e1, Option.bind_some, if_neg (by omega), show cumI y i + r - cumI y i + 1 = r + 1 from by omega]
  ·obtain ⟨k, k1, k2, k3, k4, k5⟩ := rmonth y hy a3 a4 a5 a6 a2 n (i + 1) (r - daysI y (i + 1)) (by omega) (by omega) (by omega) (by omega)
   refine ⟨k, k1, by omega, by omega, by omega, ?_⟩
   rw [r21_Of.l1, if_pos (by omega), e1, Option.bind_some, if_pos (by omega), Option.bind_some, wrap_id (by omega), wrap_id (by omega), wrap_id (by omega)]
   rw [show ((i + 1 : Nat) : Int) = (i : Int) + 1 from by omega] at k5
   rw [k5, show cumI y (i + 1) + (r - daysI y (i + 1)) = cumI y i + r from by omega]
theorem ryears (a2 a3 a4 a5 a6 : Int) : ∀ (n i : Nat) (y r : Int), i + n = 400 → 1970 ≤ y → y + (n : Int) ≤ 1000000 → 0 ≤ r → r < befI (y + n) - befI y →
  ∃ (z : Int) (k : Nat) (x : Int), DateIs (befI y + r) z k ∧ r21_Of.l0 (n + 20) r (i : Int) y 0 a2 a3 a4 a5 a6 = some (z, ((k : Nat) : Int) + 1, x, a3, a4, a5, a6, 0)
 | 0, i, y, r, hi, h0, h1, h2, h3 => by simp at h3; omega
 | n + 1, i, y, r, hi, h0, h1, h2, h3 => by
  have hy := year_ge y
  have hs := bef_succ y
  have hup := bef_add_le y (n + 1)
  by_cases hlt : r < yearI y
  ·obtain ⟨k, k1, _, k3, k4, k5⟩ := rmonth y (by omega) a3 a4 a5 a6 a2 12 0 r (by omega) h2 (by omega) (by show (0 : Int) + r < _; omega)
   have c0 : cumI y 0 = 0 := rfl
   refine ⟨y, k, wrap64 (cumI y 0 + r - cumI y k + 1), ⟨k1, by omega, by omega⟩, ?_⟩
   rw [r21_Of.l0, if_pos (by omega), ryear y (by omega), Option.bind_some, if_neg (by omega)]
   rw [show n + 20 = (n + 19) + 1 from by omega, r21_Of.j1]
   have := LeO.le (f := fun k => r21_Of.l1 k r 0 y 1 a2 a3 a4 a5 a6) (fun k => (r21_Of.mono_l k).2.1 _ _ _ _ _ _ _ _ _) (show 12 + 2 ≤ n + 19 by omega) _ k5
   exact this
  ·obtain ⟨z, k, x, d1, d2⟩ := ryears a2 a3 a4 a5 a6 n (i + 1) (y + 1) (r - yearI y) (by omega) (by omega) (by omega) (by omega) (by rw [hs, show y + 1 + (n : Int) = y + ((n + 1 : Nat) : Int) from by omega]; omega)
   refine ⟨z, k, x, ?_, ?_⟩
   ·rw [hs, show befI y + yearI y + (r - yearI y) = befI y + r from by omega] at d1; exact d1
   ·rw [show n + 1 + 20 = (n + 20) + 1 from by omega, r21_Of.l0, if_pos (by omega), ryear y (by omega), Option.bind_some, if_pos (by omega), Option.bind_some, wrap_id (by omega), wrap_id (by omega), wrap_id (by omega)]
    rw [show ((i + 1 : Nat) : Int) = (i : Int) + 1 from by omega] at d2
    exact d2
theorem rof (t : Int) (h0 : 0 ≤ t) (h1 : t ≤ 1099511627776) (K : Nat) (hK : 420 ≤ K) :
  ∃ (z : Int) (k : Nat) (x a3 a4 a5 a6 : Int), DateIs (t / 86400 + befI 1970) z k ∧ r21_Of.f K t = some (z, ((k : Nat) : Int) + 1, x, a3, a4, a5, a6, 0) := by
 have eis : r21_is.f t = some true := by unfold r21_is.f; rw [if_pos h0, decide_eq_true h1]
 have d0 : wrap64 (Int.tdiv t 86400) = t / 86400 := by rw [tdiv_nn h0]; exact wrap_id (by omega)
 have d1 : Int.tmod (t / 86400) 146097 = (t / 86400) % 146097 := tmod_nn (by omega)
 have d2 : wrap64 (Int.tdiv (t / 86400) 146097) = t / 86400 / 146097 := by rw [tdiv_nn (by omega)]; exact wrap_id (by omega)
 have hb := bef400 (t / 86400 / 146097)
 have hb2 := bef400 (t / 86400 / 146097 + 1)
 rw [show 1970 + 400 * (t / 86400 / 146097 + 1) = 1970 + 400 * (t / 86400 / 146097) + ((400 : Nat) : Int) from by omega] at hb2
 obtain ⟨z, k, x, e1, e2⟩ := ryears 0 (wrap64 (Int.tdiv (Int.tmod t 86400) 3600)) (Int.tmod (wrap64 (Int.tdiv (Int.tmod t 86400) 60)) 60) (Int.tmod t 60) (wrap64 ((Int.tmod (wrap64 (t / 86400 + 3)) 7) + 1)) 400 0 (1970 + 400 * (t / 86400 / 146097)) ((t / 86400) % 146097) (by omega) (by omega) (by omega) (by omega) (by omega)
 refine ⟨z, k, x, wrap64 (Int.tdiv (Int.tmod t 86400) 3600), Int.tmod (wrap64 (Int.tdiv (Int.tmod t 86400) 60)) 60, Int.tmod t 60, wrap64 ((Int.tmod (wrap64 (t / 86400 + 3)) 7) + 1), ?_, ?_⟩
 rotate_left
 ·unfold r21_Of.f
  rw [eis, Option.bind_some, if_pos rfl, d0, d1, d2, wrap_id (x := 400 * (t / 86400 / 146097)) (by omega), wrap_id (x := 1970 + _) (by omega)]
  exact LeO.le (f := fun k => r21_Of.l0 k ((t / 86400) % 146097) 0 (1970 + 400 * (t / 86400 / 146097)) 0 0 (wrap64 (Int.tdiv (Int.tmod t 86400) 3600)) (Int.tmod (wrap64 (Int.tdiv (Int.tmod t 86400) 60)) 60) (Int.tmod t 60) (wrap64 ((Int.tmod (wrap64 (t / 86400 + 3)) 7) + 1))) (fun k => (r21_Of.mono_l k).2.2 _ _ _ _ _ _ _ _ _) (show 400 + 20 ≤ K by omega) _ e2
 ·rw [hb, show befI 1970 + 146097 * (t / 86400 / 146097) + (t / 86400) % 146097 = t / 86400 + befI 1970 from by omega] at e1
  exact e1
theorem date_of (t : Int) (h0 : 0 ≤ t) (h1 : t ≤ 1099511627776) : DateIs (t / 86400 + befI 1970) (dateOf (t / 86400 + befI 1970)).1 (dateOf (t / 86400 + befI 1970)).2 := by
 obtain ⟨z, k, _, _, _, _, _, h, _⟩ := rof t h0 h1 420 (Nat.le_refl _)
 rw [dateOf_eq h]; exact h
theorem date_small (t : Int) (h0 : 0 ≤ t) (h1 : t ≤ 1099511627776) : 1970 ≤ (dateOf (t / 86400 + befI 1970)).1 ∧ (dateOf (t / 86400 + befI 1970)).1 ≤ 100000 := by
 have h := (date_of t h0 h1).year
 have b1 := bef1970
 generalize (dateOf (t / 86400 + befI 1970)).1 = y at h
 have lo : ¬ y < 1970 := fun q => by
  have := bef_lt q
  omega
 refine ⟨by omega, ?_⟩
 have e1 : befI (y + 1) = (y + 1 - 1) * 365 + (y + 1 - 1) / 4 - (y + 1 - 1) / 100 + (y + 1 - 1) / 400 := rfl
 have e2 : befI y = (y - 1) * 365 + (y - 1) / 4 - (y - 1) / 100 + (y - 1) / 400 := rfl
 omega
theorem rkey (u t : Int) (hu : 1 ≤ u ∧ u ≤ 5) (h0 : 0 ≤ t) (h1 : t ≤ 1099511627776) (K : Nat) (hK : 422 ≤ K) : r21_Key.f K u t = some (keyI u t, 0) := by
 obtain ⟨K, rfl⟩ : ∃ j, K = j + 1 := ⟨K - 1, by omega⟩
 have eis : r21_is.f t = some true := by unfold r21_is.f; rw [if_pos h0, decide_eq_true h1]
 obtain ⟨z, k, x, a3, a4, a5, a6, e1, e2⟩ := rof t h0 h1 K (by omega)
 have hs := date_small t h0 h1
 have hk := e1.1
 unfold r21_Key.f keyI
 rw [dateOf_eq e1] at hs ⊢
 rw [if_neg (show ¬ u < 1 by omega), if_neg (show ¬ u > 5 by omega), eis, Option.bind_some, r21_Key.j0, if_neg (by simp), e2, Option.bind_some]
 simp only at hs ⊢
 rw [tdiv_nn h0, tdiv_nn h0]
 have w1 : wrap64 (t / 3600) = t / 3600 := wrap_id (by omega)
 have w2 : wrap64 (t / 86400) = t / 86400 := wrap_id (by omega)
 have w3 : wrap64 (t / 86400 + 3) = t / 86400 + 3 := wrap_id (by omega)
 have w4 : wrap64 (Int.tdiv (t / 86400 + 3) 7) = (t / 86400 + 3) / 7 := by rw [tdiv_nn (by omega)]; exact wrap_id (by omega)
 have w5 : wrap64 (12 * z) = 12 * z := wrap_id (by omega)
 have w6 : wrap64 (12 * z + ((k : Int) + 1)) = 12 * z + ((k + 1 : Nat) : Int) := by rw [wrap_id (by omega)]; omega
 rw [w1, w2, w3, w4, w5, w6]
 by_cases q1 : u = 1
 ·rw [if_pos q1, if_pos q1]
 rw [if_neg q1, if_neg q1]
 by_cases q2 : u = 2
 ·rw [if_pos q2, if_pos q2]
 rw [if_neg q2, if_neg q2]
 by_cases q3 : u = 3
 ·rw [if_pos q3, if_pos q3]
 rw [if_neg q3, if_neg q3]
 by_cases q4 : u = 4
 ·rw [if_pos q4, if_pos q4]
 rw [if_neg q4, if_neg q4]
theorem key_mono {u s t : Int} (hu : 1 ≤ u ∧ u ≤ 5) (h0 : 0 ≤ s) (hst : s ≤ t) (h1 : t ≤ 1099511627776) : keyI u s ≤ keyI u t := by
 have d1 := date_of s h0 (by omega)
 have d2 := date_of t (by omega) h1
 have hm := d1.mono d2 (by omega)
 have k1 := d1.1
 have k2 := d2.1
 unfold keyI
 generalize dateOf (s / 86400 + befI 1970) = p at *
 generalize dateOf (t / 86400 + befI 1970) = q at *
 split
 ·omega
 split
 ·omega
 split
 ·omega
 split
 ·omega
 ·omega
end Go.Proofs.YtpdkgpmcmebefaaGreatDoor.Q
namespace Go.Proofs.YtpdkgpmcmebefaaGreatDoor.Q
open Go.RowKit Go.Proofs.YtpdkgpmcmebefaaGreatDoorW.PrintWords Go.Proofs.YtpdkgpmcmebefaaGreatDoorW.PrintLast Go.Proofs.YtpdkgpmcmebefaaGreatDoorW.PrintMore
attribute [local go_sem] max2_int min2_int max_two min_two max_three min_three max_four min_four
def okB (b : UInt8) : Bool := decide (32 < (b.toNat : Int)) && decide ((b.toNat : Int) < 127)
def wordP (s : ByteArray) (most : Int) : Bool := s.data.toList.all okB && (decide (s.size ≠ 0) && decide ((s.size : Int) ≤ most))
theorem bytesWorld_below (w : World) (e : TypeId) (s : ByteArray) : Below w.heap.size w (Lib.bytesWorld w e s) := by
 exact ⟨rfl, rfl, rfl, by rw [Lib.bytesWorld_size]; omega, fun k hk => Lib.bytesWorld_at_old w e s k hk⟩
theorem wordP_bad {s : ByteArray} {most : Int} (x : Nat) (hx : x < s.size) (hb : okB (s.data.toList.getD x 0) = false) : wordP s most = false := by
 unfold wordP
 have hl : x < s.data.toList.length := by simpa using hx
 have : s.data.toList.all okB = false := by
  rw [List.all_eq_false]
  refine ⟨s.data.toList.getD x 0, ?_, by rw [hb]; simp⟩
  rw [List.getD_eq_getElem?_getD, List.getElem?_eq_getElem hl]
  exact List.getElem_mem hl
 rw [this]; rfl
theorem wordP_all {s : ByteArray} {most : Int} (h : ∀ x : Nat, x < s.size → okB (s.data.toList.getD x 0) = true) : wordP s most = (decide (s.size ≠ 0) && decide ((s.size : Int) ≤ most)) := by
 unfold wordP
 have : s.data.toList.all okB = true := by
  rw [List.all_eq_true]
  intro b hb
  obtain ⟨i, hi, rfl⟩ := List.getElem_of_mem hb
  have := h i (by simpa using hi)
  rw [List.getD_eq_getElem?_getD, List.getElem?_eq_getElem hi] at this
  exact this
 rw [this, Bool.true_and]
theorem snap_word_calls (s : ByteArray) (most : Int) (hsz : (s.size : Int) < 9223372036854775808) (w : World) :
  Calls Tryz.prog 37 #[.string s, .int .i64 most] w fun e w' => e = .returned (.bool (wordP s most)) ∧ Below w.heap.size w w' := by
 have hcv : ∀ W : World, (convert 9 38 (.string s)).run Tryz.prog W = .ok (.slice (some ⟨W.heap.size, 0, none⟩) s.size (grownCap W s.size 0 5)) (Lib.bytesWorld W 5 s) := fun W => Lib.run_convert_string_bytes W 9 38 5 s Tryz.underlying9 Tryz.underlying38 Tryz.underlying5
 generalize hR : wordP s most = R
 have HR := Sd.mk hR
 have HSZ := Sd.mk hsz
 clear hsz
 clear hR
 go_enter Tryz.func37, Tryz.ntmps37
 go_wp2
 have HB := Sd.mk (bytesWorld_below w 5 s)
 have HC : Sd (∀ j : Nat, j < s.size → (Lib.bytesWorld w 5 s).cell? ((⟨w.heap.size, 0, none⟩ : Addr).add j) = some (.int .u8 (s.data.toList.getD j 0).toNat)) := ⟨fun j hj => by rw [add_off]; exact Lib.bytesWorld_cell w 5 s j hj⟩
 generalize Lib.bytesWorld w 5 s = W0 at HB HC ⊢
 generalize (⟨w.heap.size, 0, none⟩ : Addr) = ad at HC ⊢
 clear hcv
 have HG : Sd True := ⟨trivial⟩
 go_loopw [10] (fun v10 w' => ∃ x : Int, v10 = .int .i64 x ∧ Sd (0 ≤ x ∧ x ≤ s.size ∧ ∀ j : Nat, (j : Int) < x → okB (s.data.toList.getD j 0) = true) ∧ Sd (Drawn0 W0 w')) (fun v10 _ => s.size + 1 - (intOf v10).toNat)
 case atStart => exact ⟨0, rfl, ⟨by omega, by omega, fun j hj => by omega⟩, ⟨Drawn0.refl _⟩⟩
 case round =>
  obtain ⟨x, rfl, HX, HD⟩ := hrel
  have hx0 := HX.out.1
  by_cases c : x < (s.size : Int)
  ·have cb : decide (x < (s.size : Int)) = true := decide_eq_true c
   have hcell : ∃ b : UInt8, b = s.data.toList.getD x.toNat 0 ∧ wr.cell? (ad.add x.toNat) = some (.int .u8 b.toNat) := by
    refine ⟨_, rfl, ?_⟩
    obtain ⟨n, hn⟩ := HD.out
    rw [hn]
    simpa using HC.out x.toNat (by omega)
   obtain ⟨b, hb, hcell⟩ := hcell
   have HBB := Sd.mk hb
   have hp1 := eq_true hx0
   have hp2 := eq_true c
   clear hb
   by_cases c1 : (b.toNat : Int) ≤ 32
   ·have c1b : decide ((b.toNat : Int) ≤ 32) = true := decide_eq_true c1
    have hw : wordP s most = false := wordP_bad x.toNat (by omega) (by rw [← HBB.out]; unfold okB; rw [decide_eq_false (by omega)]; rfl)
    go_wp2
    go_ret
    exact ⟨by (rw [← HR.out, hw]; rfl), by obtain ⟨n, hn⟩ := HD.out; rw [hn]; (with_reducible repeat ((apply pw_below_drewN))); exact HB.out⟩
   ·have c1b : decide ((b.toNat : Int) ≤ 32) = false := decide_eq_false c1
    by_cases c2 : 127 ≤ (b.toNat : Int)
    ·have c2b : decide (127 ≤ (b.toNat : Int)) = true := decide_eq_true c2
     have hw : wordP s most = false := wordP_bad x.toNat (by omega) (by rw [← HBB.out]; unfold okB; rw [decide_eq_true (by omega), decide_eq_false (by omega)]; rfl)
     go_wp2
     go_ret
     exact ⟨by (rw [← HR.out, hw]; rfl), by obtain ⟨n, hn⟩ := HD.out; rw [hn]; (with_reducible repeat ((apply pw_below_drewN))); exact HB.out⟩
    ·have c2b : decide (127 ≤ (b.toNat : Int)) = false := decide_eq_false c2
     have HN : Sd (0 ≤ x + 1 ∧ x + 1 ≤ s.size ∧ ∀ j : Nat, (j : Int) < x + 1 → okB (s.data.toList.getD j 0) = true) := ⟨by
      refine ⟨by omega, by omega, fun j hj => ?_⟩
      by_cases q : (j : Int) < x
      ·exact HX.out.2.2 j q
      ·obtain rfl : j = x.toNat := by omega
       rw [← HBB.out]; unfold okB; rw [decide_eq_true (by omega), decide_eq_true (by omega)]; rfl⟩
     have HM : Sd ((x + 1).toNat = x.toNat + 1 ∧ x.toNat < s.size) := ⟨by omega⟩
     have ew : wrap64 (x + 1) = x + 1 := wrap_id (by have := HSZ.out; omega)
     go_wp2
     go_roundw
     case rel => exact ⟨x + 1, (by (rw [ew])), HN, ⟨by obtain ⟨n, hn⟩ := HD.out; rw [hn]; repeat (first | exact Drawn0.refl _ | apply Drawn0.step)⟩⟩
     case measure => have := HM.out; simp only [intOf, ew]; omega
  ·have cb : decide (x < (s.size : Int)) = false := decide_eq_false c
   have hall := wordP_all (s := s) (most := most) (fun j hj => HX.out.2.2 j (by omega))
   by_cases c1 : s.size = 0
   ·have hw : wordP s most = false := by rw [hall, decide_eq_false (by omega)]; rfl
    have e0 : s.toList.isEmpty = true := by
     rw [List.isEmpty_iff, toList_data]
     exact List.eq_nil_of_length_eq_zero (by rw [Array.length_toList]; exact c1)
    have HW := Sd.mk hw
    clear hall c c1 hw hx0
    go_wp2
    go_ret
    exact ⟨by (rw [← HR.out, HW.out]; rfl), by obtain ⟨n, hn⟩ := HD.out; rw [hn]; (with_reducible repeat ((apply pw_below_drewN))); exact HB.out⟩
   ·have e0 : s.toList.isEmpty = false := by
     rw [List.isEmpty_eq_false_iff, toList_data]
     intro h
     have := congrArg List.length h
     rw [Array.length_toList] at this
     exact c1 this
    by_cases c2 : (s.size : Int) ≤ most
    ·have hw : wordP s most = true := by rw [hall, decide_eq_true c1, decide_eq_true c2]; rfl
     have c2b : decide ((s.size : Int) ≤ most) = true := decide_eq_true c2
     have HW := Sd.mk hw
     clear hall c c1 c2 hw hx0
     go_wp2
     go_ret
     exact ⟨by (rw [← HR.out, HW.out]; rfl), by obtain ⟨n, hn⟩ := HD.out; rw [hn]; (with_reducible repeat ((apply pw_below_drewN))); exact HB.out⟩
    ·have hw : wordP s most = false := by rw [hall, decide_eq_false c2, Bool.and_false]
     have c2b : decide ((s.size : Int) ≤ most) = false := decide_eq_false c2
     have HW := Sd.mk hw
     clear hall c c1 c2 hw hx0
     go_wp2
     go_ret
     exact ⟨by (rw [← HR.out, HW.out]; rfl), by obtain ⟨n, hn⟩ := HD.out; rw [hn]; (with_reducible repeat ((apply pw_below_drewN))); exact HB.out⟩
theorem snap_isTag_calls (s : ByteArray) (hsz : (s.size : Int) < 9223372036854775808) (w : World) :
  Calls Tryz.prog 34 #[.string s] w fun e w' => e = .returned (.bool (wordP s 32)) ∧ Below w.heap.size w w' := by
 have hw := fun W => snap_word_calls s 32 hsz W
 have HB := Sd.mk (Below.refl w.heap.size w)
 clear hsz
 go_enter Tryz.func34, Tryz.ntmps34
 go_wp2_with ((go_at_call 37; (with_reducible refine (hw _).mono ?_); rintro e w' ⟨rfl, hb⟩))
 go_ret
 exact ⟨rfl, hb⟩
def ixz (s : ByteArray) : Int := Lib.indexByte s.data.toList 0
def nameP (s : ByteArray) : Bool := !s.toList.isEmpty && (!(s.toList == [46]) && (!(s.toList == [46, 46]) && (decide ((s.size : Int) ≤ 64) && (decide (ixz s < 0) && decide (ixs s < 0)))))
theorem indexByte_zero (s : ByteArray) (w : World) : Calls Tryz.prog 138 #[.string s, .int .u8 0] w fun e w' => e = .returned (.int .i64 (ixz s)) ∧ w' = w := by
 go_enter Tryz.func138, Tryz.ntmps138
 go_wp2
 rw [run_callFunc_extern Tryz.func143 (by kernel_rfl) (by kernel_rfl) (by kernel_rfl) (e := Extern.BytealgIndexByte.indexByte) (by kernel_rfl), Lib.run_indexByteString]
 simp only [Result.andThen]
 rw [Oper.upon_value]
 go_wp2
 go_ret
 exact ⟨rfl, rfl⟩
theorem indexByteZ_any (s : ByteArray) (w : World) : Calls Tryz.prog 129 #[.string s, .int .u8 0] w fun e w' => e = .returned (.int .i64 (ixz s)) ∧ w' = w := by
 go_enter Tryz.func129, Tryz.ntmps129
 go_wp2_with ((go_at_call 138; (with_reducible refine (indexByte_zero s _).mono ?_); rintro e w' ⟨rfl, rfl⟩))
 go_ret
 exact ⟨rfl, rfl⟩
theorem contains_any (s : ByteArray) (w : World) : Calls Tryz.prog 130 #[.string s, .string ⟨#[47]⟩] w fun e w' => e = .returned (.bool (decide (0 ≤ ixs s))) ∧ w' = w := by
 go_enter Tryz.func130, Tryz.ntmps130
 go_wp2_with ((go_at_call 133; (with_reducible refine (index_any s _).mono ?_); rintro e w' ⟨rfl, rfl⟩))
 go_ret
 exact ⟨rfl, rfl⟩
theorem path_IsName_calls (s : ByteArray) (w : World) : Calls Tryz.prog 117 #[.string s] w fun e w' => e = .returned (.bool (nameP s)) ∧ Drawn0 w w' := by
 unfold nameP
 generalize h1 : s.toList.isEmpty = b1
 generalize h2 : (s.toList == [46]) = b2
 generalize h3 : (s.toList == [46, 46]) = b3
 generalize h4 : decide ((s.size : Int) ≤ 64) = b4
 generalize h5 : decide (ixz s < 0) = b5
 have h6' : decide (0 ≤ ixs s) = !decide (ixs s < 0) := by
  by_cases h : 0 ≤ ixs s
  ·rw [decide_eq_true h, decide_eq_false (by omega)]; rfl
  ·rw [decide_eq_false h, decide_eq_true (by omega)]; rfl
 generalize h6 : decide (ixs s < 0) = b6 at h6'
 have h7 : decide (0 ≤ ixs s) = !b6 := h6'
 clear h6'
 cases b1 <;> cases b2 <;> cases b3 <;> cases b4 <;> cases b5 <;> cases b6
 all_goals
  go_enter Tryz.func117, Tryz.ntmps117
  go_wp2_with (first | (go_at_call 129; (with_reducible refine (indexByteZ_any s _).mono ?_); rintro e w' ⟨rfl, rfl⟩) | (go_at_call 130; (with_reducible refine (contains_any s _).mono ?_); rintro e w' ⟨rfl, rfl⟩))
  go_ret
  exact ⟨by (rfl), by repeat ((exact Drawn0.refl _))⟩
def sumS (l : List ByteArray) : Int := (l.map (fun s => (s.size : Int) + 1)).sum
theorem sumS_cons (s : ByteArray) (l : List ByteArray) : sumS (s :: l) = s.size + 1 + sumS l := by simp [sumS]
theorem sumS_nn : ∀ l : List ByteArray, 0 ≤ sumS l
 | [] => by simp [sumS]
 | s :: l => by rw [sumS_cons]; have := sumS_nn l; omega
theorem sumS_take_le (l : List ByteArray) (n : Nat) : sumS (l.take n) ≤ sumS l := by
 induction l generalizing n with
 | nil => simp [sumS]
 | cons s l ih =>
  cases n with
  | zero => rw [List.take_zero]; exact Int.le_trans (by simp [sumS]) (sumS_nn (s :: l))
  | succ n => rw [List.take_succ_cons, sumS_cons, sumS_cons]; have := ih n; omega
theorem sumS_next (l : List ByteArray) (n : Nat) (h : n < l.length) : sumS (l.take (n + 1)) = sumS (l.take n) + (((rdOf ByteArray.empty l (n : Int)).size : Int) + 1) := by
 have e : rdOf ByteArray.empty l (n : Int) = l[n] := by unfold rdOf; simp [List.getD_eq_getElem?_getD, List.getElem?_eq_getElem h]
 rw [e, List.take_succ_eq_append_getElem h]
 unfold sumS
 rw [List.map_append, List.sum_append, List.map_singleton]
 simp only [List.sum_cons, List.sum_nil]
 omega
theorem splitN_sum : ∀ (n : Nat) (s : ByteArray), sumS (splitN n s) ≤ s.size + 1
 | 0, s => by simp [splitN, sumS]
 | n + 1, s => by
  rw [splitN]
  split
  ·simp [sumS]
  ·have hi := ixs_lt s
   have := splitN_sum n (s.extract ((ixs s).toNat + 1) s.size)
   rw [sumS_cons]
   simp only [ByteArray.size_extract] at this ⊢
   omega
theorem parts_sum (s : ByteArray) : sumS (partsOf s) ≤ s.size + 1 := by
 unfold partsOf
 split
 ·simp [sumS]; omega
 ·exact splitN_sum _ s
theorem all_bad {l : List ByteArray} {x : Int} (h0 : 0 ≤ x) (h1 : x < l.length) (h : nameP (rdOf ByteArray.empty l x) = false) : l.all nameP = false := by
 have hl : x.toNat < l.length := by omega
 have e : rdOf ByteArray.empty l x = l[x.toNat] := by unfold rdOf; simp [List.getD_eq_getElem?_getD, List.getElem?_eq_getElem hl]
 rw [List.all_eq_false]
 exact ⟨l[x.toNat], List.getElem_mem hl, by rw [← e, h]; simp⟩
theorem all_next {l : List ByteArray} {x : Int} (h0 : 0 ≤ x) (h1 : x < l.length) (hb : (l.take x.toNat).all nameP = true) (h : nameP (rdOf ByteArray.empty l x) = true) : (l.take (x + 1).toNat).all nameP = true := by
 have hl : x.toNat < l.length := by omega
 have e : rdOf ByteArray.empty l x = l[x.toNat] := by unfold rdOf; simp [List.getD_eq_getElem?_getD, List.getElem?_eq_getElem hl]
 rw [show (x + 1).toNat = x.toNat + 1 from by omega, List.take_succ_eq_append_getElem hl, List.all_append, hb, ← e]
 simp [h]
theorem path_is_calls (A0 : Option Addr) (c0 : Nat) (l : List ByteArray) (w : World) (hr0 : Kd.C Kd.string w A0 l.length l) (hl : l.length ≤ 1000) (hsum : sumS l ≤ 60000) :
  Calls Tryz.prog 97 #[.slice A0 l.length c0] w fun e w' => e = .returned (.bool (l.all nameP && decide (0 < l.length))) ∧ Drawn0 w w' := by
 have HR0 := Sd.mk hr0
 have HL := Sd.mk hl
 have HS := Sd.mk hsum
 clear hr0 hl hsum
 generalize hR : (l.all nameP && decide (0 < l.length)) = R
 have HR := Sd.mk hR
 clear hR
 go_enter Tryz.func97, Tryz.ntmps97
 go_wp2
 go_loopw [3, 8] (fun v3 v8 w' => ∃ (x : Int) (m : Nat), v3 = .int .i64 (sumS (l.take x.toNat)) ∧ v8 = .int .i64 x ∧ Sd (0 ≤ x ∧ x ≤ l.length ∧ (l.take x.toNat).all nameP = true) ∧ w' = w.drewN m) (fun _ v8 _ => l.length + 1 - (intOf v8).toNat)
 case atStart => exact ⟨0, 0, rfl, rfl, ⟨by omega, by omega, rfl⟩, rfl⟩
 case round =>
  obtain ⟨x, m, rfl, rfl, HX, rfl⟩ := hrel
  have h0 := HX.out.1
  by_cases c : x < (l.length : Int)
  ·have cb : decide (x < (l.length : Int)) = true := decide_eq_true c
   have p0 := eq_true h0
   have p1 := eq_true c
   obtain ⟨ad0, e0, hx0⟩ := Kd.at_string (Kd.C_drewN HR0.out m) x h0 c
   cases e0
   have hall := @all_bad l x h0 c
   have hnext := @all_next l x h0 c HX.out.2.2
   have hsum := sumS_next l x.toNat (by omega)
   have hle := sumS_take_le l (x.toNat + 1)
   have hle0 := sumS_nn (l.take x.toNat)
   rw [show ((x.toNat : Nat) : Int) = x from by omega] at hsum
   rw [show x.toNat + 1 = (x + 1).toNat from by omega] at hsum hle
   generalize rdOf ByteArray.empty l x = p at hx0 hall hnext hsum
   have hnm := fun W => path_IsName_calls p W
   generalize hV : nameP p = V at hnm hall hnext
   have HN := Sd.mk hnext
   have HSM : Sd (wrap64 (sumS (l.take x.toNat) + wrap64 ((p.size : Int) + 1)) = sumS (l.take (x + 1).toNat)) := ⟨by
    have := HS.out
    rw [wrap_id (x := (p.size : Int) + 1) (by omega), wrap_id (by omega), hsum]⟩
   have HL1 : Sd (x + 1 ≤ (l.length : Int)) := ⟨by omega⟩
   have HM : Sd ((x + 1).toNat = x.toNat + 1 ∧ x.toNat < l.length) := ⟨by omega⟩
   have HW : Sd (wrap64 (x + 1) = x + 1) := ⟨wrap_id (by have := HL.out; omega)⟩
   have HALL := Sd.mk hall
   clear hall hnext hsum hle hle0 hV
   cases V with
   | true =>
    have hsm := HSM.out
    have hwx := HW.out
    go_wp2_with (go_at_call 117; refine (hnm _).mono ?_; rintro e w1 ⟨rfl, m1, rfl⟩)
    go_roundw
    case rel => exact ⟨x + 1, m + m1, by (rw [hsm]), by (rw [hwx]), ⟨by have := HX.out; omega, HL1.out, HN.out (by (trivial))⟩, by (rfl)⟩
    case measure => have := HM.out; (simp [intOf]; omega)
   | false =>
    go_wp2_with (go_at_call 117; refine (hnm _).mono ?_; rintro e w1 ⟨rfl, m1, rfl⟩)
    go_ret
    exact ⟨by rw [← HR.out, HALL.out (by (trivial))]; rfl, by repeat (first | exact Drawn0.refl _ | apply Drawn0.step)⟩
  ·have cb : decide (x < (l.length : Int)) = false := decide_eq_false c
   have hx : x.toNat = l.length := by have := HX.out; omega
   have hA := HX.out.2.2
   rw [hx, List.take_length] at hA ⊢
   have hs0 := sumS_nn l
   have h2 : decide ((l.length : Int) ≤ 4096) = true := decide_eq_true (by have := HL.out; omega)
   have ew : wrap64 (sumS l - 1) = sumS l - 1 := wrap_id (by have := HS.out; omega)
   have h3 : decide (wrap64 (sumS l - 1) ≤ 65536) = true := decide_eq_true (by rw [ew]; have := HS.out; omega)
   have h3b : decide (sumS l - 1 ≤ 65536) = true := decide_eq_true (by have := HS.out; omega)
   have HA := Sd.mk hA
   clear hA hx h0 c hs0 ew
   generalize sumS l = S at h3 h3b ⊢
   by_cases c4 : 0 < (l.length : Int)
   ·have h4 : decide (0 < (l.length : Int)) = true := decide_eq_true c4
    have HR2 : Sd (R = true) := ⟨by rw [← HR.out, HA.out, decide_eq_true (by omega)]; rfl⟩
    clear c4
    go_wp2
    all_goals first | (exfalso; have h4_ := odt h4; omega) | skip
    go_ret
    exact ⟨by rw [HR2.out]; (rfl), by repeat (first | exact Drawn0.refl _ | apply Drawn0.step)⟩
   ·have h4 : decide (0 < (l.length : Int)) = false := decide_eq_false c4
    have HR2 : Sd (R = false) := ⟨by rw [← HR.out, HA.out, decide_eq_false (by omega)]; rfl⟩
    clear c4
    go_wp2
    all_goals first | (exfalso; have h4_ := of_decide_eq_false h4; omega) | skip
    go_ret
    exact ⟨by rw [HR2.out]; (rfl), by repeat (first | exact Drawn0.refl _ | apply Drawn0.step)⟩
def pathP (s : ByteArray) : Bool := (partsOf s).all nameP && decide (0 < (partsOf s).length)
theorem parts_len (s : ByteArray) : ((partsOf s).length : Int) ≤ sumS (partsOf s) := by
 generalize partsOf s = l
 induction l with
 | nil => simp [sumS]
 | cons a l ih => rw [sumS_cons]; simp only [List.length_cons]; omega
theorem path_Split_calls (s : ByteArray) (hs : s.size ≤ 300) (w : World) :
  Calls Tryz.prog 71 #[.string s] w fun e w' => (∃ v : Value, e = .returned (.tuple #[v, .int .i64 (if pathP s = true then 0 else 170)])) ∧ Below w.heap.size w w' := by
 have hpa := fun W => parts_any s hs W
 have hsum := parts_sum s
 have hlen := parts_len s
 have his := fun (A : Option Addr) (c : Nat) (W : World) (h : Kd.C Kd.string W A (partsOf s).length (partsOf s)) => path_is_calls A c (partsOf s) W h (by omega) (by omega)
 generalize hP : pathP s = P
 have HP := Sd.mk hP
 unfold pathP at HP
 clear hP hsum hlen hs
 have HB := Sd.mk (Below.refl w.heap.size w)
 generalize ((partsOf s).all nameP && decide (0 < (partsOf s).length)) = V at his HP
 obtain rfl : V = P := HP.out
 clear HP
 go_enter Tryz.func71, Tryz.ntmps71
 cases V with
 | true =>
  go_wp2_with (first | (go_at_call 73; (with_reducible refine (hpa _).mono ?_); rintro e w1 ⟨A, c, rfl, hlc, hC, hb⟩; have HC1 := Sd.mk hC; have n0_ := Sd.mk (below_step HB.out hb); clear HB hC hb; have HB := n0_; clear n0_) | (go_at_call 97; (with_reducible refine (his A c _ HC1.out).mono ?_); rintro e w2 ⟨rfl, m, rfl⟩))
  go_ret2
  exact ⟨⟨_, rfl⟩, by (with_reducible repeat ((apply pw_below_drewN))); exact HB.out⟩
 | false =>
  go_wp2_with (first | (go_at_call 73; (with_reducible refine (hpa _).mono ?_); rintro e w1 ⟨A, c, rfl, hlc, hC, hb⟩; have HC1 := Sd.mk hC; have n0_ := Sd.mk (below_step HB.out hb); clear HB hC hb; have HB := n0_; clear n0_) | (go_at_call 97; (with_reducible refine (his A c _ HC1.out).mono ?_); rintro e w2 ⟨rfl, m, rfl⟩))
  go_ret2
  exact ⟨⟨_, rfl⟩, by (with_reducible repeat ((apply pw_below_drewN))); exact HB.out⟩
theorem snap_isPath_calls (s : ByteArray) (hs : s.size ≤ 300) (w : World) :
  Calls Tryz.prog 32 #[.string s] w fun e w' => e = .returned (.bool (pathP s)) ∧ Below w.heap.size w w' := by
 have hsp := fun W => path_Split_calls s hs W
 generalize pathP s = P at hsp ⊢
 clear hs
 cases P with
 | true =>
  go_enter Tryz.func32, Tryz.ntmps32
  go_wp2_with ((go_at_call 71; (with_reducible refine (hsp _).mono ?_); rintro e w1 ⟨⟨v, rfl⟩, hb⟩))
  go_ret
  exact ⟨rfl, hb⟩
 | false =>
  go_enter Tryz.func32, Tryz.ntmps32
  go_wp2_with ((go_at_call 71; (with_reducible refine (hsp _).mono ?_); rintro e w1 ⟨⟨v, rfl⟩, hb⟩))
  go_ret
  exact ⟨rfl, hb⟩
end Go.Proofs.YtpdkgpmcmebefaaGreatDoor.Q
namespace Go.Proofs.YtpdkgpmcmebefaaGreatDoor.Q
open Go.RowKit Go.Shelf Go.Proofs.YtpdkgpmcmebefaaGreatDoorW.PrintWords Go.Proofs.YtpdkgpmcmebefaaGreatDoorW.PrintLast Go.Proofs.YtpdkgpmcmebefaaGreatDoorW.PrintMore
attribute [local go_sem] max2_int min2_int max_two min_two max_three min_three max_four min_four
def Asks1 (W : World) (f : FuncId) (l : List ByteArray) (q : ByteArray → Bool) : Prop :=
 Enters Tryz.prog f ∧ ∀ w, Below W.heap.size W w → ∀ s ∈ l, Calls Tryz.prog f #[.string s] w fun e w' => e = .returned (.bool (q s)) ∧ Below w.heap.size w w'
def Asks2 (W : World) (f : FuncId) (l : List ByteArray) (q : ByteArray → ByteArray → Bool) : Prop :=
 Enters Tryz.prog f ∧ ∀ w, Below W.heap.size W w → ∀ s ∈ l, ∀ t ∈ l, Calls Tryz.prog f #[.string s, .string t] w fun e w' => e = .returned (.bool (q s t)) ∧ Below w.heap.size w w'
def okAt (q : ByteArray → Bool) (r : ByteArray → ByteArray → Bool) (l : List ByteArray) (i : Nat) : Bool := q (rdOf ByteArray.empty l (i : Int)) && (decide (i = 0) || r (rdOf ByteArray.empty l ((i : Int) - 1)) (rdOf ByteArray.empty l (i : Int)))
def risesP (q : ByteArray → Bool) (r : ByteArray → ByteArray → Bool) (l : List ByteArray) : Bool := decide (l.length ≤ 64) && (List.range l.length).all (okAt q r l)
theorem rises_bad {q : ByteArray → Bool} {r : ByteArray → ByteArray → Bool} {l : List ByteArray} {i : Nat} (hi : i < l.length) (h : okAt q r l i = false) : risesP q r l = false := by
 unfold risesP
 have : (List.range l.length).all (okAt q r l) = false := by
  rw [List.all_eq_false]
  exact ⟨i, List.mem_range.2 hi, by rw [h]; simp⟩
 rw [this, Bool.and_false]
theorem rises_good {q : ByteArray → Bool} {r : ByteArray → ByteArray → Bool} {l : List ByteArray} (hl : l.length ≤ 64) (h : ∀ i, i < l.length → okAt q r l i = true) : risesP q r l = true := by
 unfold risesP
 rw [decide_eq_true hl, Bool.true_and, List.all_eq_true]
 intro i hi
 exact h i (List.mem_range.1 hi)
theorem rd_mem {l : List ByteArray} {x : Int} (h0 : 0 ≤ x) (h1 : x < l.length) : rdOf ByteArray.empty l x ∈ l := by
 have hl : x.toNat < l.length := by omega
 have e : rdOf ByteArray.empty l x = l[x.toNat] := by unfold rdOf; simp [List.getD_eq_getElem?_getD, List.getElem?_eq_getElem hl]
 rw [e]; exact List.getElem_mem hl
theorem snap_rises_calls (A0 : Option Addr) (c0 : Nat) (l : List ByteArray) (f g : FuncId) (q : ByteArray → Bool) (r : ByteArray → ByteArray → Bool) (w : World) (hr0 : Kd.C Kd.string w A0 l.length l) (hf : Asks1 w f l q) (hg : Asks2 w g l r) :
  Calls Tryz.prog 31 #[.slice A0 l.length c0, .func (.func f) #[] #[], .func (.func g) #[] #[]] w fun e w' => e = .returned (.bool (risesP q r l)) ∧ Below w.heap.size w w' := by
 have HR0 := Sd.mk hr0
 have HF := Sd.mk hf
 have HG := Sd.mk hg
 clear hr0 hf hg
 generalize hR : risesP q r l = R
 have HR := Sd.mk hR
 clear hR
 by_cases hl : 64 < (l.length : Int)
 ·have hlb : decide (64 < (l.length : Int)) = true := decide_eq_true hl
  have HR2 : Sd (R = false) := ⟨by rw [← HR.out]; unfold risesP; rw [decide_eq_false (by omega)]; rfl⟩
  go_enter Tryz.func31, Tryz.ntmps31
  go_wp2
  all_goals (skip)
  go_ret
  exact ⟨by rw [HR2.out]; rfl, Below.refl _ _⟩
 have hlb : decide (64 < (l.length : Int)) = false := decide_eq_false hl
 have HL : Sd (l.length ≤ 64) := ⟨by omega⟩
 clear hl
 go_enter Tryz.func31, Tryz.ntmps31
 go_wp2
 go_loopw [14] (fun v14 w' => ∃ (x : Int), v14 = .int .i64 x ∧ Sd (0 ≤ x ∧ x ≤ l.length ∧ ∀ i : Nat, (i : Int) < x → okAt q r l i = true) ∧ Sd (Below w.heap.size w w')) (fun v14 _ => l.length + 1 - (intOf v14).toNat)
 case atStart => exact ⟨0, rfl, ⟨by omega, by omega, fun i hi => by omega⟩, ⟨Below.refl _ _⟩⟩
 case round =>
  obtain ⟨x, rfl, HX, HB⟩ := hrel
  have h0 := HX.out.1
  by_cases c : x < (l.length : Int)
  ·have cb : decide (x < (l.length : Int)) = true := decide_eq_true c
   have p0 := eq_true h0
   have p1 := eq_true c
   obtain ⟨ad0, e0, hx0⟩ := Kd.at_string (Kd.C_below HR0.out HB.out) x h0 c
   cases e0
   have HCA := Sd.mk (HF.out.2 wr HB.out _ (rd_mem h0 c))
   have HM : Sd ((x + 1).toNat = x.toNat + 1 ∧ x.toNat < l.length) := ⟨by omega⟩
   have HW : Sd (wrap64 (x + 1) = x + 1) := ⟨wrap_id (by have := HL.out; omega)⟩
   have HOK : Sd (okAt q r l x.toNat = (q (rdOf ByteArray.empty l x) && (decide (x.toNat = 0) || r (rdOf ByteArray.empty l (x - 1)) (rdOf ByteArray.empty l x)))) := ⟨by unfold okAt; rw [show ((x.toNat : Nat) : Int) = x from by omega]⟩
   have HNX : Sd (okAt q r l x.toNat = true → ∀ i : Nat, (i : Int) < x + 1 → okAt q r l i = true) := ⟨fun hh i hi => by
    by_cases hq : (i : Int) < x
    ·exact HX.out.2.2 i hq
    ·obtain rfl : i = x.toNat := by omega
     exact hh⟩
   have hwx := HW.out
   cases hV : q (rdOf ByteArray.empty l x) with
   | false =>
    have HR2 : Sd (R = false) := ⟨by rw [← HR.out]; exact rises_bad HM.out.2 (by rw [HOK.out, hV]; rfl)⟩
    rw [hV] at HCA
    go_wp2_with (fail)
    rw [HF.out.1, Oper.upon_enter]
    refine (HCA.out).mono ?_
    rintro e1 w1 ⟨rfl, hB⟩
    have HB1 := Sd.mk (below_step HB.out hB)
    clear hB
    go_wp2_with (fail)
    go_ret
    exact ⟨by rw [HR2.out]; rfl, HB1.out⟩
   | true =>
    rw [hV] at HCA HOK
    by_cases c1 : 0 < x
    ·have c1b : decide (0 < x) = true := decide_eq_true c1
     have h1 : 0 ≤ x - 1 := by omega
     have h2 : x - 1 < (l.length : Int) := by omega
     have p2 := eq_true h1
     have p3 := eq_true h2
     have hwm : wrap64 (x - 1) = x - 1 := wrap_id (by have := HL.out; omega)
     have HMM : Sd (rdOf ByteArray.empty l (x - 1) ∈ l ∧ rdOf ByteArray.empty l x ∈ l) := ⟨rd_mem h1 h2, rd_mem h0 c⟩
     have HDX : Sd (decide (x.toNat = 0) = false) := ⟨decide_eq_false (by omega)⟩
     have H12 : Sd (0 ≤ x - 1 ∧ x - 1 < (l.length : Int)) := ⟨h1, h2⟩
     clear h1 h2 c1 h0 c
     go_wp2_with (fail)
     rw [HF.out.1, Oper.upon_enter]
     refine (HCA.out).mono ?_
     rintro e1 w1 ⟨rfl, hB⟩
     have HB1 := Sd.mk (below_step HB.out hB)
     clear hB
     obtain ⟨ad1, e1, hx1⟩ := Kd.at_string (Kd.C_below HR0.out HB1.out) (x - 1) H12.out.1 H12.out.2
     cases e1
     rw [show (x - 1).toNat = x.toNat - 1 from by omega] at hx1
     have HCB := Sd.mk (HG.out.2 w1 HB1.out _ HMM.out.1 _ HMM.out.2)
     cases hU : r (rdOf ByteArray.empty l (x - 1)) (rdOf ByteArray.empty l x) with
     | false =>
      have HR2 : Sd (R = false) := ⟨by rw [← HR.out]; exact rises_bad HM.out.2 (by rw [HOK.out, hU, HDX.out]; rfl)⟩
      rw [hU] at HCB
      go_wp2_with (fail)
      all_goals first | (exfalso; have h12_ := H12.out; omega) | skip
      rw [HG.out.1, Oper.upon_enter]
      refine (HCB.out).mono ?_
      rintro e1 w2 ⟨rfl, hB⟩
      have HB2 := Sd.mk (below_step HB1.out hB)
      clear hB
      go_wp2_with (fail)
      go_ret
      exact ⟨by rw [HR2.out]; rfl, HB2.out⟩
     | true =>
      have HN : Sd (okAt q r l x.toNat = true) := ⟨by rw [HOK.out, hU, HDX.out]; rfl⟩
      rw [hU] at HCB
      go_wp2_with (fail)
      all_goals first | (exfalso; have h12_ := H12.out; omega) | skip
      rw [HG.out.1, Oper.upon_enter]
      refine (HCB.out).mono ?_
      rintro e1 w2 ⟨rfl, hB⟩
      have HB2 := Sd.mk (below_step HB1.out hB)
      clear hB
      go_wp2_with (fail)
      go_roundw
      case rel => exact ⟨x + 1, (by (rw [hwx])), ⟨by have := HX.out; omega, by have := HM.out; omega, HNX.out HN.out⟩, ⟨HB2.out⟩⟩
      case measure => have := HM.out; (simp [intOf]; omega)
    ·have c1b : decide (0 < x) = false := decide_eq_false c1
     have HN : Sd (okAt q r l x.toNat = true) := ⟨by rw [HOK.out, decide_eq_true (show x.toNat = 0 by omega)]; rfl⟩
     clear c1
     go_wp2_with (fail)
     rw [HF.out.1, Oper.upon_enter]
     refine (HCA.out).mono ?_
     rintro e1 w1 ⟨rfl, hB⟩
     have HB1 := Sd.mk (below_step HB.out hB)
     clear hB
     go_wp2_with (fail)
     go_roundw
     case rel => exact ⟨x + 1, (by (rw [hwx])), ⟨by have := HX.out; omega, by have := HM.out; omega, HNX.out HN.out⟩, ⟨HB1.out⟩⟩
     case measure => have := HM.out; (simp [intOf]; omega)
  ·have cb : decide (x < (l.length : Int)) = false := decide_eq_false c
   have HR2 : Sd (R = true) := ⟨by rw [← HR.out]; exact rises_good HL.out (fun i hi => HX.out.2.2 i (by omega))⟩
   go_wp2
   go_ret
   exact ⟨by rw [HR2.out]; rfl, HB.out⟩
end Go.Proofs.YtpdkgpmcmebefaaGreatDoor.Q
namespace Go.Proofs.YtpdkgpmcmebefaaGreatDoor.Q
open Go.RowKit Go.Proofs.YtpdkgpmcmebefaaGreatDoorW.PrintWords Go.Proofs.YtpdkgpmcmebefaaGreatDoorW.PrintLast Go.Proofs.YtpdkgpmcmebefaaGreatDoorW.PrintMore
attribute [local go_sem] max2_int min2_int max_two min_two max_three min_three max_four min_four
def MonthT (w : World) : Prop := w.cell? ⟨1, 1, none⟩ = some (.int .i64 31) ∧ w.cell? ⟨1, 2, none⟩ = some (.int .i64 28) ∧ w.cell? ⟨1, 3, none⟩ = some (.int .i64 31) ∧ w.cell? ⟨1, 4, none⟩ = some (.int .i64 30) ∧ w.cell? ⟨1, 5, none⟩ = some (.int .i64 31) ∧ w.cell? ⟨1, 6, none⟩ = some (.int .i64 30) ∧ w.cell? ⟨1, 7, none⟩ = some (.int .i64 31) ∧ w.cell? ⟨1, 8, none⟩ = some (.int .i64 31) ∧ w.cell? ⟨1, 9, none⟩ = some (.int .i64 30) ∧ w.cell? ⟨1, 10, none⟩ = some (.int .i64 31) ∧ w.cell? ⟨1, 11, none⟩ = some (.int .i64 30) ∧ w.cell? ⟨1, 12, none⟩ = some (.int .i64 31)
theorem MonthT.below {w w' : World} (h : MonthT w) (hb : Below w.heap.size w w') : MonthT w' := by
 have f : ∀ {a : Addr} {v : Value}, w.cell? a = some v → w'.cell? a = some v := fun {a v} h => (hb.cell (World.block_lt_of_cell? w _ h)).trans h
 obtain ⟨h1, h2, h3, h4, h5, h6, h7, h8, h9, h10, h11, h12⟩ := h
 exact ⟨f h1, f h2, f h3, f h4, f h5, f h6, f h7, f h8, f h9, f h10, f h11, f h12⟩
theorem MonthT.drawn {w w' : World} (h : MonthT w) (hb : Drawn0 w w') : MonthT w' := by
 obtain ⟨n, rfl⟩ := hb
 simpa [MonthT] using h
theorem pleap (y : Int) (h : 0 ≤ y) : civil_Leap.f y = some (leapI y) := by
 unfold civil_Leap.f
 rw [tmod_nn h, tmod_nn h, tmod_nn h]
 unfold leapI
 by_cases h1 : y % 4 = 0
 ·rw [if_pos h1, h1]
  by_cases h2 : y % 100 = 0
  ·rw [if_pos h2, h2]; rfl
  ·rw [if_neg h2]
   have : (y % 100 != 0) = true := bne_iff_ne.2 h2
   rw [this]; rfl
 ·rw [if_neg h1]
  have : (y % 4 == 0) = false := beq_eq_false_iff_ne.2 h1
  rw [this]; rfl
theorem pbefore (y : Int) (h : 1 ≤ y) (h2 : y ≤ 10000000) : civil_before.f y = some (befI y) := by
 unfold civil_before.f befI
 have w1 : wrap64 (y - 1) = y - 1 := wrap_id (by omega)
 have w2 : wrap64 ((y - 1) * 365) = (y - 1) * 365 := wrap_id (by omega)
 have w3 : wrap64 ((y - 1) / 4) = (y - 1) / 4 := wrap_id (by omega)
 have w4 : wrap64 ((y - 1) * 365 + (y - 1) / 4) = (y - 1) * 365 + (y - 1) / 4 := wrap_id (by omega)
 have w5 : wrap64 ((y - 1) / 100) = (y - 1) / 100 := wrap_id (by omega)
 have w6 : wrap64 ((y - 1) * 365 + (y - 1) / 4 - (y - 1) / 100) = (y - 1) * 365 + (y - 1) / 4 - (y - 1) / 100 := wrap_id (by omega)
 have w7 : wrap64 ((y - 1) / 400) = (y - 1) / 400 := wrap_id (by omega)
 have w8 : wrap64 ((y - 1) * 365 + (y - 1) / 4 - (y - 1) / 100 + (y - 1) / 400) = (y - 1) * 365 + (y - 1) / 4 - (y - 1) / 100 + (y - 1) / 400 := wrap_id (by omega)
 rw [w1, tdiv_nn (by omega), tdiv_nn (by omega), tdiv_nn (by omega), w2, w3, w4, w5, w6, w7, w8]
theorem civil_Days_calls (y : Int) (m : Nat) (hy : 0 ≤ y) (h1 : 1 ≤ m) (h2 : m ≤ 12) (w : World) (hT : MonthT w) :
  Calls Tryz.prog 126 #[.int .i64 y, .int .i64 (m : Int)] w fun e w' => e = .returned (.tuple #[.int .i64 (daysI y m), .int .i64 0]) ∧ Drawn0 w w' := by
 obtain ⟨t1, t2, t3, t4, t5, t6, t7, t8, t9, t10, t11, t12⟩ := hT
 have hm : m = 2 ∨ m = 1 ∨ m = 3 ∨ m = 4 ∨ m = 5 ∨ m = 6 ∨ m = 7 ∨ m = 8 ∨ m = 9 ∨ m = 10 ∨ m = 11 ∨ m = 12 := by omega
 have hL := pleap y hy
 rcases hm with rfl | rfl | rfl | rfl | rfl | rfl | rfl | rfl | rfl | rfl | rfl | rfl
 ·by_cases hl : leapI y = true
  ·rw [hl] at hL
   have e : daysI y 2 = 29 := by unfold daysI; rw [if_neg (by omega), if_pos rfl, if_pos hl]
   rw [e]
   go_enter Tryz.func126, Tryz.ntmps126
   go_wp2_with ((go_at_call 136; (with_reducible refine (civil_Leap.calls y true _ hL).mono ?_); rintro e w' ⟨rfl, ⟨nd, rfl⟩⟩))
   go_ret2
   exact ⟨by rfl, by repeat (first | exact Drawn0.refl _ | apply Drawn0.step)⟩
  ·replace hl : leapI y = false := by simpa using hl
   rw [hl] at hL
   have e : daysI y 2 = 28 := by unfold daysI; rw [if_neg (by omega), if_pos rfl, if_neg (by rw [hl]; simp)]
   rw [e]
   go_enter Tryz.func126, Tryz.ntmps126
   go_wp2_with ((go_at_call 136; (with_reducible refine (civil_Leap.calls y false _ hL).mono ?_); rintro e w' ⟨rfl, ⟨nd, rfl⟩⟩))
   go_ret2
   exact ⟨by rfl, by repeat (first | exact Drawn0.refl _ | apply Drawn0.step)⟩
 ·have e : daysI y 1 = 31 := rfl
  rw [e]
  go_enter Tryz.func126, Tryz.ntmps126
  go_wp2
  go_ret2
  exact ⟨by rfl, by repeat ((exact Drawn0.refl _))⟩
 ·have e : daysI y 3 = 31 := rfl
  rw [e]
  go_enter Tryz.func126, Tryz.ntmps126
  go_wp2
  go_ret2
  exact ⟨by rfl, by repeat ((exact Drawn0.refl _))⟩
 ·have e : daysI y 4 = 30 := rfl
  rw [e]
  go_enter Tryz.func126, Tryz.ntmps126
  go_wp2
  go_ret2
  exact ⟨by rfl, by repeat ((exact Drawn0.refl _))⟩
 ·have e : daysI y 5 = 31 := rfl
  rw [e]
  go_enter Tryz.func126, Tryz.ntmps126
  go_wp2
  go_ret2
  exact ⟨by rfl, by repeat ((exact Drawn0.refl _))⟩
 ·have e : daysI y 6 = 30 := rfl
  rw [e]
  go_enter Tryz.func126, Tryz.ntmps126
  go_wp2
  go_ret2
  exact ⟨by rfl, by repeat ((exact Drawn0.refl _))⟩
 ·have e : daysI y 7 = 31 := rfl
  rw [e]
  go_enter Tryz.func126, Tryz.ntmps126
  go_wp2
  go_ret2
  exact ⟨by rfl, by repeat ((exact Drawn0.refl _))⟩
 ·have e : daysI y 8 = 31 := rfl
  rw [e]
  go_enter Tryz.func126, Tryz.ntmps126
  go_wp2
  go_ret2
  exact ⟨by rfl, by repeat ((exact Drawn0.refl _))⟩
 ·have e : daysI y 9 = 30 := rfl
  rw [e]
  go_enter Tryz.func126, Tryz.ntmps126
  go_wp2
  go_ret2
  exact ⟨by rfl, by repeat ((exact Drawn0.refl _))⟩
 ·have e : daysI y 10 = 31 := rfl
  rw [e]
  go_enter Tryz.func126, Tryz.ntmps126
  go_wp2
  go_ret2
  exact ⟨by rfl, by repeat ((exact Drawn0.refl _))⟩
 ·have e : daysI y 11 = 30 := rfl
  rw [e]
  go_enter Tryz.func126, Tryz.ntmps126
  go_wp2
  go_ret2
  exact ⟨by rfl, by repeat ((exact Drawn0.refl _))⟩
 ·have e : daysI y 12 = 31 := rfl
  rw [e]
  go_enter Tryz.func126, Tryz.ntmps126
  go_wp2
  go_ret2
  exact ⟨by rfl, by repeat ((exact Drawn0.refl _))⟩
theorem MonthT.drewN {w : World} (h : MonthT w) (n : Nat) : MonthT (w.drewN n) := h.drawn ⟨n, rfl⟩
theorem MonthT.drew {w : World} (h : MonthT w) : MonthT w.drew := by simpa [MonthT] using h
theorem bef_le {y z : Int} (h : y ≤ z) : befI y ≤ befI z := by
 have := bef_add y (z - y).toNat
 rw [show y + ((z - y).toNat : Int) = z from by omega] at this
 omega
theorem civil_Of_calls (t : Int) (h0 : 0 ≤ t) (h1 : t ≤ 1099511627776) (w : World) (hT : MonthT w) :
  Calls Tryz.prog 109 #[.int .i64 t] w fun e w' => (∃ a2 a3 a4 a5 a6 : Int, e = .returned (.tuple #[.agg #[.int .i64 (dateOf (t / 86400 + befI 1970)).1, .int .i64 (((dateOf (t / 86400 + befI 1970)).2 + 1 : Nat) : Int), .int .i64 a2, .int .i64 a3, .int .i64 a4, .int .i64 a5, .int .i64 a6], .int .i64 0])) ∧ Below w.heap.size w w' := by
 have hu138 := Tryz.underlying138
 have HT := Sd.mk hT
 clear hT
 have hdt := date_of t h0 h1
 have hsm := date_small t h0 h1
 have hmay : civil_may.f t = some true := by unfold civil_may.f; rw [if_pos h0, decide_eq_true h1]
 have hbef := pbefore 1970 (by omega) (by omega)
 have b19 := bef1970
 obtain ⟨D, hD⟩ : ∃ D, D = t / 86400 + befI 1970 := ⟨_, rfl⟩
 have eD : wrap64 (wrap64 (Int.tdiv t 86400) + befI 1970) = D := by rw [tdiv_nn h0, wrap_id (x := t / 86400) (by omega), wrap_id (by omega), hD]
 have eDw : IntKind.i64.wrap (wrap64 (Int.tdiv t 86400) + befI 1970) = D := (i64_w _).trans eD
 rw [← hD] at hdt hsm ⊢
 have hDb : 719162 ≤ D ∧ D ≤ 100000000 := by omega
 generalize hp : dateOf D = p at hdt hsm ⊢
 obtain ⟨z, k⟩ := p
 simp only at hdt hsm ⊢
 have hyy := hdt.year
 have HB := Sd.mk (Below.refl w.heap.size w)
 have eY : (wrap64 ((wrap64 (Int.tdiv (wrap64 (D * 400)) 146097)) + 1)) = D * 400 / 146097 + 1 := by
  rw [wrap_id (x := D * 400) (by omega), tdiv_nn (by omega), wrap_id (x := D * 400 / 146097) (by omega), wrap_id (by omega)]
 have hY : 1 ≤ (wrap64 ((wrap64 (Int.tdiv (wrap64 (D * 400)) 146097)) + 1)) ∧ (wrap64 ((wrap64 (Int.tdiv (wrap64 (D * 400)) 146097)) + 1)) ≤ 1000000 := by rw [eY]; omega
 obtain ⟨Y, hYe⟩ : ∃ Y, (wrap64 ((wrap64 (Int.tdiv (wrap64 (D * 400)) 146097)) + 1)) = Y := ⟨_, rfl⟩
 have hYw : IntKind.i64.wrap (wrap64 (Int.tdiv (wrap64 (D * 400)) 146097) + 1) = Y := (i64_w _).trans hYe
 rw [hYe] at hY
 have HD := Sd.mk hdt
 have HYY := Sd.mk hyy
 have HSM := Sd.mk hsm
 have HYB := Sd.mk hY
 have HH0 := Sd.mk h0
 have HH1 := Sd.mk h1
 have HDB := Sd.mk hDb
 clear hdt hyy hsm hY eY hp b19 hD h0 h1 hDb
 go_enter Tryz.func109, Tryz.ntmps109
 go_upto_block 0 with (first | ((with_reducible refine gate_dst (N := 2) rfl ?_); refine box_event ?hg (N := 2) ?hd (cs := #[.int .i64 0, .int .i64 0, .int .i64 0, .int .i64 0, .int .i64 0, .int .i64 0, .int .i64 0]) (t := 138) ?hr ?_; (case hd => rfl); (case hg => rfl); (case hr => (go_simp; done)); intro g1 hg w5 hbox hb; have n0_ := Sd.mk (below_step (by repeat ((with_reducible (exact HB.out)))) hb); have n1_ := Sd.mk hbox; have n3_ := Sd.mk ((by rw [hg]; exact (below_size (by repeat ((with_reducible (exact HB.out)))))) : w.heap.size ≤ g1); clear HB; have HB := n0_; have B1 := n1_; have GE1 := n3_; clear n0_ n1_ n3_; clear hb hbox hg) | ((with_reducible refine gate_callee (f := 124) rfl ?_); refine goesL_ (some 10) rfl rfl Tryz.func124 (by kernel_rfl) rfl #[.int .i64 t] rfl (by (try simp only [List.map_toArray, List.map_cons, List.map_nil]); (rfl)) ?_; (with_reducible refine (civil_may.calls t true _ hmay).mono ?_); rintro e w' ⟨rfl, ⟨nd, rfl⟩⟩; refine ⟨_, rfl, ?_⟩) | ((with_reducible refine gate_dst (N := 6) rfl ?_); refine box_event ?hg (N := 6) ?hd (cs := #[.int .i64 0, .int .i64 0, .int .i64 0, .int .i64 0, .int .i64 0, .int .i64 0, .int .i64 0]) (t := 138) ?hr ?_; (case hd => rfl); (case hg => rfl); (case hr => (go_simp; done)); intro g2 hg w6 hbox hb; have n0_ := Sd.mk (blk_below (g := g1) (o := .cells #[.int .i64 0, .int .i64 0, .int .i64 0, .int .i64 0, .int .i64 0, .int .i64 0, .int .i64 0] 138 (0, 0)) (by (with_reducible repeat ((refine blk_drewN ?_ _))); exact B1.out) hb); have n1_ := Sd.mk (below_step (by repeat ((with_reducible first | exact HB.out | apply pw_below_drewN))) hb); have n2_ := Sd.mk hbox; have n3_ := Sd.mk ((by rw [hg]; exact (below_size (by repeat ((with_reducible first | exact HB.out | apply pw_below_drewN))))) : w.heap.size ≤ g2); have n5_ := Sd.mk ((by rw [hg]; exact Nat.ne_of_lt (blk_lt (g := g1) (o := .cells #[.int .i64 0, .int .i64 0, .int .i64 0, .int .i64 0, .int .i64 0, .int .i64 0, .int .i64 0] 138 (0, 0)) (by (with_reducible repeat ((refine blk_drewN ?_ _))); exact B1.out))) : g1 ≠ g2); have n6_ := Sd.mk ((by rw [hg]; exact Nat.ne_of_gt (blk_lt (g := g1) (o := .cells #[.int .i64 0, .int .i64 0, .int .i64 0, .int .i64 0, .int .i64 0, .int .i64 0, .int .i64 0] 138 (0, 0)) (by (with_reducible repeat ((refine blk_drewN ?_ _))); exact B1.out))) : g2 ≠ g1); clear B1 HB; have B1 := n0_; have HB := n1_; have B2 := n2_; have GE2 := n3_; have NE12 := n5_; have NE21 := n6_; clear n0_ n1_ n2_ n3_ n5_ n6_; have hn1 := NE12.out; have hn2 := NE21.out; have ca_0 : w6.cell? ⟨g2, 0, none⟩ = some (.int .i64 0) := (blk_cell B2.out 0).trans rfl; have ca_1 : w6.cell? ⟨g2, 1, none⟩ = some (.int .i64 0) := (blk_cell B2.out 1).trans rfl; have ca_2 : w6.cell? ⟨g2, 2, none⟩ = some (.int .i64 0) := (blk_cell B2.out 2).trans rfl; have ca_3 : w6.cell? ⟨g2, 3, none⟩ = some (.int .i64 0) := (blk_cell B2.out 3).trans rfl; have ca_4 : w6.cell? ⟨g2, 4, none⟩ = some (.int .i64 0) := (blk_cell B2.out 4).trans rfl; have ca_5 : w6.cell? ⟨g2, 5, none⟩ = some (.int .i64 0) := (blk_cell B2.out 5).trans rfl; have ca_6 : w6.cell? ⟨g2, 6, none⟩ = some (.int .i64 0) := (blk_cell B2.out 6).trans rfl; have fa_0 := blk_frozen B2.out 0; have fa_1 := blk_frozen B2.out 1; have fa_2 := blk_frozen B2.out 2; have fa_3 := blk_frozen B2.out 3; have fa_4 := blk_frozen B2.out 4; have fa_5 := blk_frozen B2.out 5; have fa_6 := blk_frozen B2.out 6; clear hb hbox hg) | ((with_reducible refine gate_callee (f := 125) rfl ?_); refine goesL_ (some 30) rfl rfl Tryz.func125 (by kernel_rfl) rfl #[.int .i64 1970] rfl (by (try simp only [List.map_toArray, List.map_cons, List.map_nil]); (rfl)) ?_; (with_reducible refine (civil_before.calls 1970 _ _ hbef).mono ?_); rintro e w' ⟨rfl, ⟨nd, rfl⟩⟩; refine ⟨_, rfl, ?_⟩))
 (try simp only [Act.put, List.setIfInBounds_toArray, List.set_cons_zero, List.set_cons_succ])
 go_wp2
 go_loopg [37] 1000001 (fun kq v37 w' => ∃ (y h mi s wd : Int), Sd (1 ≤ y ∧ y ≤ 1000000 ∧ y ≤ kq) ∧ Sd (w'.heap[g1]? = some (.cells #[.int .i64 0, .int .i64 0, .int .i64 0, .int .i64 0, .int .i64 0, .int .i64 0, .int .i64 0] 138 (0, 0))) ∧ Sd (w'.heap[g2]? = some (.cells #[.int .i64 y, .int .i64 0, .int .i64 0, .int .i64 h, .int .i64 mi, .int .i64 s, .int .i64 wd] 138 (0, 0))) ∧ Sd (Below w.heap.size w w'))
 case atStart => exact ⟨Y, (wrap64 (Int.tdiv (Int.tmod t 86400) 3600)), (Int.tmod (wrap64 (Int.tdiv (Int.tmod t 86400) 60)) 60), (Int.tmod t 60), (wrap64 ((Int.tmod (wrap64 ((wrap64 (Int.tdiv t 86400)) + 3)) 7) + 1)), ⟨by have := HYB.out; omega⟩, ⟨by (with_reducible repeat (fail)); refine blk_far ?_ NE12.out _; (with_reducible repeat ((refine blk_drewN ?_ _))); refine blk_far ?_ NE12.out _; (with_reducible repeat (fail)); refine blk_far ?_ NE12.out _; (with_reducible repeat (fail)); refine blk_far ?_ NE12.out _; (with_reducible repeat (fail)); refine blk_far ?_ NE12.out _; (with_reducible repeat (fail)); refine blk_far ?_ NE12.out _; (with_reducible repeat (fail)); refine blk_far ?_ NE12.out _; (with_reducible repeat (fail)); refine blk_far ?_ NE12.out _; (with_reducible repeat (fail)); exact B1.out⟩, ⟨by (with_reducible repeat (fail)); refine blk_put (cs := #[.int .i64 0, .int .i64 0, .int .i64 0, .int .i64 (wrap64 (Int.tdiv (Int.tmod t 86400) 3600)), .int .i64 (Int.tmod (wrap64 (Int.tdiv (Int.tmod t 86400) 60)) 60), .int .i64 (Int.tmod t 60), .int .i64 (wrap64 ((Int.tmod (wrap64 ((wrap64 (Int.tdiv t 86400)) + 3)) 7) + 1))]) ?_ 0 _ rfl; (with_reducible repeat ((refine blk_drewN ?_ _))); refine blk_put (cs := #[.int .i64 0, .int .i64 0, .int .i64 0, .int .i64 (wrap64 (Int.tdiv (Int.tmod t 86400) 3600)), .int .i64 (Int.tmod (wrap64 (Int.tdiv (Int.tmod t 86400) 60)) 60), .int .i64 (Int.tmod t 60), .int .i64 0]) ?_ 6 _ rfl; (with_reducible repeat (fail)); refine blk_put (cs := #[.int .i64 0, .int .i64 0, .int .i64 0, .int .i64 (wrap64 (Int.tdiv (Int.tmod t 86400) 3600)), .int .i64 (Int.tmod (wrap64 (Int.tdiv (Int.tmod t 86400) 60)) 60), .int .i64 0, .int .i64 0]) ?_ 5 _ rfl; (with_reducible repeat (fail)); refine blk_put (cs := #[.int .i64 0, .int .i64 0, .int .i64 0, .int .i64 (wrap64 (Int.tdiv (Int.tmod t 86400) 3600)), .int .i64 0, .int .i64 0, .int .i64 0]) ?_ 4 _ rfl; (with_reducible repeat (fail)); refine blk_put (cs := #[.int .i64 0, .int .i64 0, .int .i64 0, .int .i64 0, .int .i64 0, .int .i64 0, .int .i64 0]) ?_ 3 _ rfl; (with_reducible repeat (fail)); refine blk_put (cs := #[.int .i64 0, .int .i64 0, .int .i64 0, .int .i64 0, .int .i64 0, .int .i64 0, .int .i64 0]) ?_ 2 _ rfl; (with_reducible repeat (fail)); refine blk_put (cs := #[.int .i64 0, .int .i64 0, .int .i64 0, .int .i64 0, .int .i64 0, .int .i64 0, .int .i64 0]) ?_ 1 _ rfl; (with_reducible repeat (fail)); refine blk_put (cs := #[.int .i64 0, .int .i64 0, .int .i64 0, .int .i64 0, .int .i64 0, .int .i64 0, .int .i64 0]) ?_ 0 _ rfl; (with_reducible repeat (fail)); exact B2.out⟩, ⟨by repeat ((with_reducible first | exact HB.out | apply pw_below_drewN | refine below_set ?_ GE2.out))⟩⟩
 case round =>
  obtain ⟨y, h, mi, s, wd, HI, B1, B2, HB⟩ := hrel
  cases gk with
  | zero => exact absurd HI.out (by omega)
  | succ k1 =>
   have hby := pbefore y HI.out.1 (by have := HI.out; omega)
   have hn1 := NE12.out; have hn2 := NE21.out; have cb_0 : wr.cell? ⟨g2, 0, none⟩ = some (.int .i64 y) := (blk_cell B2.out 0).trans rfl; have cb_1 : wr.cell? ⟨g2, 1, none⟩ = some (.int .i64 0) := (blk_cell B2.out 1).trans rfl; have cb_2 : wr.cell? ⟨g2, 2, none⟩ = some (.int .i64 0) := (blk_cell B2.out 2).trans rfl; have cb_3 : wr.cell? ⟨g2, 3, none⟩ = some (.int .i64 h) := (blk_cell B2.out 3).trans rfl; have cb_4 : wr.cell? ⟨g2, 4, none⟩ = some (.int .i64 mi) := (blk_cell B2.out 4).trans rfl; have cb_5 : wr.cell? ⟨g2, 5, none⟩ = some (.int .i64 s) := (blk_cell B2.out 5).trans rfl; have cb_6 : wr.cell? ⟨g2, 6, none⟩ = some (.int .i64 wd) := (blk_cell B2.out 6).trans rfl; have fb_0 := blk_frozen B2.out 0; have fb_1 := blk_frozen B2.out 1; have fb_2 := blk_frozen B2.out 2; have fb_3 := blk_frozen B2.out 3; have fb_4 := blk_frozen B2.out 4; have fb_5 := blk_frozen B2.out 5; have fb_6 := blk_frozen B2.out 6
   by_cases c : D < befI y
   ·have cb : decide (D < befI y) = true := decide_eq_true c
    have hy2 : 1 < y := by
     have hDb := HDB.out
     have hI := HI.out
     by_cases hq : 1 < y
     ·exact hq
     ·have := bef_le (show y ≤ 1970 by omega)
      have := bef1970
      omega
    have HI2 : Sd (1 ≤ wrap64 (y - 1) ∧ wrap64 (y - 1) ≤ 1000000 ∧ wrap64 (y - 1) ≤ k1) := ⟨by have hI := HI.out; rw [wrap_id (by omega)]; omega⟩
    clear c hy2
    go_wp2_with (((with_reducible refine gate_callee (f := 125) rfl ?_); refine goesL_ (some 39) rfl rfl Tryz.func125 (by kernel_rfl) rfl #[.int .i64 y] rfl (by (try simp only [List.map_toArray, List.map_cons, List.map_nil]); (rfl)) ?_; (with_reducible refine (civil_before.calls y _ _ hby).mono ?_); rintro e w' ⟨rfl, ⟨nd, rfl⟩⟩; refine ⟨_, rfl, ?_⟩))
    go_roundg k1
    case measure => omega
    case rel => exact ⟨wrap64 (y - 1), h, mi, s, wd, HI2, ⟨by (with_reducible repeat (fail)); refine blk_far ?_ NE12.out _; (with_reducible repeat ((refine blk_drewN ?_ _))); exact B1.out⟩, ⟨by (with_reducible repeat (fail)); refine blk_put (cs := #[.int .i64 y, .int .i64 0, .int .i64 0, .int .i64 h, .int .i64 mi, .int .i64 s, .int .i64 wd]) ?_ 0 _ rfl; (with_reducible repeat ((refine blk_drewN ?_ _))); exact B2.out⟩, ⟨by repeat ((with_reducible first | exact HB.out | apply pw_below_drewN | refine below_set ?_ GE2.out))⟩⟩
   ·have cb : decide (D < befI y) = false := decide_eq_false c
    have hyz : y ≤ z := by
     by_cases hq : y ≤ z
     ·exact hq
     ·have := bef_le (show z + 1 ≤ y by omega)
      have := HYY.out
      omega
    have HYZ : Sd (1 ≤ y ∧ y ≤ z) := ⟨⟨HI.out.1, hyz⟩⟩
    clear c hyz
    go_wp2_with (((with_reducible refine gate_callee (f := 125) rfl ?_); refine goesL_ (some 39) rfl rfl Tryz.func125 (by kernel_rfl) rfl #[.int .i64 y] rfl (by (try simp only [List.map_toArray, List.map_cons, List.map_nil]); (rfl)) ?_; (with_reducible refine (civil_before.calls y _ _ hby).mono ?_); rintro e w' ⟨rfl, ⟨nd, rfl⟩⟩; refine ⟨_, rfl, ?_⟩))
    go_loopg [46] 1000001 (fun kq v46 w' => ∃ (y h mi s wd : Int), Sd (1 ≤ y ∧ y ≤ z ∧ z - y < kq) ∧ Sd (w'.heap[g1]? = some (.cells #[.int .i64 0, .int .i64 0, .int .i64 0, .int .i64 0, .int .i64 0, .int .i64 0, .int .i64 0] 138 (0, 0))) ∧ Sd (w'.heap[g2]? = some (.cells #[.int .i64 y, .int .i64 0, .int .i64 0, .int .i64 h, .int .i64 mi, .int .i64 s, .int .i64 wd] 138 (0, 0))) ∧ Sd (Below w.heap.size w w'))
    case atStart => exact ⟨y, h, mi, s, wd, ⟨by have := HYZ.out; have := HSM.out; omega⟩, ⟨by (with_reducible repeat ((refine blk_drewN ?_ _))); exact B1.out⟩, ⟨by (with_reducible repeat ((refine blk_drewN ?_ _))); exact B2.out⟩, ⟨by repeat ((with_reducible first | exact HB.out | apply pw_below_drewN))⟩⟩
    case round =>
     clear HYZ hby cb hn1 hn2 cb_0 fb_0 cb_1 fb_1 cb_2 fb_2 cb_3 fb_3 cb_4 fb_4 cb_5 fb_5 cb_6 fb_6
     obtain ⟨y, h, mi, s, wd, HI, B1, B2, HB⟩ := hrel
     cases gk with
     | zero => exact absurd HI.out (by omega)
     | succ k2 =>
      have ew : wrap64 (y + 1) = y + 1 := wrap_id (by have := HI.out; have := HSM.out; omega)
      have hby : civil_before.f (wrap64 (y + 1)) = some (befI (y + 1)) := by rw [ew]; exact pbefore (y + 1) (by have := HI.out; omega) (by have := HI.out; have := HSM.out; omega)
      have EW := Sd.mk ew
      clear ew
      have hn1 := NE12.out; have hn2 := NE21.out; have cd_0 : wr.cell? ⟨g2, 0, none⟩ = some (.int .i64 y) := (blk_cell B2.out 0).trans rfl; have cd_1 : wr.cell? ⟨g2, 1, none⟩ = some (.int .i64 0) := (blk_cell B2.out 1).trans rfl; have cd_2 : wr.cell? ⟨g2, 2, none⟩ = some (.int .i64 0) := (blk_cell B2.out 2).trans rfl; have cd_3 : wr.cell? ⟨g2, 3, none⟩ = some (.int .i64 h) := (blk_cell B2.out 3).trans rfl; have cd_4 : wr.cell? ⟨g2, 4, none⟩ = some (.int .i64 mi) := (blk_cell B2.out 4).trans rfl; have cd_5 : wr.cell? ⟨g2, 5, none⟩ = some (.int .i64 s) := (blk_cell B2.out 5).trans rfl; have cd_6 : wr.cell? ⟨g2, 6, none⟩ = some (.int .i64 wd) := (blk_cell B2.out 6).trans rfl; have fd_0 := blk_frozen B2.out 0; have fd_1 := blk_frozen B2.out 1; have fd_2 := blk_frozen B2.out 2; have fd_3 := blk_frozen B2.out 3; have fd_4 := blk_frozen B2.out 4; have fd_5 := blk_frozen B2.out 5; have fd_6 := blk_frozen B2.out 6
      by_cases c : befI (y + 1) ≤ D
      ·have cb : decide (befI (y + 1) ≤ D) = true := decide_eq_true c
       have hyz : y + 1 ≤ z := by
        by_cases hq : y + 1 ≤ z
        ·exact hq
        ·have := bef_le (show z + 1 ≤ y + 1 by omega)
         have := HYY.out
         omega
       have HI2 : Sd (1 ≤ wrap64 (y + 1) ∧ wrap64 (y + 1) ≤ z ∧ z - wrap64 (y + 1) < k2) := ⟨by have hI := HI.out; rw [EW.out]; omega⟩
       clear c hyz
       go_wp2_with (((with_reducible refine gate_callee (f := 125) rfl ?_); refine goesL_ (some 49) rfl rfl Tryz.func125 (by kernel_rfl) rfl #[.int .i64 (wrap64 (y + 1))] rfl (by (try simp only [List.map_toArray, List.map_cons, List.map_nil]); (rfl)) ?_; (with_reducible refine (civil_before.calls (wrap64 (y + 1)) _ _ hby).mono ?_); rintro e w' ⟨rfl, ⟨nd, rfl⟩⟩; refine ⟨_, rfl, ?_⟩))
       go_roundg k2
       case measure => omega
       case rel => exact ⟨wrap64 (y + 1), h, mi, s, wd, HI2, ⟨by (with_reducible repeat (fail)); refine blk_far ?_ NE12.out _; (with_reducible repeat ((refine blk_drewN ?_ _))); exact B1.out⟩, ⟨by (with_reducible repeat (fail)); refine blk_put (cs := #[.int .i64 y, .int .i64 0, .int .i64 0, .int .i64 h, .int .i64 mi, .int .i64 s, .int .i64 wd]) ?_ 0 _ rfl; (with_reducible repeat ((refine blk_drewN ?_ _))); exact B2.out⟩, ⟨by repeat ((with_reducible first | exact HB.out | apply pw_below_drewN | refine below_set ?_ GE2.out))⟩⟩
      ·have cb : decide (befI (y + 1) ≤ D) = false := decide_eq_false c
       have hyz : y = z := by
        have hI := HI.out
        by_cases hq : y + 1 ≤ z
        ·have := bef_le hq
         have := HYY.out
         omega
        ·omega
       subst hyz
       have hbz : civil_before.f y = some (befI y) := pbefore y HI.out.1 (by have := HSM.out; omega)
       clear c
       go_wp2_with (first | ((with_reducible refine gate_callee (f := 125) rfl ?_); refine goesL_ (some 49) rfl rfl Tryz.func125 (by kernel_rfl) rfl #[.int .i64 (wrap64 (y + 1))] rfl (by (try simp only [List.map_toArray, List.map_cons, List.map_nil]); (rfl)) ?_; (with_reducible refine (civil_before.calls (wrap64 (y + 1)) _ _ hby).mono ?_); rintro e w' ⟨rfl, ⟨nd, rfl⟩⟩; refine ⟨_, rfl, ?_⟩) | ((with_reducible refine gate_callee (f := 125) rfl ?_); refine goesL_ (some 59) rfl rfl Tryz.func125 (by kernel_rfl) rfl #[.int .i64 y] rfl (by (try simp only [List.map_toArray, List.map_cons, List.map_nil]); (rfl)) ?_; (with_reducible refine (civil_before.calls y _ _ hbz).mono ?_); rintro e w' ⟨rfl, ⟨nd, rfl⟩⟩; refine ⟨_, rfl, ?_⟩))
       have ew : wrap64 (D - befI y) = D - befI y - cumI y 0 := by
        have := HYY.out; have := HDB.out; have := bef_le (show 1 ≤ y from HI.out.1)
        have : befI 1 = 0 := by unfold befI; omega
        have : cumI y 0 = 0 := rfl
        rw [wrap_id (by omega)]; omega
       go_loopg [4] 13 (fun kq v4 w' => ∃ (i : Nat) (h mi s wd : Int), v4 = .int .i64 (D - befI y - cumI y i) ∧ Sd (i ≤ k ∧ k - i < kq) ∧ Sd (w'.heap[g1]? = some (.cells #[.int .i64 0, .int .i64 0, .int .i64 0, .int .i64 0, .int .i64 0, .int .i64 0, .int .i64 0] 138 (0, 0))) ∧ Sd (w'.heap[g2]? = some (.cells #[.int .i64 y, .int .i64 ((i : Int) + 1), .int .i64 0, .int .i64 h, .int .i64 mi, .int .i64 s, .int .i64 wd] 138 (0, 0))) ∧ Sd (Below w.heap.size w w'))
       case atStart => exact ⟨0, h, mi, s, wd, (by rw [ew]), ⟨by have := HD.out.1; omega⟩, ⟨by (with_reducible repeat (fail)); refine blk_far ?_ NE12.out _; (with_reducible repeat ((refine blk_drewN ?_ _))); exact B1.out⟩, ⟨by (with_reducible repeat (fail)); refine blk_put (cs := #[.int .i64 y, .int .i64 0, .int .i64 0, .int .i64 h, .int .i64 mi, .int .i64 s, .int .i64 wd]) ?_ 1 _ rfl; (with_reducible repeat ((refine blk_drewN ?_ _))); exact B2.out⟩, ⟨by repeat ((with_reducible first | exact HB.out | apply pw_below_drewN | refine below_set ?_ GE2.out))⟩⟩
       case round =>
        have hyp := HI.out.1
        clear ew HI hby cb hn1 hn2 cd_0 fd_0 cd_1 fd_1 cd_2 fd_2 cd_3 fd_3 cd_4 fd_4 cd_5 fd_5 cd_6 fd_6 B1 B2 HB
        obtain ⟨i, h, mi, s, wd, rfl, HI, B1, B2, HB⟩ := hrel
        cases gk with
        | zero => exact absurd HI.out (by omega)
        | succ k3 =>
         have hDays : ∀ W, MonthT W → Calls Tryz.prog 126 #[.int .i64 y, .int .i64 ((i : Int) + 1)] W fun e w' => e = .returned (.tuple #[.int .i64 (daysI y (i + 1)), .int .i64 0]) ∧ Drawn0 W w' := by
          intro W hW
          have hh := civil_Days_calls y (i + 1) (by omega) (by omega) (by have := HI.out; have := HD.out.1; omega) W hW
          rw [show ((i + 1 : Nat) : Int) = (i : Int) + 1 from by omega] at hh
          exact hh
         have HTW := HT.out.below HB.out
         have hbound : -1000000 ≤ D - befI y - cumI y i ∧ D - befI y - cumI y i ≤ 1000000 := by
          have := HYY.out; have := (year_ge y).2; have := bef_succ y
          have := cum_mono (y := y) (show 0 ≤ i by omega); have : cumI y 0 = 0 := rfl
          have := cum_mono (y := y) (show i ≤ 12 by have := HI.out; have := HD.out.1; omega)
          rw [cum_year] at this
          omega
         have HBO := Sd.mk hbound
         have HYP := Sd.mk hyp
         clear hbound hyp
         have hdp := days_pos y (i + 1)
         have HDP := Sd.mk hdp
         clear hdp
         have hcs : cumI y (i + 1) = cumI y i + daysI y (i + 1) := rfl
         have HCS := Sd.mk hcs
         clear hcs
         have hn1 := NE12.out; have hn2 := NE21.out; have ce_0 : wr.cell? ⟨g2, 0, none⟩ = some (.int .i64 y) := (blk_cell B2.out 0).trans rfl; have ce_1 : wr.cell? ⟨g2, 1, none⟩ = some (.int .i64 ((i : Int) + 1)) := (blk_cell B2.out 1).trans rfl; have ce_2 : wr.cell? ⟨g2, 2, none⟩ = some (.int .i64 0) := (blk_cell B2.out 2).trans rfl; have ce_3 : wr.cell? ⟨g2, 3, none⟩ = some (.int .i64 h) := (blk_cell B2.out 3).trans rfl; have ce_4 : wr.cell? ⟨g2, 4, none⟩ = some (.int .i64 mi) := (blk_cell B2.out 4).trans rfl; have ce_5 : wr.cell? ⟨g2, 5, none⟩ = some (.int .i64 s) := (blk_cell B2.out 5).trans rfl; have ce_6 : wr.cell? ⟨g2, 6, none⟩ = some (.int .i64 wd) := (blk_cell B2.out 6).trans rfl; have fe_0 := blk_frozen B2.out 0; have fe_1 := blk_frozen B2.out 1; have fe_2 := blk_frozen B2.out 2; have fe_3 := blk_frozen B2.out 3; have fe_4 := blk_frozen B2.out 4; have fe_5 := blk_frozen B2.out 5; have fe_6 := blk_frozen B2.out 6
         by_cases c : D - befI y - cumI y i < daysI y (i + 1)
         ·have cb : decide (D - befI y - cumI y i < daysI y (i + 1)) = true := decide_eq_true c
          have hik : i = k := by
           have := HI.out
           by_cases hq : i = k
           ·exact hq
           ·have := cum_mono (y := y) (show i + 1 ≤ k by omega)
            have := HD.out.2.1
            have := HCS.out
            omega
          subst hik
          clear c
          have cg_0 : wr.cell? ⟨g1, 0, none⟩ = some (.int .i64 0) := (blk_cell B1.out 0).trans rfl; have cg_1 : wr.cell? ⟨g1, 1, none⟩ = some (.int .i64 0) := (blk_cell B1.out 1).trans rfl; have cg_2 : wr.cell? ⟨g1, 2, none⟩ = some (.int .i64 0) := (blk_cell B1.out 2).trans rfl; have cg_3 : wr.cell? ⟨g1, 3, none⟩ = some (.int .i64 0) := (blk_cell B1.out 3).trans rfl; have cg_4 : wr.cell? ⟨g1, 4, none⟩ = some (.int .i64 0) := (blk_cell B1.out 4).trans rfl; have cg_5 : wr.cell? ⟨g1, 5, none⟩ = some (.int .i64 0) := (blk_cell B1.out 5).trans rfl; have cg_6 : wr.cell? ⟨g1, 6, none⟩ = some (.int .i64 0) := (blk_cell B1.out 6).trans rfl; have fg_0 := blk_frozen B1.out 0; have fg_1 := blk_frozen B1.out 1; have fg_2 := blk_frozen B1.out 2; have fg_3 := blk_frozen B1.out 3; have fg_4 := blk_frozen B1.out 4; have fg_5 := blk_frozen B1.out 5; have fg_6 := blk_frozen B1.out 6
          go_wp2_with ((go_at_call 126; (with_reducible refine (hDays _ (by repeat ((exact HTW)))).mono ?_); rintro e w' ⟨rfl, ⟨nd, rfl⟩⟩))
          refine bodyPost_ret (results_ct rfl _ _ g1 138 #[.int .i64 y, .int .i64 ((i : Int) + 1), .int .i64 (wrap64 (D - befI y - cumI y i + 1)), .int .i64 h, .int .i64 mi, .int .i64 s, .int .i64 wd] (0, 0) _ rfl (by (with_reducible repeat (fail)); refine blk_put (cs := #[.int .i64 y, .int .i64 ((i : Int) + 1), .int .i64 (wrap64 (D - befI y - cumI y i + 1)), .int .i64 h, .int .i64 mi, .int .i64 s, .int .i64 0]) ?_ 6 _ rfl; (with_reducible repeat (fail)); refine blk_put (cs := #[.int .i64 y, .int .i64 ((i : Int) + 1), .int .i64 (wrap64 (D - befI y - cumI y i + 1)), .int .i64 h, .int .i64 mi, .int .i64 0, .int .i64 0]) ?_ 5 _ rfl; (with_reducible repeat (fail)); refine blk_put (cs := #[.int .i64 y, .int .i64 ((i : Int) + 1), .int .i64 (wrap64 (D - befI y - cumI y i + 1)), .int .i64 h, .int .i64 0, .int .i64 0, .int .i64 0]) ?_ 4 _ rfl; (with_reducible repeat (fail)); refine blk_put (cs := #[.int .i64 y, .int .i64 ((i : Int) + 1), .int .i64 (wrap64 (D - befI y - cumI y i + 1)), .int .i64 0, .int .i64 0, .int .i64 0, .int .i64 0]) ?_ 3 _ rfl; (with_reducible repeat (fail)); refine blk_put (cs := #[.int .i64 y, .int .i64 ((i : Int) + 1), .int .i64 0, .int .i64 0, .int .i64 0, .int .i64 0, .int .i64 0]) ?_ 2 _ rfl; (with_reducible repeat (fail)); refine blk_put (cs := #[.int .i64 y, .int .i64 0, .int .i64 0, .int .i64 0, .int .i64 0, .int .i64 0, .int .i64 0]) ?_ 1 _ rfl; (with_reducible repeat (fail)); refine blk_put (cs := #[.int .i64 0, .int .i64 0, .int .i64 0, .int .i64 0, .int .i64 0, .int .i64 0, .int .i64 0]) ?_ 0 _ rfl; (with_reducible repeat (fail));  refine blk_far ?_ NE12.out _; (with_reducible repeat ((refine blk_drewN ?_ _))); exact B1.out) Tryz.underlying138 rfl (by kernel_rfl)) rfl ?_
          exact ⟨⟨_, _, _, _, _, by rfl⟩, by repeat ((with_reducible first | exact HB.out | apply pw_below_drewN | refine below_set ?_ GE1.out | refine below_set ?_ GE2.out))⟩
         ·have cb : decide (D - befI y - cumI y i < daysI y (i + 1)) = false := decide_eq_false c
          have hik : i + 1 ≤ k := by
           have := HI.out
           by_cases hq : i = k
           ·subst hq
            have := HD.out.2.2
            have := HCS.out
            omega
           ·omega
          have HI2 : Sd (i + 1 ≤ k ∧ k - (i + 1) < k3) := ⟨by have := HI.out; omega⟩
          have ev : wrap64 (D - befI y - cumI y i - daysI y (i + 1)) = D - befI y - cumI y (i + 1) := by
           rw [wrap_id (by have := HBO.out; have := HDP.out; omega), HCS.out]; omega
          have ei : wrap64 ((i : Int) + 1 + 1) = ((i + 1 : Nat) : Int) + 1 := by
           rw [wrap_id (by have := HI2.out; have := HD.out.1; omega)]; omega
          clear c hik
          go_wp2_with ((go_at_call 126; (with_reducible refine (hDays _ (by repeat ((exact HTW)))).mono ?_); rintro e w' ⟨rfl, ⟨nd, rfl⟩⟩))
          go_roundg k3
          case measure => omega
          case rel => exact ⟨i + 1, h, mi, s, wd, (by (rw [ev])), HI2, ⟨by (with_reducible repeat (fail)); refine blk_far ?_ NE12.out _; (with_reducible repeat ((refine blk_drewN ?_ _))); exact B1.out⟩, ⟨by (try rw [ei]); (with_reducible repeat (fail)); refine blk_put (cs := #[.int .i64 y, .int .i64 ((i : Int) + 1), .int .i64 0, .int .i64 h, .int .i64 mi, .int .i64 s, .int .i64 wd]) ?_ 1 _ rfl; (with_reducible repeat ((refine blk_drewN ?_ _))); exact B2.out⟩, ⟨by repeat ((with_reducible first | exact HB.out | apply pw_below_drewN | refine below_set ?_ GE2.out))⟩⟩
theorem civil_Key_calls (u t : Int) (hu : 1 ≤ u ∧ u ≤ 5) (h0 : 0 ≤ t) (h1 : t ≤ 1099511627776) (w : World) (hT : MonthT w) :
  Calls Tryz.prog 78 #[.int .i64 u, .int .i64 t] w fun e w' => e = .returned (.tuple #[.int .i64 (keyI u t), .int .i64 0]) ∧ Below w.heap.size w w' := by
 have hu138 := Tryz.underlying138
 have HT := Sd.mk hT
 clear hT
 have hOf := fun W hW => civil_Of_calls t h0 h1 W hW
 have hsm := date_small t h0 h1
 have hdt := date_of t h0 h1
 have hk : ∀ v, v = keyI u t → v = keyI u t := fun _ h => h
 unfold keyI
 generalize dateOf (t / 86400 + befI 1970) = p at hOf hsm hdt ⊢
 obtain ⟨z, k⟩ := p
 simp only at hOf hsm hdt ⊢
 have HB := Sd.mk (Below.refl w.heap.size w)
 have t1 : t / 3600 = wrap64 (Int.tdiv t 3600) := by rw [tdiv_nn h0, wrap_id (by omega)]
 have t2 : t / 86400 = wrap64 (Int.tdiv t 86400) := by rw [tdiv_nn h0, wrap_id (by omega)]
 have t3 : (t / 86400 + 3) / 7 = wrap64 (Int.tdiv (wrap64 (wrap64 (Int.tdiv t 86400) + 3)) 7) := by rw [← t2, wrap_id (x := t / 86400 + 3) (by omega), tdiv_nn (by omega), wrap_id (by omega)]
 have t4 : 12 * z + ((k + 1 : Nat) : Int) = wrap64 (wrap64 (12 * z) + ((k + 1 : Nat) : Int)) := by
  have := hdt.1
  rw [wrap_id (x := 12 * z) (by omega), wrap_id (by omega)]
 have h5 : u = 1 ∨ u = 2 ∨ u = 3 ∨ u = 4 ∨ u = 5 := by omega
 rw [t3, t4, t1, t2]
 clear t1 t2 t3 t4 h0 h1 hsm hdt hu hk
 rcases h5 with rfl | rfl | rfl | rfl | rfl
 ·rw [if_pos rfl]
  go_enter Tryz.func78, Tryz.ntmps78
  go_wp2_with (first | ((with_reducible refine gate_callee (f := 109) rfl ?_); refine goesL_ (some 10) rfl rfl Tryz.func109 (by kernel_rfl) rfl #[.int .i64 t] rfl (by (try simp only [List.map_toArray, List.map_cons, List.map_nil]); (rfl)) ?_; (with_reducible refine (hOf _ (by repeat ((exact HT.out)))).mono ?_); rintro e w' ⟨⟨a2, a3, a4, a5, a6, rfl⟩, hb⟩; have n0_ := Sd.mk hb; clear HB; have HB := n0_; clear n0_ hb; refine ⟨_, rfl, ?_⟩) | ((with_reducible refine gate_dst (N := 6) rfl ?_); refine box_event ?hg (N := 6) ?hd (cs := #[.int .i64 0, .int .i64 0, .int .i64 0, .int .i64 0, .int .i64 0, .int .i64 0, .int .i64 0]) (t := 138) ?hr ?_; (case hd => rfl); (case hg => rfl); (case hr => (go_simp; done)); intro g2 hg w6 hbox hb; have n0_ := Sd.mk (below_step (by repeat ((with_reducible (exact HB.out)))) hb); have n2_ := Sd.mk hbox; have n3_ := Sd.mk ((by rw [hg]; exact (below_size (by repeat ((with_reducible (exact HB.out)))))) : w.heap.size ≤ g2); clear HB; have HB := n0_; have B2 := n2_; have GE2 := n3_; clear n0_ n2_ n3_; have ca_0 : w6.cell? ⟨g2, 0, none⟩ = some (.int .i64 0) := (blk_cell B2.out 0).trans rfl; have ca_1 : w6.cell? ⟨g2, 1, none⟩ = some (.int .i64 0) := (blk_cell B2.out 1).trans rfl; have ca_2 : w6.cell? ⟨g2, 2, none⟩ = some (.int .i64 0) := (blk_cell B2.out 2).trans rfl; have ca_3 : w6.cell? ⟨g2, 3, none⟩ = some (.int .i64 0) := (blk_cell B2.out 3).trans rfl; have ca_4 : w6.cell? ⟨g2, 4, none⟩ = some (.int .i64 0) := (blk_cell B2.out 4).trans rfl; have ca_5 : w6.cell? ⟨g2, 5, none⟩ = some (.int .i64 0) := (blk_cell B2.out 5).trans rfl; have ca_6 : w6.cell? ⟨g2, 6, none⟩ = some (.int .i64 0) := (blk_cell B2.out 6).trans rfl; have fa_0 := blk_frozen B2.out 0; have fa_1 := blk_frozen B2.out 1; have fa_2 := blk_frozen B2.out 2; have fa_3 := blk_frozen B2.out 3; have fa_4 := blk_frozen B2.out 4; have fa_5 := blk_frozen B2.out 5; have fa_6 := blk_frozen B2.out 6; clear hb hbox hg))
  go_ret2
  exact ⟨by rfl, by repeat ((with_reducible first | exact HB.out | refine below_set ?_ GE2.out))⟩
 ·rw [if_neg (by decide)]; rw [if_pos rfl]
  go_enter Tryz.func78, Tryz.ntmps78
  go_wp2_with (first | ((with_reducible refine gate_callee (f := 109) rfl ?_); refine goesL_ (some 10) rfl rfl Tryz.func109 (by kernel_rfl) rfl #[.int .i64 t] rfl (by (try simp only [List.map_toArray, List.map_cons, List.map_nil]); (rfl)) ?_; (with_reducible refine (hOf _ (by repeat ((exact HT.out)))).mono ?_); rintro e w' ⟨⟨a2, a3, a4, a5, a6, rfl⟩, hb⟩; have n0_ := Sd.mk hb; clear HB; have HB := n0_; clear n0_ hb; refine ⟨_, rfl, ?_⟩) | ((with_reducible refine gate_dst (N := 6) rfl ?_); refine box_event ?hg (N := 6) ?hd (cs := #[.int .i64 0, .int .i64 0, .int .i64 0, .int .i64 0, .int .i64 0, .int .i64 0, .int .i64 0]) (t := 138) ?hr ?_; (case hd => rfl); (case hg => rfl); (case hr => (go_simp; done)); intro g2 hg w6 hbox hb; have n0_ := Sd.mk (below_step (by repeat ((with_reducible (exact HB.out)))) hb); have n2_ := Sd.mk hbox; have n3_ := Sd.mk ((by rw [hg]; exact (below_size (by repeat ((with_reducible (exact HB.out)))))) : w.heap.size ≤ g2); clear HB; have HB := n0_; have B2 := n2_; have GE2 := n3_; clear n0_ n2_ n3_; have ca_0 : w6.cell? ⟨g2, 0, none⟩ = some (.int .i64 0) := (blk_cell B2.out 0).trans rfl; have ca_1 : w6.cell? ⟨g2, 1, none⟩ = some (.int .i64 0) := (blk_cell B2.out 1).trans rfl; have ca_2 : w6.cell? ⟨g2, 2, none⟩ = some (.int .i64 0) := (blk_cell B2.out 2).trans rfl; have ca_3 : w6.cell? ⟨g2, 3, none⟩ = some (.int .i64 0) := (blk_cell B2.out 3).trans rfl; have ca_4 : w6.cell? ⟨g2, 4, none⟩ = some (.int .i64 0) := (blk_cell B2.out 4).trans rfl; have ca_5 : w6.cell? ⟨g2, 5, none⟩ = some (.int .i64 0) := (blk_cell B2.out 5).trans rfl; have ca_6 : w6.cell? ⟨g2, 6, none⟩ = some (.int .i64 0) := (blk_cell B2.out 6).trans rfl; have fa_0 := blk_frozen B2.out 0; have fa_1 := blk_frozen B2.out 1; have fa_2 := blk_frozen B2.out 2; have fa_3 := blk_frozen B2.out 3; have fa_4 := blk_frozen B2.out 4; have fa_5 := blk_frozen B2.out 5; have fa_6 := blk_frozen B2.out 6; clear hb hbox hg))
  go_ret2
  exact ⟨by rfl, by repeat ((with_reducible first | exact HB.out | refine below_set ?_ GE2.out))⟩
 ·rw [if_neg (by decide)];  rw [if_neg (by decide)]; rw [if_pos rfl]
  go_enter Tryz.func78, Tryz.ntmps78
  go_wp2_with (first | ((with_reducible refine gate_callee (f := 109) rfl ?_); refine goesL_ (some 10) rfl rfl Tryz.func109 (by kernel_rfl) rfl #[.int .i64 t] rfl (by (try simp only [List.map_toArray, List.map_cons, List.map_nil]); (rfl)) ?_; (with_reducible refine (hOf _ (by repeat ((exact HT.out)))).mono ?_); rintro e w' ⟨⟨a2, a3, a4, a5, a6, rfl⟩, hb⟩; have n0_ := Sd.mk hb; clear HB; have HB := n0_; clear n0_ hb; refine ⟨_, rfl, ?_⟩) | ((with_reducible refine gate_dst (N := 6) rfl ?_); refine box_event ?hg (N := 6) ?hd (cs := #[.int .i64 0, .int .i64 0, .int .i64 0, .int .i64 0, .int .i64 0, .int .i64 0, .int .i64 0]) (t := 138) ?hr ?_; (case hd => rfl); (case hg => rfl); (case hr => (go_simp; done)); intro g2 hg w6 hbox hb; have n0_ := Sd.mk (below_step (by repeat ((with_reducible (exact HB.out)))) hb); have n2_ := Sd.mk hbox; have n3_ := Sd.mk ((by rw [hg]; exact (below_size (by repeat ((with_reducible (exact HB.out)))))) : w.heap.size ≤ g2); clear HB; have HB := n0_; have B2 := n2_; have GE2 := n3_; clear n0_ n2_ n3_; have ca_0 : w6.cell? ⟨g2, 0, none⟩ = some (.int .i64 0) := (blk_cell B2.out 0).trans rfl; have ca_1 : w6.cell? ⟨g2, 1, none⟩ = some (.int .i64 0) := (blk_cell B2.out 1).trans rfl; have ca_2 : w6.cell? ⟨g2, 2, none⟩ = some (.int .i64 0) := (blk_cell B2.out 2).trans rfl; have ca_3 : w6.cell? ⟨g2, 3, none⟩ = some (.int .i64 0) := (blk_cell B2.out 3).trans rfl; have ca_4 : w6.cell? ⟨g2, 4, none⟩ = some (.int .i64 0) := (blk_cell B2.out 4).trans rfl; have ca_5 : w6.cell? ⟨g2, 5, none⟩ = some (.int .i64 0) := (blk_cell B2.out 5).trans rfl; have ca_6 : w6.cell? ⟨g2, 6, none⟩ = some (.int .i64 0) := (blk_cell B2.out 6).trans rfl; have fa_0 := blk_frozen B2.out 0; have fa_1 := blk_frozen B2.out 1; have fa_2 := blk_frozen B2.out 2; have fa_3 := blk_frozen B2.out 3; have fa_4 := blk_frozen B2.out 4; have fa_5 := blk_frozen B2.out 5; have fa_6 := blk_frozen B2.out 6; clear hb hbox hg))
  go_ret2
  exact ⟨by rfl, by repeat ((with_reducible first | exact HB.out | refine below_set ?_ GE2.out))⟩
 ·rw [if_neg (by decide)];  rw [if_neg (by decide)];  rw [if_neg (by decide)]; rw [if_pos rfl]
  go_enter Tryz.func78, Tryz.ntmps78
  go_wp2_with (first | ((with_reducible refine gate_callee (f := 109) rfl ?_); refine goesL_ (some 10) rfl rfl Tryz.func109 (by kernel_rfl) rfl #[.int .i64 t] rfl (by (try simp only [List.map_toArray, List.map_cons, List.map_nil]); (rfl)) ?_; (with_reducible refine (hOf _ (by repeat ((exact HT.out)))).mono ?_); rintro e w' ⟨⟨a2, a3, a4, a5, a6, rfl⟩, hb⟩; have n0_ := Sd.mk hb; clear HB; have HB := n0_; clear n0_ hb; refine ⟨_, rfl, ?_⟩) | ((with_reducible refine gate_dst (N := 6) rfl ?_); refine box_event ?hg (N := 6) ?hd (cs := #[.int .i64 0, .int .i64 0, .int .i64 0, .int .i64 0, .int .i64 0, .int .i64 0, .int .i64 0]) (t := 138) ?hr ?_; (case hd => rfl); (case hg => rfl); (case hr => (go_simp; done)); intro g2 hg w6 hbox hb; have n0_ := Sd.mk (below_step (by repeat ((with_reducible (exact HB.out)))) hb); have n2_ := Sd.mk hbox; have n3_ := Sd.mk ((by rw [hg]; exact (below_size (by repeat ((with_reducible (exact HB.out)))))) : w.heap.size ≤ g2); clear HB; have HB := n0_; have B2 := n2_; have GE2 := n3_; clear n0_ n2_ n3_; have ca_0 : w6.cell? ⟨g2, 0, none⟩ = some (.int .i64 0) := (blk_cell B2.out 0).trans rfl; have ca_1 : w6.cell? ⟨g2, 1, none⟩ = some (.int .i64 0) := (blk_cell B2.out 1).trans rfl; have ca_2 : w6.cell? ⟨g2, 2, none⟩ = some (.int .i64 0) := (blk_cell B2.out 2).trans rfl; have ca_3 : w6.cell? ⟨g2, 3, none⟩ = some (.int .i64 0) := (blk_cell B2.out 3).trans rfl; have ca_4 : w6.cell? ⟨g2, 4, none⟩ = some (.int .i64 0) := (blk_cell B2.out 4).trans rfl; have ca_5 : w6.cell? ⟨g2, 5, none⟩ = some (.int .i64 0) := (blk_cell B2.out 5).trans rfl; have ca_6 : w6.cell? ⟨g2, 6, none⟩ = some (.int .i64 0) := (blk_cell B2.out 6).trans rfl; have fa_0 := blk_frozen B2.out 0; have fa_1 := blk_frozen B2.out 1; have fa_2 := blk_frozen B2.out 2; have fa_3 := blk_frozen B2.out 3; have fa_4 := blk_frozen B2.out 4; have fa_5 := blk_frozen B2.out 5; have fa_6 := blk_frozen B2.out 6; clear hb hbox hg))
  go_ret2
  exact ⟨by rfl, by repeat ((with_reducible first | exact HB.out | refine below_set ?_ GE2.out))⟩
 ·rw [if_neg (by decide)];  rw [if_neg (by decide)];  rw [if_neg (by decide)];  rw [if_neg (by decide)]; skip
  go_enter Tryz.func78, Tryz.ntmps78
  go_wp2_with (first | ((with_reducible refine gate_callee (f := 109) rfl ?_); refine goesL_ (some 10) rfl rfl Tryz.func109 (by kernel_rfl) rfl #[.int .i64 t] rfl (by (try simp only [List.map_toArray, List.map_cons, List.map_nil]); (rfl)) ?_; (with_reducible refine (hOf _ (by repeat ((exact HT.out)))).mono ?_); rintro e w' ⟨⟨a2, a3, a4, a5, a6, rfl⟩, hb⟩; have n0_ := Sd.mk hb; clear HB; have HB := n0_; clear n0_ hb; refine ⟨_, rfl, ?_⟩) | ((with_reducible refine gate_dst (N := 6) rfl ?_); refine box_event ?hg (N := 6) ?hd (cs := #[.int .i64 0, .int .i64 0, .int .i64 0, .int .i64 0, .int .i64 0, .int .i64 0, .int .i64 0]) (t := 138) ?hr ?_; (case hd => rfl); (case hg => rfl); (case hr => (go_simp; done)); intro g2 hg w6 hbox hb; have n0_ := Sd.mk (below_step (by repeat ((with_reducible (exact HB.out)))) hb); have n2_ := Sd.mk hbox; have n3_ := Sd.mk ((by rw [hg]; exact (below_size (by repeat ((with_reducible (exact HB.out)))))) : w.heap.size ≤ g2); clear HB; have HB := n0_; have B2 := n2_; have GE2 := n3_; clear n0_ n2_ n3_; have ca_0 : w6.cell? ⟨g2, 0, none⟩ = some (.int .i64 0) := (blk_cell B2.out 0).trans rfl; have ca_1 : w6.cell? ⟨g2, 1, none⟩ = some (.int .i64 0) := (blk_cell B2.out 1).trans rfl; have ca_2 : w6.cell? ⟨g2, 2, none⟩ = some (.int .i64 0) := (blk_cell B2.out 2).trans rfl; have ca_3 : w6.cell? ⟨g2, 3, none⟩ = some (.int .i64 0) := (blk_cell B2.out 3).trans rfl; have ca_4 : w6.cell? ⟨g2, 4, none⟩ = some (.int .i64 0) := (blk_cell B2.out 4).trans rfl; have ca_5 : w6.cell? ⟨g2, 5, none⟩ = some (.int .i64 0) := (blk_cell B2.out 5).trans rfl; have ca_6 : w6.cell? ⟨g2, 6, none⟩ = some (.int .i64 0) := (blk_cell B2.out 6).trans rfl; have fa_0 := blk_frozen B2.out 0; have fa_1 := blk_frozen B2.out 1; have fa_2 := blk_frozen B2.out 2; have fa_3 := blk_frozen B2.out 3; have fa_4 := blk_frozen B2.out 4; have fa_5 := blk_frozen B2.out 5; have fa_6 := blk_frozen B2.out 6; clear hb hbox hg))
  go_ret2
  exact ⟨by rfl, by repeat ((with_reducible first | exact HB.out | refine below_set ?_ GE2.out))⟩
end Go.Proofs.YtpdkgpmcmebefaaGreatDoor.Q
