/- Of the proof about model: several texts, joined. -/
import Derived.Test.YtkicenkljjpcfaaGreatDoorMF
import Derived.Lib.SmallJoins
import Derived.Laws.Externs
import Derived.Lib.Bytealg
import Derived.Laws.Cover1
import Derived.LoopN
import Derived.Test.YtkicenkljjpcfaaGreatDoorMB
import Derived.Test.YtkicenkljjpcfaaGreatDoorShelf
import Derived.Test.YtkicenkljjpcfaaGreatDoorME
set_option linter.unusedVariables false
set_option linter.unusedSimpArgs false
set_option linter.unusedSimpArgs false
namespace Go.Proofs.YtkicenkljjpcfaaGreatDoor.Q
open Go.RowKit Go.Proofs.YtkicenkljjpcfaaGreatDoorW.PrintWords Go.Proofs.YtkicenkljjpcfaaGreatDoorW.PrintLast Go.Proofs.YtkicenkljjpcfaaGreatDoorW.PrintMore
attribute [local go_sem] max2_int min2_int max_two min_two max_three min_three max_four min_four
/-- Where a slash stands first; -1: nowhere. -/
def ixs (s : ByteArray) : Int := Lib.indexByte s.data.toList 47
def cts (s : ByteArray) : Nat := Lib.countByte s.data.toList 47
/-- What stands between slashes; at most n of them are looked for. -/
def splitN : Nat → ByteArray → List ByteArray
  | 0, s => [s]
  | n + 1, s => if ixs s < 0 then [s] else s.extract 0 (ixs s).toNat :: splitN n (s.extract ((ixs s).toNat + 1) s.size)
def partsOf (s : ByteArray) : List ByteArray := if s.size = 0 then [] else splitN (cts s) s
set_option maxHeartbeats 1000000 in
set_option maxRecDepth 100000 in
theorem count_any (s : ByteArray) (w : World) : Calls Tryz.prog 113 #[.string s, .string ⟨#[47]⟩] w fun e w' => e = .returned (.int .i64 (cts s)) ∧ w' = w := by
  go_enter Tryz.func113, Tryz.ntmps113
  go_wp2
  rw [run_callFunc_extern Tryz.func117 (by kernel_rfl) (by kernel_rfl) (by kernel_rfl) (e := Extern.BytealgCount.count) (by kernel_rfl), Lib.run_countString]
  simp only [Result.andThen]
  rw [Oper.upon_value]
  go_wp2
  go_ret
  exact ⟨rfl, rfl⟩
set_option maxHeartbeats 1000000 in
set_option maxRecDepth 100000 in
theorem indexByte_any (s : ByteArray) (w : World) : Calls Tryz.prog 120 #[.string s, .int .u8 47] w fun e w' => e = .returned (.int .i64 (ixs s)) ∧ w' = w := by
  go_enter Tryz.func120, Tryz.ntmps120
  go_wp2
  rw [run_callFunc_extern Tryz.func124 (by kernel_rfl) (by kernel_rfl) (by kernel_rfl) (e := Extern.BytealgIndexByte.indexByte) (by kernel_rfl), Lib.run_indexByteString]
  simp only [Result.andThen]
  rw [Oper.upon_value]
  go_wp2
  go_ret
  exact ⟨rfl, rfl⟩
set_option maxHeartbeats 1000000 in
set_option maxRecDepth 100000 in
theorem index31 (s : ByteArray) (w : World) : Calls Tryz.prog 118 #[.string s, .string ⟨#[47]⟩] w fun e w' => e = .returned (.int .i64 (ixs s)) ∧ w' = w := by
  by_cases hs : s = ⟨#[47]⟩
  · subst hs
    have h0 : ixs ⟨#[47]⟩ = 0 := by decide
    rw [h0]
    go_enter Tryz.func118, Tryz.ntmps118
    go_wp2_with (fail)
    go_ret
    exact ⟨rfl, rfl⟩
  · have hne : ((⟨#[47]⟩ : ByteArray).toList == s.toList) = false := beq_eq_false_iff_ne.mpr (fun h => hs (eq_of_toList h).symm)
    have h47 : (⟨#[47]⟩ : ByteArray).toList = [47] := by decide +kernel
    have hne2 : ([47] == s.toList) = false := by rw [← hne, h47]
    go_enter Tryz.func118, Tryz.ntmps118
    go_wp2_with (go_at_call 120; refine (indexByte_any s _).mono ?_; rintro e w1 ⟨rfl, rfl⟩)
    go_ret
    exact ⟨rfl, rfl⟩
set_option maxHeartbeats 1000000 in
set_option maxRecDepth 100000 in
theorem index_any (s : ByteArray) (w : World) : Calls Tryz.prog 114 #[.string s, .string ⟨#[47]⟩] w fun e w' => e = .returned (.int .i64 (ixs s)) ∧ w' = w := by
  go_enter Tryz.func114, Tryz.ntmps114
  go_wp2_with (go_at_call 118; refine (index31 s _).mono ?_; rintro e w1 ⟨rfl, rfl⟩)
  go_ret
  exact ⟨rfl, rfl⟩
theorem cts_le (s : ByteArray) : cts s ≤ s.size := by
  unfold cts Lib.countByte
  have h := List.count_le_length (a := (47 : UInt8)) (l := s.data.toList)
  rwa [Array.length_toList] at h
theorem madeCells_one (n : Nat) : (madeCells (Value.string ⟨#[]⟩).cells (n * 1)).toList = List.replicate n (.string ⟨#[]⟩) := by
  rw [Nat.mul_one]
  rw [List.eq_replicate_iff]
  refine ⟨by rw [Array.length_toList, size_madeCells], fun v hv => ?_⟩
  simp only [madeCells, Value.cells, Array.toList_map, List.mem_map] at hv
  obtain ⟨j, _, rfl⟩ := hv
  simp [Nat.mod_one]
theorem add_off (g n : Nat) : (⟨g, 0, none⟩ : Addr).add n = ⟨g, n, none⟩ := by
  unfold Addr.add
  split <;> simp_all
theorem C_of_cells {W : World} {g : Nat} {cs : Array Value} (h : W.heap[g]? = some (.cells cs 9 (0, 0))) (l : List ByteArray) (hl : l.length ≤ 1048580) (hc : ∀ (j : Nat) (p : ByteArray), l[j]? = some p → cs[j]? = some (Value.string p)) : Kd.C Kd.string W (some ⟨g, 0, none⟩) l.length l := by
  refine ⟨rfl, by omega, fun _ => ⟨⟨g, 0, none⟩, rfl, fun j p hj => ⟨[.string p], rfl, rfl, fun i u hu => ?_⟩⟩⟩
  match i, hu with
  | 0, hu =>
    simp only [List.getElem?_cons_zero, Option.some.injEq] at hu
    subst hu
    rw [show j * Kd.string.sz + 0 = j from by show j * 1 + 0 = j; omega, add_off, blk_cell h]
    exact hc j p hj
theorem ixs_lt (s : ByteArray) : -1 ≤ ixs s ∧ (ixs s < s.size ∨ ixs s = -1) := by
  have h : ∀ l : List UInt8, -1 ≤ Lib.indexByte l 47 ∧ (Lib.indexByte l 47 < l.length ∨ Lib.indexByte l 47 = -1) := by
    intro l
    induction l with
    | nil => exact ⟨Int.le_refl _, .inr rfl⟩
    | cons b l ih =>
      unfold Lib.indexByte
      split
      · simp
      · split
        · simp
        · rename_i h1 h2
          have h3 : Lib.indexByte l 47 ≠ -1 := by simpa using h2
          simp only [List.length_cons]
          omega
  have h1 := h s.data.toList
  unfold ixs
  rw [Array.length_toList] at h1
  exact h1
theorem make_n (n : Nat) (hn : n ≤ 1048580) (W : World) : ∃ cs : Array Value, cs.toList = List.replicate n (.string ⟨#[]⟩) ∧ (Instr.makeSlice 25 (.int .i64 (n : Int)) (.int .i64 (n : Int))).run Tryz.prog W = .ok (.slice (some ⟨W.heap.size, 0, none⟩) n n) (W.alloc (.cells cs 9)) := by
  obtain ⟨i, hi, hz⟩ := Option.map_eq_some_iff.1 info9
  simp only [Prod.mk.injEq] at hz
  have h := run_makeSlice (P := Tryz.prog) W 25 9 i (.string ⟨#[]⟩) Tryz.underlying25 hi hz.1 .i64 .i64 n n (by omega) (by omega) (by rw [hz.2.1, Int.toNat_natCast]; omega) (by rw [hz.2.2]; omega) (by omega)
  rw [hz.2.1] at h
  simp only [Int.toNat_natCast] at h
  exact ⟨_, madeCells_one n, h⟩
set_option maxHeartbeats 1000000 in
set_option maxRecDepth 100000 in
theorem genSplit_any (s : ByteArray) (hs : s.size ≤ 1048576) (w : World) : Calls Tryz.prog 111 #[.string s, .string ⟨#[47]⟩, .int .i64 0, .int .i64 (-1)] w fun e w' => ∃ A c, e = .returned (.slice A (splitN (cts s) s).length c) ∧ (splitN (cts s) s).length ≤ c ∧ Kd.C Kd.string w' A (splitN (cts s) s).length (splitN (cts s) s) ∧ Below w.heap.size w w' := by
  have hle := cts_le s
  have hmk := make_n (cts s + 1) (by omega) w
  obtain ⟨cs0, hcs0, hrun⟩ := hmk
  generalize hN : cts s = N at hle hcs0 hrun ⊢
  have hcm : ((N + 1 : Nat) : Int) = (N : Int) + 1 := by omega
  rw [hcm] at hrun
  have hcount := count_any s w
  rw [hN] at hcount
  go_enter Tryz.func111, Tryz.ntmps111
  go_wp2_with (go_at_call 113; refine hcount.mono ?_; rintro e w1 ⟨rfl, rfl⟩)
  have HB1 : Aside0 (Below w1.heap.size w1 (w1.alloc (.cells cs0 9))) := ⟨below_alloc (Below.refl _ _) _⟩
  have HK1 : Aside0 ((w1.alloc (.cells cs0 9)).heap[w1.heap.size]? = some (.cells cs0 9 (0, 0))) := ⟨(MapKept.heap_alloc _ _).1⟩
  have HN := Aside0.mk (show N ≤ 1048576 by omega)
  obtain ⟨gb, hgb⟩ : ∃ gb, gb = w1.heap.size := ⟨_, rfl⟩
  have HGB : Aside0 (w1.heap.size ≤ gb) := ⟨by omega⟩
  rw [← hgb] at HK1 hrun ⊢
  have HBk := HB1
  obtain ⟨w2, hw2⟩ : ∃ w2, w2 = w1.alloc (.cells cs0 9) := ⟨_, rfl⟩
  rw [← hw2] at HK1 HBk ⊢
  have HS := Aside0.mk hs
  have HC0 := Aside0.mk hcs0
  clear hw2 HB1 hrun hcount hcm hle hs hcs0 hN hgb
  go_loopw [0, 10, 11] (fun v0 v10 v11 w' => ∃ (i : Nat) (rest : ByteArray) (done : List ByteArray) (cs : Array Value), v0 = .string rest ∧ v10 = .int .i64 (i : Int) ∧ Aside0 (i ≤ N ∧ done.length = i ∧ rest.size ≤ 1048576 ∧ done ++ splitN (N - i) rest = splitN N s) ∧ Aside0 (w'.heap[gb]? = some (.cells cs 9 (0, 0)) ∧ cs.toList = done.map Value.string ++ List.replicate (N + 1 - i) (.string ⟨#[]⟩)) ∧ Aside0 (Below w1.heap.size w1 w')) (fun _ v10 _ _ => N + 1 - (intOf v10).toNat)
  case atStart => exact ⟨0, s, [], cs0, rfl, rfl, ⟨by omega, rfl, HS.out, rfl⟩, ⟨HK1.out, by simpa using HC0.out⟩, HBk⟩
  case round =>
    clear HK1 HBk HC0
    obtain ⟨i, rest, done, cs, rfl, rfl, HR, HK, HBW⟩ := hrel
    obtain ⟨hi, hd, hr, hsp⟩ := HR.out
    have hix := ixs_lt rest
    have hNN := HN.out
    have hind := index_any rest wr
    have hcsz : cs.size = N + 1 := by
      have h := congrArg List.length HK.out.2
      rw [Array.length_toList, List.length_append, List.length_map, List.length_replicate, hd] at h
      omega
    have hlt : i < cs.size := by omega
    have hcl : wr.cell? ⟨gb, i, none⟩ = some cs[i] := (blk_cell HK.out.1 _).trans (Array.getElem?_eq_getElem hlt)
    have hfz : wr.frozen? ⟨gb, i, none⟩ = false := blk_frozen HK.out.1 _
    have hput : ∀ x : ByteArray, (cs.setIfInBounds i (.string x)).toList = (done ++ [x]).map Value.string ++ List.replicate (N + 1 - (i + 1)) (.string ⟨#[]⟩) := by
      intro x
      rw [Array.toList_setIfInBounds, HK.out.2]
      rw [show N + 1 - i = (N + 1 - (i + 1)) + 1 from by omega, List.replicate_succ]
      rw [List.set_append_right _ _ (by rw [List.length_map, hd]; exact Nat.le_refl _), List.length_map, hd, Nat.sub_self]
      simp
    have HP := Aside0.mk hput
    clear hput
    generalize hm : ixs rest = m at hix hind
    by_cases c2 : i < N
    · by_cases c3 : m < 0
      · have c3b : decide (m < 0) = true := decide_eq_true c3
        have hend : done ++ [rest] = splitN N s := by
          rw [← hsp, show N - i = (N - (i + 1)) + 1 from by omega]
          conv => rhs; rw [splitN, hm, if_pos c3]
        have hlen : (splitN N s).length = i + 1 := by rw [← hend, List.length_append, hd]; rfl
        have HE := Aside0.mk hend
        have HLn := Aside0.mk hlen
        clear hend hlen
        go_wp2_with (go_at_call 114; refine hind.mono ?_; rintro e w4 ⟨rfl, rfl⟩)
        go_ret
        refine ⟨some ⟨gb, 0, none⟩, N + 1, by rw [HLn.out]; first | rfl | (simp; done) | (simp; omega), by rw [HLn.out]; omega, ?_, below_set HBW.out HGB.out⟩
        refine C_of_cells (Go.Joins.block_setCell HK.out.1 _) _ (by rw [HLn.out]; omega) (fun j p hj => ?_)
        have h3 := congrArg (·[j]?) (HP.out rest)
        have hjl : j < (done ++ [rest]).length := by rw [HE.out]; exact (List.getElem?_eq_some_iff.1 hj).1
        rw [← HE.out] at hj
        simp only [Array.getElem?_toList] at h3
        rw [h3, List.getElem?_append_left (by rw [List.length_map]; exact hjl), List.getElem?_map, hj]
        rfl
      · have c3b : decide (m < 0) = false := decide_eq_false c3
        have c4 := eq_true (show 0 ≤ m by omega)
        have c5 := eq_true (show m ≤ (rest.size : Int) by omega)
        have c6 := eq_true (show 0 ≤ m + 1 by omega)
        have c7 := eq_true (show m + 1 ≤ (rest.size : Int) by omega)
        go_wp2_with (go_at_call 114; refine hind.mono ?_; rintro e w4 ⟨rfl, rfl⟩)
        have hsz : (rest.extract (m + 1).toNat rest.size).size ≤ 1048576 := by simp only [ByteArray.size_extract]; omega
        have hsp2 : (done ++ [rest.extract 0 m.toNat]) ++ splitN (N - (i + 1)) (rest.extract (m + 1).toNat rest.size) = splitN N s := by
          rw [← hsp, show N - i = (N - (i + 1)) + 1 from by omega]
          conv => rhs; rw [splitN, hm, if_neg (by omega)]
          rw [List.append_assoc, show m.toNat + 1 = (m + 1).toNat from by omega]
          rfl
        have HF := Aside0.mk (And.intro hsz hsp2)
        clear hsz hsp2
        go_roundw
        case rel => exact ⟨i + 1, rest.extract (m + 1).toNat rest.size, done ++ [rest.extract 0 m.toNat], cs.setIfInBounds i (.string (rest.extract 0 m.toNat)), rfl, by first | rfl | (go_num; done), ⟨by omega, by rw [List.length_append, hd]; rfl, HF.out.1, HF.out.2⟩, ⟨Go.Joins.block_setCell HK.out.1 _, HP.out _⟩, ⟨below_set HBW.out HGB.out⟩⟩
        case measure => (simp [intOf]; omega)
    · have hiN : i = N := by omega
      subst hiN
      have c3b : decide ((i : Int) < (i : Int)) = false := decide_eq_false (by omega)
      have hend : done ++ [rest] = splitN i s := by
        rw [← hsp, Nat.sub_self]
        rfl
      have hlen : (splitN i s).length = i + 1 := by rw [← hend, List.length_append, hd]; rfl
      have HE := Aside0.mk hend
      have HLn := Aside0.mk hlen
      clear hend hlen
      go_wp2_with (fail)
      go_ret
      refine ⟨some ⟨gb, 0, none⟩, i + 1, by rw [HLn.out]; first | rfl | (simp; done) | (simp; omega), by rw [HLn.out]; omega, ?_, below_set HBW.out HGB.out⟩
      refine C_of_cells (Go.Joins.block_setCell HK.out.1 _) _ (by rw [HLn.out]; omega) (fun j p hj => ?_)
      have h3 := congrArg (·[j]?) (HP.out rest)
      have hjl : j < (done ++ [rest]).length := by rw [HE.out]; exact (List.getElem?_eq_some_iff.1 hj).1
      rw [← HE.out] at hj
      simp only [Array.getElem?_toList] at h3
      rw [h3, List.getElem?_append_left (by rw [List.length_map]; exact hjl), List.getElem?_map, hj]
      rfl
theorem splitN_len : ∀ (n : Nat) (s : ByteArray), (splitN n s).length ≤ n + 1
  | 0, s => by simp [splitN]
  | n + 1, s => by
    rw [splitN]
    split
    · simp
    · have := splitN_len n (s.extract ((ixs s).toNat + 1) s.size)
      simp only [List.length_cons]
      omega
set_option maxHeartbeats 1000000 in
set_option maxRecDepth 100000 in
theorem split_any (s : ByteArray) (hs : s.size ≤ 1048576) (w : World) : Calls Tryz.prog 109 #[.string s, .string ⟨#[47]⟩] w fun e w' => ∃ A c, e = .returned (.slice A (splitN (cts s) s).length c) ∧ (splitN (cts s) s).length ≤ c ∧ Kd.C Kd.string w' A (splitN (cts s) s).length (splitN (cts s) s) ∧ Below w.heap.size w w' := by
  have hg := fun W => genSplit_any s hs W
  generalize splitN (cts s) s = l at hg ⊢
  go_enter Tryz.func109, Tryz.ntmps109
  go_wp2_with (go_at_call 111; refine (hg _).mono ?_; rintro e w1 ⟨A, c, rfl, h1, h2, h3⟩)
  go_ret
  exact ⟨A, c, rfl, h1, h2, h3⟩
set_option maxHeartbeats 1000000 in
set_option maxRecDepth 100000 in
theorem parts_any (s : ByteArray) (hs : s.size ≤ 1048576) (w : World) : Calls Tryz.prog 98 #[.string s] w fun e w' => ∃ A c, e = .returned (.slice A (partsOf s).length c) ∧ (partsOf s).length ≤ c ∧ Kd.C Kd.string w' A (partsOf s).length (partsOf s) ∧ Below w.heap.size w w' := by
  unfold partsOf
  by_cases h : s.size = 0
  · have he : s = ⟨#[]⟩ := by
      cases s with
      | mk d =>
        have : d.size = 0 := h
        rw [Array.eq_empty_of_size_eq_zero this]
    subst he
    have h0 : (⟨#[]⟩ : ByteArray).size = 0 := rfl
    simp only [h0, if_true]
    go_enter Tryz.func98, Tryz.ntmps98
    go_wp2_with (fail)
    go_ret
    exact ⟨none, 0, rfl, Nat.le_refl _, Kd.C_nil Kd.string _, Below.refl _ _⟩
  · rw [if_neg h]
    have hne : (s.toList == (⟨#[]⟩ : ByteArray).toList) = false := beq_eq_false_iff_ne.mpr (fun e => h (by rw [eq_of_toList e]; rfl))
    have hne2 : (s.toList == []) = false := by rw [← hne]; congr 1; decide +kernel
    have hne3 : (s.toList.isEmpty) = false := by
      cases ht : s.toList with
      | nil => rw [ht] at hne2; simp at hne2
      | cons a l => rfl
    have hg := fun W => split_any s hs W
    generalize splitN (cts s) s = l at hg ⊢
    go_enter Tryz.func98, Tryz.ntmps98
    go_wp2_with (go_at_call 109; refine (hg _).mono ?_; rintro e w1 ⟨A, c, rfl, h1, h2, h3⟩)
    go_ret
    exact ⟨A, c, rfl, h1, h2, h3⟩
theorem sp_no : ∀ l : List UInt8, Lib.indexByte l 47 = -1 → sp l = [l]
  | [], _ => rfl
  | b :: r, h => by
    unfold Lib.indexByte at h
    by_cases hb : b = 47
    · rw [hb] at h; simp at h
    · rw [if_neg (by simpa using hb)] at h
      by_cases hr : Lib.indexByte r 47 = -1
      · rw [sp, if_neg hb, sp_no r hr]
      · rw [if_neg (by simpa using hr)] at h
        have := Lib.indexByte_ge r 47
        omega
theorem sp_at : ∀ (l : List UInt8) (i : Nat), Lib.indexByte l 47 = (i : Int) → sp l = l.take i :: sp (l.drop (i + 1)) ∧ Lib.countByte l 47 = Lib.countByte (l.drop (i + 1)) 47 + 1
  | [], i, h => by unfold Lib.indexByte at h; omega
  | b :: r, i, h => by
    unfold Lib.indexByte at h
    by_cases hb : b = 47
    · subst hb
      rw [if_pos (by rfl)] at h
      obtain rfl : i = 0 := by omega
      exact ⟨by rw [sp, if_pos rfl]; rfl, by unfold Lib.countByte; simp⟩
    · rw [if_neg (by simpa using hb)] at h
      by_cases hr : Lib.indexByte r 47 = -1
      · rw [if_pos (by simpa using hr)] at h
        omega
      · rw [if_neg (by simpa using hr)] at h
        cases i with
        | zero => have := Lib.indexByte_ge r 47; omega
        | succ i =>
          obtain ⟨h1, h2⟩ := sp_at r i (by omega)
          refine ⟨?_, ?_⟩
          · rw [sp, if_neg hb, h1]; simp
          · have : Lib.countByte (b :: r) 47 = Lib.countByte r 47 := by unfold Lib.countByte; rw [List.count_cons_of_ne hb]
            rw [this, h2]; simp
theorem splitN_sp : ∀ (n : Nat) (s : ByteArray), cts s ≤ n → (splitN n s).map ByteArray.toList = sp s.toList
  | 0, s, h => by
    have hc : cts s = 0 := by omega
    have hi : Lib.indexByte s.data.toList 47 = -1 := by
      have hg := Lib.indexByte_ge s.data.toList 47
      by_cases h0 : Lib.indexByte s.data.toList 47 = -1
      · exact h0
      · have := (sp_at s.data.toList (Lib.indexByte s.data.toList 47).toNat (by omega)).2
        unfold cts at hc; omega
    rw [splitN, toList_data, sp_no _ hi]
    simp [toList_data]
  | n + 1, s, h => by
    have hg := Lib.indexByte_ge s.data.toList 47
    by_cases h0 : ixs s < 0
    · have hi : Lib.indexByte s.data.toList 47 = -1 := by unfold ixs at h0; omega
      rw [splitN, if_pos h0, toList_data, sp_no _ hi]
      simp [toList_data]
    · rw [splitN, if_neg h0, List.map_cons]
      obtain ⟨h1, h2⟩ := sp_at s.data.toList (ixs s).toNat (by unfold ixs at h0 ⊢; omega)
      have hl : (s.extract ((ixs s).toNat + 1) s.size).toList = s.toList.drop ((ixs s).toNat + 1) := by
        rw [toList_extract, List.take_of_length_le]
        rw [List.length_drop, toList_len]; omega
      rw [splitN_sp n _ (by unfold cts at h ⊢; rw [← toList_data, hl, toList_data]; omega), hl, toList_extract, toList_data, h1]
      simp
theorem partsOf_names (s : ByteArray) : (partsOf s).map ByteArray.toList = names s.toList := by
  unfold partsOf names
  by_cases h : s.size = 0
  · rw [if_pos h, if_pos (List.length_eq_zero_iff.1 (by rw [toList_len]; exact h))]; rfl
  · rw [if_neg h, if_neg (fun hh => h (by rw [← toList_len, hh]; rfl)), splitN_sp _ _ (Nat.le_refl _)]
end Go.Proofs.YtkicenkljjpcfaaGreatDoor.Q
/- slices.Equal of texts and of entries, walked. -/
set_option linter.unusedSimpArgs false
namespace Go.Proofs.YtkicenkljjpcfaaGreatDoor.Q
open Go.RowKit Go.Proofs.YtkicenkljjpcfaaGreatDoorW.PrintWords Go.Proofs.YtkicenkljjpcfaaGreatDoorW.PrintLast Go.Proofs.YtkicenkljjpcfaaGreatDoorW.PrintMore
attribute [local go_sem high] eqA101
def eqL (l k : List ByteArray) : Bool := l.map ByteArray.toList == k.map ByteArray.toList
theorem eqL_cons (x y : ByteArray) (l k : List ByteArray) : eqL (x :: l) (y :: k) = ((x.toList == y.toList) && eqL l k) := by
  unfold eqL; rw [List.map_cons, List.map_cons]; rfl
theorem eqL_long {l k : List ByteArray} (h : l.length ≠ k.length) : eqL l k = false := by
  unfold eqL
  rw [beq_eq_false_iff_ne]
  intro e
  have := congrArg List.length e
  rw [List.length_map, List.length_map] at this
  exact h this
theorem eq1_not (x y : S101) : (!(eq1 x y)) = (!((x.f0.toList == y.f0.toList)) || (!((x.f1 == y.f1)) || (!((x.f2 == y.f2)) || (!((x.f3 == y.f3)) || (!((x.f4 == y.f4)) || (!((x.f5.toList == y.f5.toList)))))))) := by
  unfold eq1; simp only [Bool.not_and]
set_option maxHeartbeats 8000000 in
set_option maxRecDepth 100000 in
theorem sequal_calls (A : Option Addr) (c : Nat) (l : List ByteArray) (B : Option Addr) (d : Nat) (k : List ByteArray) (w : World) (hr : Kd.C Kd.string w A l.length l) (hk : Kd.C Kd.string w B k.length k) (hl : l.length ≤ 2000000) (hl2 : k.length ≤ 2000000) :
    Calls Tryz.prog 99 #[.slice A l.length c, .slice B k.length d] w fun e w' => e = .returned (.bool (eqL l k)) ∧ Below w.heap.size w w' := by
  have HR := Aside0.mk hr
  have HK := Aside0.mk hk
  clear hr hk
  by_cases hn : l.length = k.length
  · have c3b0 : ((l.length : Int) == (k.length : Int)) = true := beq_iff_eq.mpr (by omega)
    have c3b1 : ((l.length : Int) != (k.length : Int)) = false := bne_eq_false_iff_eq.mpr (by omega)
    have HN := Aside0.mk hn
    clear hn
    go_enter Tryz.func99, Tryz.ntmps99
    go_wp2
    repeat (go_quiet (fail); try go_wp2)
    go_loopw [13] (fun v13 wr => ∃ i : Nat, i ≤ l.length ∧ v13 = .int .i64 i ∧ Aside0 (eqL l k = eqL (l.drop i) (k.drop i)) ∧ Aside0 (Below w.heap.size w wr)) (fun v13 _ => l.length - (intOf v13).toNat)
    case atStart => exact ⟨0, Nat.zero_le _, rfl, ⟨rfl⟩, ⟨Below.refl _ _⟩⟩
    case round =>
      obtain ⟨i, hi, rfl, HQ, HB⟩ := hrel
      by_cases hlt : i < l.length
      · have hlt2 : i < k.length := by rw [← HN.out]; exact hlt
        obtain ⟨x, hx⟩ : ∃ r, l[i]? = some r := ⟨_, List.getElem?_eq_getElem hlt⟩
        obtain ⟨y, hy⟩ : ∃ r, k[i]? = some r := ⟨_, List.getElem?_eq_getElem hlt2⟩
        obtain ⟨ad, rfl, s0⟩ := Kd.at_string (Kd.C_below HR.out HB.out) (i : Int) (by omega) (by omega)
        obtain ⟨ad2, rfl, s1⟩ := Kd.at_string (Kd.C_below HK.out HB.out) (i : Int) (by omega) (by omega)
        rw [rd9_at hx, Int.toNat_natCast] at s0
        rw [rd9_at hy, Int.toNat_natCast] at s1
        have HX : Aside0 (l.drop i = x :: l.drop (i + 1)) := ⟨by rw [List.drop_eq_getElem_cons hlt, (List.getElem?_eq_some_iff.1 hx).2]⟩
        have HY : Aside0 (k.drop i = y :: k.drop (i + 1)) := ⟨by rw [List.drop_eq_getElem_cons hlt2, (List.getElem?_eq_some_iff.1 hy).2]⟩
        have hml : i < maxLen := by unfold maxLen; omega
        clear hx hy
        cases hb : (x.toList == y.toList) with
        | true =>
          have HQ2 : Aside0 (eqL l k = eqL (l.drop (i + 1)) (k.drop (i + 1))) := ⟨by rw [HQ.out, HX.out, HY.out, eqL_cons, hb, Bool.true_and]⟩
          go_wp2
          repeat (go_quiet (fail); try go_wp2)
          go_roundw
          case rel => exact ⟨i + 1, by omega, by go_num, HQ2, ⟨by repeat (first | exact HB.out | apply pw_below_drewN | apply below_drew1)⟩⟩
          case measure => simp [intOf]; omega
        | false =>
          have HQ2 : Aside0 (eqL l k = false) := ⟨by rw [HQ.out, HX.out, HY.out, eqL_cons, hb, Bool.false_and]⟩
          go_wp2
          repeat (go_quiet (fail); try go_wp2)
          go_ret
          exact ⟨by rw [HQ2.out]; rfl, by repeat (first | exact HB.out | apply pw_below_drewN | apply below_drew1)⟩
      · obtain rfl : i = l.length := by omega
        have HQ2 : Aside0 (eqL l k = true) := ⟨by rw [HQ.out, List.drop_length, HN.out, List.drop_length]; rfl⟩
        go_wp2
        repeat (go_quiet (fail); try go_wp2)
        go_ret
        exact ⟨by rw [HQ2.out]; rfl, HB.out⟩
  · have c3b0 : ((l.length : Int) == (k.length : Int)) = false := beq_eq_false_iff_ne.mpr (by omega)
    have c3b1 : ((l.length : Int) != (k.length : Int)) = true := bne_iff_ne.mpr (by omega)
    have HQ2 : Aside0 (eqL l k = false) := ⟨eqL_long hn⟩
    clear hn
    go_enter Tryz.func99, Tryz.ntmps99
    go_wp2
    repeat (go_quiet (fail); try go_wp2)
    go_ret
    exact ⟨by rw [HQ2.out]; rfl, Below.refl _ _⟩
set_option maxHeartbeats 8000000 in
set_option maxRecDepth 100000 in
theorem eequal_calls (A : Option Addr) (c : Nat) (l : List S101) (B : Option Addr) (d : Nat) (k : List S101) (w : World) (hr : Kd.C k101 w A l.length l) (hk : Kd.C k101 w B k.length k) (hl : l.length ≤ 2000000) (hl2 : k.length ≤ 2000000) :
    Calls Tryz.prog 57 #[.slice A l.length c, .slice B k.length d] w fun e w' => e = .returned (.bool (eqE l k)) ∧ Below w.heap.size w w' := by
  have HR := Aside0.mk hr
  have HK := Aside0.mk hk
  clear hr hk
  by_cases hn : l.length = k.length
  · have c3b0 : ((l.length : Int) == (k.length : Int)) = true := beq_iff_eq.mpr (by omega)
    have c3b1 : ((l.length : Int) != (k.length : Int)) = false := bne_eq_false_iff_eq.mpr (by omega)
    have HN := Aside0.mk hn
    clear hn
    go_enter Tryz.func57, Tryz.ntmps57
    go_wp2
    repeat (go_quiet (fail); try go_wp2)
    go_loopw [13] (fun v13 wr => ∃ i : Nat, i ≤ l.length ∧ v13 = .int .i64 i ∧ Aside0 (eqE l k = eqE (l.drop i) (k.drop i)) ∧ Aside0 (Below w.heap.size w wr)) (fun v13 _ => l.length - (intOf v13).toNat)
    case atStart => exact ⟨0, Nat.zero_le _, rfl, ⟨rfl⟩, ⟨Below.refl _ _⟩⟩
    case round =>
      obtain ⟨i, hi, rfl, HQ, HB⟩ := hrel
      by_cases hlt : i < l.length
      · have hlt2 : i < k.length := by rw [← HN.out]; exact hlt
        obtain ⟨x, hx⟩ : ∃ r, l[i]? = some r := ⟨_, List.getElem?_eq_getElem hlt⟩
        obtain ⟨y, hy⟩ : ∃ r, k[i]? = some r := ⟨_, List.getElem?_eq_getElem hlt2⟩
        obtain ⟨ad, rfl, s0, s1, s2, s3, s4, s5⟩ := at_T101 (Kd.C_below HR.out HB.out) (i : Int) (by omega) (by omega)
        obtain ⟨ad2, rfl, t0, t1, t2, t3, t4, t5⟩ := at_T101 (Kd.C_below HK.out HB.out) (i : Int) (by omega) (by omega)
        rw [rd101_at hx, Int.toNat_natCast] at s0 s1 s2 s3 s4 s5
        rw [rd101_at hy, Int.toNat_natCast] at t0 t1 t2 t3 t4 t5
        have HX : Aside0 (l.drop i = x :: l.drop (i + 1)) := ⟨by rw [List.drop_eq_getElem_cons hlt, (List.getElem?_eq_some_iff.1 hx).2]⟩
        have HY : Aside0 (k.drop i = y :: k.drop (i + 1)) := ⟨by rw [List.drop_eq_getElem_cons hlt2, (List.getElem?_eq_some_iff.1 hy).2]⟩
        have hml : i < maxLen := by unfold maxLen; omega
        clear hx hy
        cases hb : eq1 x y with
        | true =>
          have hne : (!((x.f0.toList == y.f0.toList)) || (!((x.f1 == y.f1)) || (!((x.f2 == y.f2)) || (!((x.f3 == y.f3)) || (!((x.f4 == y.f4)) || (!((x.f5.toList == y.f5.toList)))))))) = false := by rw [← eq1_not, hb]; rfl
          have HQ2 : Aside0 (eqE l k = eqE (l.drop (i + 1)) (k.drop (i + 1))) := ⟨by rw [HQ.out, HX.out, HY.out, eqE, hb, Bool.true_and]⟩
          go_wp2
          repeat (go_quiet (fail); try go_wp2)
          go_roundw
          case rel => exact ⟨i + 1, by omega, by go_num, HQ2, ⟨by repeat (first | exact HB.out | apply pw_below_drewN | apply below_drew1)⟩⟩
          case measure => simp [intOf]; omega
        | false =>
          have hne : (!((x.f0.toList == y.f0.toList)) || (!((x.f1 == y.f1)) || (!((x.f2 == y.f2)) || (!((x.f3 == y.f3)) || (!((x.f4 == y.f4)) || (!((x.f5.toList == y.f5.toList)))))))) = true := by rw [← eq1_not, hb]; rfl
          have HQ2 : Aside0 (eqE l k = false) := ⟨by rw [HQ.out, HX.out, HY.out, eqE, hb, Bool.false_and]⟩
          go_wp2
          repeat (go_quiet (fail); try go_wp2)
          go_ret
          exact ⟨by rw [HQ2.out]; rfl, by repeat (first | exact HB.out | apply pw_below_drewN | apply below_drew1)⟩
      · obtain rfl : i = l.length := by omega
        have HQ2 : Aside0 (eqE l k = true) := ⟨by rw [HQ.out, List.drop_length, HN.out, List.drop_length]; rfl⟩
        go_wp2
        repeat (go_quiet (fail); try go_wp2)
        go_ret
        exact ⟨by rw [HQ2.out]; rfl, HB.out⟩
  · have c3b0 : ((l.length : Int) == (k.length : Int)) = false := beq_eq_false_iff_ne.mpr (by omega)
    have c3b1 : ((l.length : Int) != (k.length : Int)) = true := bne_iff_ne.mpr (by omega)
    have HQ2 : Aside0 (eqE l k = false) := ⟨eqE_long _ _ hn⟩
    clear hn
    go_enter Tryz.func57, Tryz.ntmps57
    go_wp2
    repeat (go_quiet (fail); try go_wp2)
    go_ret
    exact ⟨by rw [HQ2.out]; rfl, Below.refl _ _⟩
end Go.Proofs.YtkicenkljjpcfaaGreatDoor.Q
/- strings.Join at a slash, over a row that is read, by the kit's contract. -/
namespace Go.Proofs.YtkicenkljjpcfaaGreatDoor.Q
open Go.RowKit Go.Proofs.YtkicenkljjpcfaaGreatDoorW.PrintWords Go.Proofs.YtkicenkljjpcfaaGreatDoorW.PrintLast Go.Proofs.YtkicenkljjpcfaaGreatDoorW.PrintMore
theorem join_len (sep : UInt8) : ∀ l : List (List UInt8), (Lib.join l [sep]).length ≤ (l.map (fun p => p.length + 1)).sum
  | [] => Nat.zero_le _
  | x :: r => by
    rw [Lib.join_cons, List.length_append, List.map_cons, List.sum_cons]
    have : (Lib.joinTail [sep] r).length = (r.map (fun p => p.length + 1)).sum := by
      unfold Lib.joinTail
      rw [List.length_flatten, List.map_map]
      congr 1
    omega
theorem addr_of {w : World} {ad : Addr} {v : Value} (h : w.cell? ad = some v) : ad = ⟨ad.block, ad.off, none⟩ ∧ ad.block < w.heap.size := by
  refine ⟨?_, World.block_lt_of_cell? w _ h⟩
  unfold World.cell? at h
  cases ad with
  | mk b o s =>
    cases s with
    | none => rfl
    | some s =>
      exfalso
      dsimp only at h
      split at h
      · simp at h
      · cases h
theorem join_calls (A : Option Addr) (c n : Nat) (l : List ByteArray) (w : World) (h : Kd.C Kd.string w A n l) (hn : l.length = n) (hc : n ≤ c) (hz : (l.map (fun p => p.size + 1)).sum ≤ 1048577) :
    Calls Tryz.prog 100 #[.slice A n c, .string ⟨#[47]⟩] w fun e w' => ∃ r, e = .returned (.string r) ∧ Below w.heap.size w w' := by
  subst hn
  cases l with
  | nil =>
    refine (Go.Proofs.Tryz.strings_Join_none A c ⟨#[47]⟩ w).mono ?_
    rintro e w' ⟨rfl, rfl⟩
    exact ⟨_, rfl, Below.refl _ _⟩
  | cons x r =>
    generalize hL : x :: r = l at *
    have hp : 0 < l.length := by rw [← hL]; simp
    have hle : l.length ≤ (l.map (fun p => p.size + 1)).sum := by
      clear hL hp h hz hc
      induction l with
      | nil => simp
      | cons a l ih => simp only [List.length_cons, List.map_cons, List.sum_cons]; omega
    obtain ⟨ad, rfl, h0⟩ := Kd.at_string h (0 : Int) (by omega) (by omega)
    have e0 : ad.add (0 : Int).toNat = ad := rfl
    rw [e0] at h0
    obtain ⟨e1, hb⟩ := addr_of h0
    have hcells : ∀ (j : Nat) y, l[j]? = some y → w.cell? ⟨ad.block, ad.off + j, none⟩ = some (.string y) := by
      intro j y hj
      have hjl : j < l.length := (List.getElem?_eq_some_iff.1 hj).1
      obtain ⟨ad2, h2, h3⟩ := Kd.at_string h (j : Int) (by omega) (by omega)
      injection h2 with h2
      subst h2
      rw [rd9_at hj, Int.toNat_natCast] at h3
      rw [← h3]
      congr 1
      unfold Addr.add
      split
      · rename_i h4; rw [h4]; exact e1.symm
      · rfl
    have hlen : (Lib.join (l.map (·.data.toList)) (⟨#[47]⟩ : ByteArray).data.toList).length ≤ 140737488355328 := by
      refine Nat.le_trans (join_len 47 _) (Nat.le_trans (Nat.le_of_eq ?_) (Nat.le_trans hz (by omega)))
      rw [List.map_map]
      congr 1
    rw [show (some ad : Option Addr) = some ⟨ad.block, ad.off, none⟩ from by rw [← e1]]
    refine (Go.Proofs.Tryz.strings_Join ad.block ad.off c l ⟨#[47]⟩ w hcells hb (by omega) hc hlen).mono ?_
    rintro e w' ⟨rfl, hB⟩
    exact ⟨_, rfl, hB⟩
end Go.Proofs.YtkicenkljjpcfaaGreatDoor.Q
/- path.Within of the program, walked. -/
set_option linter.unusedSimpArgs false
namespace Go.Proofs.YtkicenkljjpcfaaGreatDoor.Q
open Go.RowKit Go.Proofs.YtkicenkljjpcfaaGreatDoorW.PrintWords Go.Proofs.YtkicenkljjpcfaaGreatDoorW.PrintLast Go.Proofs.YtkicenkljjpcfaaGreatDoorW.PrintMore
theorem prefix_take {α : Type} [BEq α] [LawfulBEq α] : ∀ (a b : List α), a.length ≤ b.length → a.isPrefixOf b = (a == b.take a.length)
  | [], b, _ => by simp
  | _ :: _, [], h => by simp at h
  | x :: a, y :: b, h => by
    rw [List.isPrefixOf, prefix_take a b (by simpa using h)]
    simp
theorem inP_long {u x : ByteArray} (h : (partsOf x).length < (partsOf u).length) : inP u x = false := by
  have h1 := congrArg List.length (partsOf_names u)
  have h2 := congrArg List.length (partsOf_names x)
  rw [List.length_map] at h1 h2
  unfold inP
  exact isPrefixOf_long _ _ (by omega)
theorem inP_take {u x : ByteArray} (h : (partsOf u).length ≤ (partsOf x).length) : inP u x = eqL (partsOf u) ((partsOf x).take (partsOf u).length) := by
  have h1 := congrArg List.length (partsOf_names u)
  have h2 := congrArg List.length (partsOf_names x)
  rw [List.length_map] at h1 h2
  unfold inP eqL
  rw [prefix_take _ _ (by omega), ← partsOf_names u, ← partsOf_names x, List.length_map, List.map_take]
theorem partsOf_len (x : ByteArray) : (partsOf x).length ≤ x.size + 1 := by
  have h2 := congrArg List.length (partsOf_names x)
  rw [List.length_map] at h2
  have := names_len x.toList
  rw [toList_len] at this; omega
theorem partsOf_sum (x : ByteArray) : ((partsOf x).map (fun p => p.size + 1)).sum ≤ x.size + 1 := by
  rw [map_size (partsOf_names x)]
  have := names_sum x.toList
  rw [toList_len] at this; exact this
theorem sequal2 (A : Option Addr) (c m : Nat) (l : List ByteArray) (B : Option Addr) (d n : Nat) (k : List ByteArray) (w : World) (hm : l.length = m) (hn : k.length = n) (hr : Kd.C Kd.string w A m l) (hk : Kd.C Kd.string w B n k) (hl : m ≤ 2000000) (hl2 : n ≤ 2000000) :
    Calls Tryz.prog 99 #[.slice A m c, .slice B n d] w fun e w' => e = .returned (.bool (eqL l k)) ∧ Below w.heap.size w w' := by
  subst hm; subst hn
  exact sequal_calls A c l B d k w hr hk hl hl2
theorem drop_any {w : World} {A : Option Addr} {L : List ByteArray} {m c : Nat} (h : Kd.C Kd.string w A L.length L) (hm : m ≤ L.length) (hc : L.length ≤ c) : Kd.C Kd.string w (if c = m then A else A.map (·.add m)) (L.length - m) (L.drop m) := by
  have := Kd.C_drop (c := c) h hm hc
  have h1 : Kd.string.sz = 1 := rfl
  rw [List.length_drop] at this
  simpa [h1] using this
set_option maxHeartbeats 8000000 in
set_option maxRecDepth 100000 in
theorem pwithin_calls (u x : ByteArray) (hu : u.size ≤ 1048576) (hx : x.size ≤ 1048576) (w : World) :
    Calls Tryz.prog 80 #[.string u, .string x] w fun e w' => ∃ r, e = .returned (.tuple #[.string r, .bool (inP u x)]) ∧ Below w.heap.size w w' := by
  have HP1 := Aside0.mk (parts_any u hu)
  have HP2 := Aside0.mk (parts_any x hx)
  have HL := Aside0.mk (@inP_long u x)
  have HT := Aside0.mk (@inP_take u x)
  have HZ : Aside0 ((((partsOf x).drop (partsOf u).length).map (fun p => p.size + 1)).sum ≤ 1048577) := ⟨Nat.le_trans (drop_sum _) (Nat.le_trans (partsOf_sum x) (by omega))⟩
  have hlu : (partsOf u).length ≤ 2000000 := Nat.le_trans (partsOf_len u) (by omega)
  have hlx : (partsOf x).length ≤ 2000000 := Nat.le_trans (partsOf_len x) (by omega)
  go_enter Tryz.func80, Tryz.ntmps80
  go_wp2_with (fail)
  refine (HP1.out _).mono ?_
  rintro e1 w1 ⟨A, c, rfl, hAc, hA, hB⟩
  have HB1 := Aside0.mk hB
  have HA1 := Aside0.mk hA
  clear hB hA
  go_wp2_with (fail)
  refine (HP2.out _).mono ?_
  rintro e2 w2 ⟨B, d, rfl, hBd, hBC, hB⟩
  have HB2 := Aside0.mk (below_step HB1.out hB)
  have HA := Aside0.mk (Kd.C_below HA1.out hB)
  have HBC := Aside0.mk hBC
  clear hB hBC HB1 HA1 HP1 HP2 hu hx
  generalize partsOf u = l at *
  generalize partsOf x = k at *
  by_cases h1 : k.length < l.length
  · have d1 : decide ((k.length : Int) < (l.length : Int)) = true := decide_eq_true (by omega)
    have HI := Aside0.mk (HL.out h1)
    clear HL HT
    go_wp2_with (fail)
    go_ret2
    exact ⟨⟨#[]⟩, by rw [HI.out]; rfl, HB2.out⟩
  · have d1 : decide ((k.length : Int) < (l.length : Int)) = false := decide_eq_false (by omega)
    have h2 : l.length ≤ k.length := by omega
    have HI := Aside0.mk (HT.out h2)
    have hld : l.length ≤ d := by omega
    have HTK : Aside0 (Kd.C Kd.string w2 B l.length (k.take l.length)) := ⟨by have := Kd.C_take HBC.out (m := l.length) h2; rwa [List.length_take, Nat.min_eq_left h2] at this⟩
    clear HL HT h1
    go_wp2_with (fail)
    refine (sequal2 A c l.length l B d l.length (k.take l.length) _ rfl (by rw [List.length_take]; omega) HA.out HTK.out hlu hlu).mono ?_
    rintro e3 w3 ⟨rfl, hB⟩
    have HB3 := Aside0.mk (below_step HB2.out hB)
    have HC3 := Aside0.mk (Kd.C_below (drop_any HBC.out h2 hBd) hB)
    clear hB HB2 HTK HBC HA
    generalize eqL l (k.take l.length) = t at HI ⊢
    cases t with
    | false =>
      go_wp2_with (fail)
      go_ret2
      exact ⟨⟨#[]⟩, by rw [HI.out]; rfl, HB3.out⟩
    | true =>
      by_cases hd : d = l.length
      · subst hd
        have hz0 : k.length - l.length = 0 := by omega
        rw [if_pos rfl, hz0] at HC3
        have HJ := Aside0.mk (join_calls B 0 0 (k.drop l.length) w3 HC3.out (by rw [List.length_drop, hz0]) (Nat.le_refl _) HZ.out)
        clear hz0
        clear HZ HC3
        go_wp2_with (fail)
        refine HJ.out.mono ?_
        rintro e4 w4 ⟨r, rfl, hB⟩
        have HB4 := Aside0.mk (below_step HB3.out hB)
        clear hB HB3
        go_wp2_with (fail)
        go_ret2
        exact ⟨r, by rw [HI.out]; rfl, HB4.out⟩
      · rw [if_neg hd] at HC3
        have HJ := Aside0.mk (join_calls (Option.map (fun x => x.add l.length) B) (d - l.length) (k.length - l.length) (k.drop l.length) w3 HC3.out (by rw [List.length_drop]) (by omega) HZ.out)
        clear HZ HC3
        go_wp2_with (fail)
        refine HJ.out.mono ?_
        rintro e4 w4 ⟨r, rfl, hB⟩
        have HB4 := Aside0.mk (below_step HB3.out hB)
        clear hB HB3
        go_wp2_with (fail)
        go_ret2
        exact ⟨r, by rw [HI.out]; rfl, HB4.out⟩
end Go.Proofs.YtkicenkljjpcfaaGreatDoor.Q
/- part of the program, walked. -/
set_option linter.unusedSimpArgs false
namespace Go.Proofs.YtkicenkljjpcfaaGreatDoor.Q
open Go.RowKit Go.Proofs.YtkicenkljjpcfaaGreatDoorW.PrintWords Go.Proofs.YtkicenkljjpcfaaGreatDoorW.PrintLast Go.Proofs.YtkicenkljjpcfaaGreatDoorW.PrintMore
theorem s101 : (Tryz.prog.info? 101).map (·.size) = some 6 := by kernel_rfl
theorem enc101_one (x : S101) : ∀ u ∈ ([.string x.f0, .int .i64 x.f1, .int .i64 x.f2, .int .i64 x.f3, .int .i64 x.f4, .string x.f5] : List Value), u.oneCell' = true := by
  intro u hu
  simp only [List.mem_cons, List.not_mem_nil, or_false] at hu
  rcases hu with rfl | rfl | rfl | rfl | rfl | rfl <;> rfl
theorem cells101 {w : World} {A : Option Addr} {n : Nat} {l : List S101} (h : Kd.C k101 w A n l) (i : Nat) (h1 : i < n) (x : S101) (hx : l[i]? = some x) : ∃ ad, A = some ad ∧ ∀ j v, ([.string x.f0, .int .i64 x.f1, .int .i64 x.f2, .int .i64 x.f3, .int .i64 x.f4, .string x.f5] : List Value)[j]? = some v → w.cell? ((ad.add (i * 6)).add j) = some v := by
  obtain ⟨ad, c, e, _, hK, hc0⟩ := Kd.C_get h x (i : Int) (by omega) (by omega)
  have hg : l.getD (i : Int).toNat x = x := by rw [Int.toNat_natCast, List.getD_eq_getElem?_getD, hx]; rfl
  rw [hg] at hK
  rw [Int.toNat_natCast] at hc0
  have hK' := k101_open hK
  subst hK'
  exact ⟨ad, e, fun j v hv => by rw [Go.Deep.add_add]; exact hc0 j v hv⟩
theorem partP_yes {l : List S101} {u : ByteArray} {k : Nat} {x : S101} (h : l[k]? = some x) (hi : inP u x.f0 = true) : partP (l.take (k + 1)) u = partP (l.take k) u ++ [x] := by
  unfold partP; rw [List.take_add_one, h, List.filter_append]; simp [hi]
theorem partP_no {l : List S101} {u : ByteArray} {k : Nat} {x : S101} (h : l[k]? = some x) (hi : inP u x.f0 = false) : partP (l.take (k + 1)) u = partP (l.take k) u := by
  unfold partP; rw [List.take_add_one, h, List.filter_append]; simp [hi]
set_option maxHeartbeats 8000000 in
set_option maxRecDepth 100000 in
theorem ppart_calls (A : Option Addr) (c n : Nat) (l : List S101) (u : ByteArray) (w : World) (hr : Kd.C k101 w A n l) (hn : l.length = n) (hl : n ≤ 10000 ∧ ∀ e ∈ l, e.f0.size ≤ 1048576) (hu : u.size ≤ 1048576) :
    Calls Tryz.prog 58 #[.slice A n c, .string u] w fun e w' => ∃ v, e = .returned v ∧ Kd.R k101 101 w' w.heap.size (fun _ => True) v (partP l u) ∧ Below w.heap.size w w' := by
  subst hn
  have HC := Aside0.mk hr
  have HL := Aside0.mk hl.2
  have hl1 : l.length ≤ 10000 := hl.1
  have HU := Aside0.mk hu
  clear hr hl hu
  go_enter Tryz.func58, Tryz.ntmps58
  go_wp2_with (fail)
  go_loopw [5, 12] (fun v5 v12 wr => ∃ k : Nat, k ≤ l.length ∧ v12 = .int .i64 k ∧ Aside0 (Kd.R k101 101 wr w.heap.size (fun _ => True) v5 (partP (l.take k) u)) ∧ Aside0 (Below w.heap.size w wr)) (fun _ v12 _ => l.length - (intOf v12).toNat)
  case atStart => exact ⟨0, Nat.zero_le _, rfl, ⟨Kd.R_nil k101 101 w w.heap.size _⟩, ⟨Below.refl _ _⟩⟩
  case round =>
    obtain ⟨k, hk, rfl, HO, HB⟩ := hrel
    by_cases hlt : k < l.length
    · obtain ⟨x, hx⟩ : ∃ r, l[k]? = some r := ⟨_, List.getElem?_eq_getElem hlt⟩
      obtain ⟨ad, rfl, hcell⟩ := cells101 (Kd.C_below HC.out HB.out) k hlt x hx
      have HCE := Aside0.mk hcell
      have HM := Aside0.mk hx
      have HXL : Aside0 (x.f0.size ≤ 1048576) := ⟨HL.out x (List.mem_of_getElem? hx)⟩
      have hml : k < maxLen := by unfold maxLen; omega
      have HML : Aside0 (k ≤ 10000) := ⟨by omega⟩
      clear hcell hx
      go_upto_region 5 with (first | ((with_reducible refine gate_dst (N := 15) rfl ?_); refine wpList_load_any (by rfl) 101 (.tmp 14) rfl (ad.add (k * 6)) rfl [.string x.f0, .int .i64 x.f1, .int .i64 x.f2, .int .i64 x.f3, .int .i64 x.f4, .string x.f5] _ (HCE.out) Tryz.underlying101 rfl s101 ?_) | ((with_reducible refine gate_dst (N := 7) rfl ?_); refine box_event ?hg (N := 7) ?hd (cs := #[.string ⟨#[]⟩, .int .i64 0, .int .i64 0, .int .i64 0, .int .i64 0, .string ⟨#[]⟩]) (t := 101) ?hr ?_; (case hd => rfl); (case hg => rfl); (case hr => first | (go_simp; done) | (go_simp; rfl)); intro gx hg wx hbox hb; have HZ := Aside0.mk hbox; have HGX := Aside0.mk hg; have HBX := Aside0.mk hb; clear hg hbox hb) | (refine wpList_store_new rfl 101 (.tmp 7) (.tmp 15) rfl gx _ [.string x.f0, .int .i64 x.f1, .int .i64 x.f2, .int .i64 x.f3, .int .i64 x.f4, .string x.f5] 101 rfl rfl HZ.out rfl s101 (enc101_one x) ?_; intro wy hy1 hy2; have HX := Aside0.mk hy1; have HBY : Aside0 (Below wr.heap.size wr wy) := ⟨below_grown HBX.out hy2 HBX.out.size (fun k hk => by injection hk with hk; rw [← hk, HGX.out]; exact Nat.le_refl _)⟩; clear hy1 hy2 HZ HBX))
      have HB2 := Aside0.mk (below_step HB.out HBY.out)
      have HO2 := Aside0.mk (Kd.R_below HO.out HBY.out)
      clear HGX HBY HB HO HCE
      have x0 : wy.cell? ⟨gx, 0, none⟩ = some (.string x.f0) := (blk_cell HX.out 0).trans rfl
      go_wp2_with (fail)
      refine (pwithin_calls u x.f0 HU.out HXL.out _).mono ?_
      rintro e3 w3 ⟨r, rfl, hB⟩
      have HB3 := Aside0.mk (below_step HB2.out hB)
      have HO3 := Aside0.mk (Kd.R_below HO2.out hB)
      have HX3 := Aside0.mk (blk_below HX.out hB)
      clear hB HB2 HO2 HX x0
      have HB2 := HB3
      have HO2 := HO3
      clear HB3 HO3
      cases hb : inP u x.f0 with
      | false =>
        have HN := Aside0.mk (partP_no HM.out hb)
        go_wp2_with (fail)
        go_roundw
        case rel => exact ⟨k + 1, hlt, by go_simp, ⟨by rw [HN.out]; exact HO2.out⟩, HB2⟩
        case measure => simp [intOf]; omega
      | true =>
        have HN := Aside0.mk (partP_yes HM.out hb)
        go_wp2_with (first | ((with_reducible refine gate_dst (N := 25) rfl ?_); refine wpList_load_any (by rfl) 101 (.tmp 7) rfl ⟨gx, 0, none⟩ rfl [.string x.f0, .int .i64 x.f1, .int .i64 x.f2, .int .i64 x.f3, .int .i64 x.f4, .string x.f5] _ (cells_blk HX3.out) Tryz.underlying101 rfl s101 ?_) | ((with_reducible refine gate_builtin (b := .append) (xs := #[.tmp 24, .tmp 26]) rfl ?_); at_builtin; refine Kd.R_append k101 (w0 := w) w.heap.size rfl (.tmp 24) (.tmp 26) 24 101 (.agg #[.string ⟨#[]⟩, .int .i64 0, .int .i64 0, .int .i64 0, .int .i64 0, .string ⟨#[]⟩]) 64 rfl Tryz.underlying24 info101 rfl (by decide) (by omega) u5 (partP (l.take k) u) x [.string x.f0, .int .i64 x.f1, .int .i64 x.f2, .int .i64 x.f3, .int .i64 x.f4, .string x.f5] (fun _ => True) (fun _ => False) rfl rfl ?aP (fun _ hk => hk.elim) ?aF ?aO ?aB ?aS ?aL ?_; (case aP => exact k101_mkM _ _ _ x); (case aB => exact HB2.out); (case aF => exact fun _ _ => trivial); (case aO => exact HO2.out); (case aS => exact below_size HB2.out); (case aL => have := partP_len (l.take k) u; have := List.length_take_le k l; have := HML.out; omega); intro v182 w9 ho hb hg hat; have HOZ := Aside0.mk ho; have HBZ := Aside0.mk hb; clear ho hb hg hat HO2 HB2))
        go_roundw
        case rel => exact ⟨k + 1, hlt, by go_simp, ⟨by rw [HN.out]; exact HOZ.out⟩, HBZ⟩
        case measure => simp [intOf]; omega
    · obtain rfl : k = l.length := by omega
      go_wp2_with (fail)
      go_ret
      exact ⟨_, rfl, by have := HO.out; rwa [List.take_length] at this, HB.out⟩
end Go.Proofs.YtkicenkljjpcfaaGreatDoor.Q
