/- path.Less at any two texts of at most 300 bytes: strings.Split at "/", slices.Compare, walked. -/
import Derived.Test.YtkbofkpkemfedaaDoorHLess
import Derived.Lib.SmallJoins


namespace Go.Proofs.YtkbofkpkemfedaaDoor.Q
open Go.RowKit Go.Proofs.YtkbofkpkemfedaaDoorW.PrintWords Go.Proofs.YtkbofkpkemfedaaDoorW.PrintLast Go.Proofs.YtkbofkpkemfedaaDoorW.PrintMore
attribute [local go_sem] max2_int min2_int max_two min_two max_three min_three max_four min_four
/-- Where a slash stands first; -1: nowhere. -/
def ixs (s : ByteArray) : Int := Lib.indexByte s.data.toList 47
def cts (s : ByteArray) : Nat := Lib.countByte s.data.toList 47
/-- What stands between slashes; at most n of them are looked for. -/
def splitN : Nat → ByteArray → List ByteArray
  | 0, s => [s]
  | n + 1, s => if ixs s < 0 then [s] else s.extract 0 (ixs s).toNat :: splitN n (s.extract ((ixs s).toNat + 1) s.size)
def partsOf (s : ByteArray) : List ByteArray := if s.size = 0 then [] else splitN (cts s) s
set_option maxHeartbeats 1000000 in
set_option maxRecDepth 100000 in
theorem count_any (s : ByteArray) (w : World) : Calls Tryd.prog 26 #[.string s, .string ⟨#[47]⟩] w fun e w' => e = .returned (.int .i64 (cts s)) ∧ w' = w := by
  go_enter Tryd.func26, Tryd.ntmps26
  go_wp2
  rw [run_callFunc_extern Tryd.func30 (by kernel_rfl) (by kernel_rfl) (by kernel_rfl) (e := Extern.BytealgCount.count) (by kernel_rfl), Lib.run_countString]
  simp only [Result.andThen]
  rw [Oper.upon_value]
  go_wp2
  go_ret
  exact ⟨rfl, rfl⟩
set_option maxHeartbeats 1000000 in
set_option maxRecDepth 100000 in
theorem indexByte_any (s : ByteArray) (w : World) : Calls Tryd.prog 33 #[.string s, .int .u8 47] w fun e w' => e = .returned (.int .i64 (ixs s)) ∧ w' = w := by
  go_enter Tryd.func33, Tryd.ntmps33
  go_wp2
  rw [run_callFunc_extern Tryd.func37 (by kernel_rfl) (by kernel_rfl) (by kernel_rfl) (e := Extern.BytealgIndexByte.indexByte) (by kernel_rfl), Lib.run_indexByteString]
  simp only [Result.andThen]
  rw [Oper.upon_value]
  go_wp2
  go_ret
  exact ⟨rfl, rfl⟩
theorem toList_loop (s : ByteArray) : ∀ (n i : Nat) (r : List UInt8), s.size - i = n → ByteArray.toList.loop s i r = r.reverse ++ s.data.toList.drop i
  | 0, i, r, h => by
    have hl : s.data.toList.length = s.size := by rw [Array.length_toList]; rfl
    rw [ByteArray.toList.loop, if_neg (by omega), List.drop_eq_nil_of_le (by omega), List.append_nil]
  | n + 1, i, r, h => by
    have hl : s.data.toList.length = s.size := by rw [Array.length_toList]; rfl
    have hi : i < s.data.toList.length := by omega
    have hi2 : i < s.data.size := by rw [← Array.length_toList]; exact hi
    rw [ByteArray.toList.loop, if_pos (by omega), toList_loop s n (i + 1) _ (by omega), List.reverse_cons, List.append_assoc, List.drop_eq_getElem_cons hi]
    have e : s.get! i = s.data.toList[i] := by
      show s.data[i]! = _
      rw [getElem!_pos s.data i hi2]
      simp
    rw [e]
    rfl
theorem toList_data (s : ByteArray) : s.toList = s.data.toList := by
  unfold ByteArray.toList
  rw [toList_loop s s.size 0 [] (by omega)]
  simp
theorem eq_of_toList {a b : ByteArray} (h : a.toList = b.toList) : a = b := by
  rw [toList_data, toList_data] at h
  cases a; cases b
  simp only [ByteArray.mk.injEq]
  exact Array.toList_inj.1 h
set_option maxHeartbeats 1000000 in
set_option maxRecDepth 100000 in
theorem index31 (s : ByteArray) (w : World) : Calls Tryd.prog 31 #[.string s, .string ⟨#[47]⟩] w fun e w' => e = .returned (.int .i64 (ixs s)) ∧ w' = w := by
  by_cases hs : s = ⟨#[47]⟩
  · subst hs
    have h0 : ixs ⟨#[47]⟩ = 0 := by decide
    rw [h0]
    go_enter Tryd.func31, Tryd.ntmps31
    go_wp2_with (fail)
    go_ret
    exact ⟨rfl, rfl⟩
  · have hne : ((⟨#[47]⟩ : ByteArray).toList == s.toList) = false := beq_eq_false_iff_ne.mpr (fun h => hs (eq_of_toList h).symm)
    have h47 : (⟨#[47]⟩ : ByteArray).toList = [47] := by decide +kernel
    have hne2 : ([47] == s.toList) = false := by rw [← hne, h47]
    go_enter Tryd.func31, Tryd.ntmps31
    go_wp2_with (go_at_call 33; refine (indexByte_any s _).mono ?_; rintro e w1 ⟨rfl, rfl⟩)
    go_ret
    exact ⟨rfl, rfl⟩
set_option maxHeartbeats 1000000 in
set_option maxRecDepth 100000 in
theorem index_any (s : ByteArray) (w : World) : Calls Tryd.prog 27 #[.string s, .string ⟨#[47]⟩] w fun e w' => e = .returned (.int .i64 (ixs s)) ∧ w' = w := by
  go_enter Tryd.func27, Tryd.ntmps27
  go_wp2_with (go_at_call 31; refine (index31 s _).mono ?_; rintro e w1 ⟨rfl, rfl⟩)
  go_ret
  exact ⟨rfl, rfl⟩
theorem cts_le (s : ByteArray) : cts s ≤ s.size := by
  unfold cts Lib.countByte
  have h := List.count_le_length (a := (47 : UInt8)) (l := s.data.toList)
  rwa [Array.length_toList] at h
theorem madeCells_one (n : Nat) : (madeCells (Value.string ⟨#[]⟩).cells (n * 1)).toList = List.replicate n (.string ⟨#[]⟩) := by
  rw [Nat.mul_one]
  rw [List.eq_replicate_iff]
  refine ⟨by rw [Array.length_toList, size_madeCells], fun v hv => ?_⟩
  simp only [madeCells, Value.cells, Array.toList_map, List.mem_map] at hv
  obtain ⟨j, _, rfl⟩ := hv
  simp [Nat.mod_one]
theorem add_off (g n : Nat) : (⟨g, 0, none⟩ : Addr).add n = ⟨g, n, none⟩ := by
  unfold Addr.add
  split <;> simp_all
theorem C_of_cells {W : World} {g : Nat} {cs : Array Value} (h : W.heap[g]? = some (.cells cs 9 (0, 0))) (l : List ByteArray) (hl : l.length ≤ 1000) (hc : ∀ (j : Nat) (p : ByteArray), l[j]? = some p → cs[j]? = some (Value.string p)) : Kd.C Kd.string W (some ⟨g, 0, none⟩) l.length l := by
  refine ⟨rfl, by omega, fun _ => ⟨⟨g, 0, none⟩, rfl, fun j p hj => ⟨[.string p], rfl, rfl, fun i u hu => ?_⟩⟩⟩
  match i, hu with
  | 0, hu =>
    simp only [List.getElem?_cons_zero, Option.some.injEq] at hu
    subst hu
    rw [show j * Kd.string.sz + 0 = j from by show j * 1 + 0 = j; omega, add_off, blk_cell h]
    exact hc j p hj
theorem ixs_lt (s : ByteArray) : -1 ≤ ixs s ∧ (ixs s < s.size ∨ ixs s = -1) := by
  have h : ∀ l : List UInt8, -1 ≤ Lib.indexByte l 47 ∧ (Lib.indexByte l 47 < l.length ∨ Lib.indexByte l 47 = -1) := by
    intro l
    induction l with
    | nil => exact ⟨Int.le_refl _, .inr rfl⟩
    | cons b l ih =>
      unfold Lib.indexByte
      split
      · simp
      · split
        · simp
        · rename_i h1 h2
          have h3 : Lib.indexByte l 47 ≠ -1 := by simpa using h2
          simp only [List.length_cons]
          omega
  have h1 := h s.data.toList
  unfold ixs
  rw [Array.length_toList] at h1
  exact h1
theorem make_n (n : Nat) (hn : n ≤ 400) (W : World) : ∃ cs : Array Value, cs.toList = List.replicate n (.string ⟨#[]⟩) ∧ (Instr.makeSlice 40 (.int .i64 (n : Int)) (.int .i64 (n : Int))).run Tryd.prog W = .ok (.slice (some ⟨W.heap.size, 0, none⟩) n n) (W.alloc (.cells cs 9)) := by
  obtain ⟨i, hi, hz⟩ := Option.map_eq_some_iff.1 info9
  simp only [Prod.mk.injEq] at hz
  have h := run_makeSlice (P := Tryd.prog) W 40 9 i (.string ⟨#[]⟩) Tryd.underlying40 hi hz.1 .i64 .i64 n n (by omega) (by omega) (by rw [hz.2.1, Int.toNat_natCast]; omega) (by rw [hz.2.2]; omega) (by omega)
  rw [hz.2.1] at h
  simp only [Int.toNat_natCast] at h
  exact ⟨_, madeCells_one n, h⟩
set_option maxHeartbeats 1000000 in
set_option maxRecDepth 100000 in
theorem genSplit_any (s : ByteArray) (hs : s.size ≤ 300) (w : World) : Calls Tryd.prog 24 #[.string s, .string ⟨#[47]⟩, .int .i64 0, .int .i64 (-1)] w fun e w' => ∃ A c, e = .returned (.slice A (splitN (cts s) s).length c) ∧ (splitN (cts s) s).length ≤ c ∧ Kd.C Kd.string w' A (splitN (cts s) s).length (splitN (cts s) s) ∧ Below w.heap.size w w' := by
  have hle := cts_le s
  have hmk := make_n (cts s + 1) (by omega) w
  obtain ⟨cs0, hcs0, hrun⟩ := hmk
  generalize hN : cts s = N at hle hcs0 hrun ⊢
  have hcm : ((N + 1 : Nat) : Int) = (N : Int) + 1 := by omega
  rw [hcm] at hrun
  have hcount := count_any s w
  rw [hN] at hcount
  go_enter Tryd.func24, Tryd.ntmps24
  go_wp2_with (go_at_call 26; refine hcount.mono ?_; rintro e w1 ⟨rfl, rfl⟩)
  have HB1 : Aside0 (Below w1.heap.size w1 (w1.alloc (.cells cs0 9))) := ⟨below_alloc (Below.refl _ _) _⟩
  have HK1 : Aside0 ((w1.alloc (.cells cs0 9)).heap[w1.heap.size]? = some (.cells cs0 9 (0, 0))) := ⟨blk_new _ _⟩
  have HN := Aside0.mk (show N ≤ 300 by omega)
  obtain ⟨gb, hgb⟩ : ∃ gb, gb = w1.heap.size := ⟨_, rfl⟩
  have HGB : Aside0 (w1.heap.size ≤ gb) := ⟨by omega⟩
  rw [← hgb] at HK1 hrun ⊢
  have HBk := HB1
  obtain ⟨w2, hw2⟩ : ∃ w2, w2 = w1.alloc (.cells cs0 9) := ⟨_, rfl⟩
  rw [← hw2] at HK1 HBk ⊢
  have HS := Aside0.mk hs
  have HC0 := Aside0.mk hcs0
  clear hw2 HB1 hrun hcount hcm hle hs hcs0 hN hgb
  go_loopw [0, 10, 11] (fun v0 v10 v11 w' => ∃ (i : Nat) (rest : ByteArray) (done : List ByteArray) (cs : Array Value), v0 = .string rest ∧ v10 = .int .i64 (i : Int) ∧ Aside0 (i ≤ N ∧ done.length = i ∧ rest.size ≤ 300 ∧ done ++ splitN (N - i) rest = splitN N s) ∧ Aside0 (w'.heap[gb]? = some (.cells cs 9 (0, 0)) ∧ cs.toList = done.map Value.string ++ List.replicate (N + 1 - i) (.string ⟨#[]⟩)) ∧ Aside0 (Below w1.heap.size w1 w')) (fun _ v10 _ _ => N + 1 - (intOf v10).toNat)
  case atStart => exact ⟨0, s, [], cs0, rfl, rfl, ⟨by omega, rfl, HS.out, rfl⟩, ⟨HK1.out, by simpa using HC0.out⟩, HBk⟩
  case round =>
    clear HK1 HBk HC0
    obtain ⟨i, rest, done, cs, rfl, rfl, HR, HK, HBW⟩ := hrel
    obtain ⟨hi, hd, hr, hsp⟩ := HR.out
    have hix := ixs_lt rest
    have hNN := HN.out
    have hind := index_any rest wr
    have hcsz : cs.size = N + 1 := by
      have h := congrArg List.length HK.out.2
      rw [Array.length_toList, List.length_append, List.length_map, List.length_replicate, hd] at h
      omega
    have hlt : i < cs.size := by omega
    have hcl : wr.cell? ⟨gb, i, none⟩ = some cs[i] := (blk_cell HK.out.1 _).trans (Array.getElem?_eq_getElem hlt)
    have hfz : wr.frozen? ⟨gb, i, none⟩ = false := blk_frozen HK.out.1 _
    have hput : ∀ x : ByteArray, (cs.setIfInBounds i (.string x)).toList = (done ++ [x]).map Value.string ++ List.replicate (N + 1 - (i + 1)) (.string ⟨#[]⟩) := by
      intro x
      rw [Array.toList_setIfInBounds, HK.out.2]
      rw [show N + 1 - i = (N + 1 - (i + 1)) + 1 from by omega, List.replicate_succ]
      rw [List.set_append_right _ _ (by rw [List.length_map, hd]; exact Nat.le_refl _), List.length_map, hd, Nat.sub_self]
      simp
    have HP := Aside0.mk hput
    clear hput
    generalize hm : ixs rest = m at hix hind
    by_cases c2 : i < N
    · by_cases c3 : m < 0
      · have c3b : decide (m < 0) = true := decide_eq_true c3
        have hend : done ++ [rest] = splitN N s := by
          rw [← hsp, show N - i = (N - (i + 1)) + 1 from by omega]
          conv => rhs; rw [splitN, hm, if_pos c3]
        have hlen : (splitN N s).length = i + 1 := by rw [← hend, List.length_append, hd]; rfl
        have HE := Aside0.mk hend
        have HLn := Aside0.mk hlen
        clear hend hlen
        go_wp2_with (go_at_call 27; refine hind.mono ?_; rintro e w4 ⟨rfl, rfl⟩)
        go_ret
        refine ⟨some ⟨gb, 0, none⟩, N + 1, by rw [HLn.out]; first | rfl | (simp; done) | (simp; omega), by rw [HLn.out]; omega, ?_, below_set HBW.out HGB.out⟩
        refine C_of_cells (Go.Joins.block_setCell HK.out.1 _) _ (by rw [HLn.out]; omega) (fun j p hj => ?_)
        have h3 := congrArg (·[j]?) (HP.out rest)
        have hjl : j < (done ++ [rest]).length := by rw [HE.out]; exact (List.getElem?_eq_some_iff.1 hj).1
        rw [← HE.out] at hj
        simp only [Array.getElem?_toList] at h3
        rw [h3, List.getElem?_append_left (by rw [List.length_map]; exact hjl), List.getElem?_map, hj]
        rfl
      · have c3b : decide (m < 0) = false := decide_eq_false c3
        have c4 := eq_true (show 0 ≤ m by omega)
        have c5 := eq_true (show m ≤ (rest.size : Int) by omega)
        have c6 := eq_true (show 0 ≤ m + 1 by omega)
        have c7 := eq_true (show m + 1 ≤ (rest.size : Int) by omega)
        go_wp2_with (go_at_call 27; refine hind.mono ?_; rintro e w4 ⟨rfl, rfl⟩)
        have hsz : (rest.extract (m + 1).toNat rest.size).size ≤ 300 := by simp only [ByteArray.size_extract]; omega
        have hsp2 : (done ++ [rest.extract 0 m.toNat]) ++ splitN (N - (i + 1)) (rest.extract (m + 1).toNat rest.size) = splitN N s := by
          rw [← hsp, show N - i = (N - (i + 1)) + 1 from by omega]
          conv => rhs; rw [splitN, hm, if_neg (by omega)]
          rw [List.append_assoc, show m.toNat + 1 = (m + 1).toNat from by omega]
          rfl
        have HF := Aside0.mk (And.intro hsz hsp2)
        clear hsz hsp2
        go_roundw
        case rel => exact ⟨i + 1, rest.extract (m + 1).toNat rest.size, done ++ [rest.extract 0 m.toNat], cs.setIfInBounds i (.string (rest.extract 0 m.toNat)), rfl, by first | rfl | (go_num; done), ⟨by omega, by rw [List.length_append, hd]; rfl, HF.out.1, HF.out.2⟩, ⟨Go.Joins.block_setCell HK.out.1 _, HP.out _⟩, ⟨below_set HBW.out HGB.out⟩⟩
        case measure => (simp [intOf]; omega)
    · have hiN : i = N := by omega
      subst hiN
      have c3b : decide ((i : Int) < (i : Int)) = false := decide_eq_false (by omega)
      have hend : done ++ [rest] = splitN i s := by
        rw [← hsp, Nat.sub_self]
        rfl
      have hlen : (splitN i s).length = i + 1 := by rw [← hend, List.length_append, hd]; rfl
      have HE := Aside0.mk hend
      have HLn := Aside0.mk hlen
      clear hend hlen
      go_wp2_with (fail)
      go_ret
      refine ⟨some ⟨gb, 0, none⟩, i + 1, by rw [HLn.out]; first | rfl | (simp; done) | (simp; omega), by rw [HLn.out]; omega, ?_, below_set HBW.out HGB.out⟩
      refine C_of_cells (Go.Joins.block_setCell HK.out.1 _) _ (by rw [HLn.out]; omega) (fun j p hj => ?_)
      have h3 := congrArg (·[j]?) (HP.out rest)
      have hjl : j < (done ++ [rest]).length := by rw [HE.out]; exact (List.getElem?_eq_some_iff.1 hj).1
      rw [← HE.out] at hj
      simp only [Array.getElem?_toList] at h3
      rw [h3, List.getElem?_append_left (by rw [List.length_map]; exact hjl), List.getElem?_map, hj]
      rfl
/-! ### Two texts, two lists of texts -/
def cmpS (a b : ByteArray) : Int := if Op.bytesLess a.toList b.toList = true then -1 else if (!(Op.bytesLess a.toList b.toList || a.toList == b.toList)) = true then 1 else 0
def cmpL : List ByteArray → List ByteArray → Int
  | [], [] => 0
  | [], _ :: _ => -1
  | _ :: _, [] => 1
  | x :: xs, y :: ys => if cmpS x y = 0 then cmpL xs ys else cmpS x y
/-- Whether a path stands ahead of another one. -/
def lessP (p q : ByteArray) : Bool := decide (cmpL (partsOf p) (partsOf q) < 0)
set_option maxHeartbeats 1000000 in
set_option maxRecDepth 100000 in
theorem cmp_any (a b : ByteArray) (w : World) : Calls Tryd.prog 20 #[.string a, .string b] w fun e w' => e = .returned (.int .i64 (cmpS a b)) ∧ Drawn0 w w' := by
  have ea : cmp_isNaN_string.f a = some false := by unfold cmp_isNaN_string.f; simp
  have eb : cmp_isNaN_string.f b = some false := by unfold cmp_isNaN_string.f; simp
  unfold cmpS
  generalize h1 : Op.bytesLess a.toList b.toList = l
  generalize h2 : (a.toList == b.toList) = q
  cases l <;> cases q
  all_goals
    go_enter Tryd.func20, Tryd.ntmps20
    go_wp2_with (first | (go_at_call 23; (with_reducible refine (cmp_isNaN_string.calls a _ _ ea).mono ?_); rintro e w1 ⟨rfl, m, rfl⟩) | (go_at_call 23; (with_reducible refine (cmp_isNaN_string.calls b _ _ eb).mono ?_); rintro e w1 ⟨rfl, m, rfl⟩))
    go_ret
    exact ⟨rfl, by repeat (first | exact Drawn0.refl _ | apply Drawn0.step)⟩
set_option maxHeartbeats 1000000 in
set_option maxRecDepth 100000 in
theorem compare_any (A0 : Option Addr) (c0 : Nat) (l0 : List ByteArray) (A1 : Option Addr) (c1 : Nat) (l1 : List ByteArray) (w : World) (hr0 : Kd.C Kd.string w A0 l0.length l0) (hr1 : Kd.C Kd.string w A1 l1.length l1) (hl0 : l0.length ≤ 1000) (hl1 : l1.length ≤ 1000) :
    Calls Tryd.prog 16 #[.slice A0 l0.length c0, .slice A1 l1.length c1] w fun e w' => e = .returned (.int .i64 (cmpL l0 l1)) ∧ Below w.heap.size w w' := by
  have HR0 := Aside0.mk hr0
  have HR1 := Aside0.mk hr1
  have HL0 := Aside0.mk hl0
  have HL1 := Aside0.mk hl1
  clear hr0 hr1 hl0 hl1
  generalize hR : cmpL l0 l1 = R
  go_enter Tryd.func16, Tryd.ntmps16
  go_wp2_with (fail)
  go_loopw [11] (fun v11 w' => ∃ (x : Int) (m : Nat), v11 = .int .i64 x ∧ Aside0 (0 ≤ x ∧ x ≤ l0.length ∧ x ≤ l1.length ∧ cmpL (l0.drop x.toNat) (l1.drop x.toNat) = R) ∧ w' = w.drewN m) (fun v11 _ => l0.length + 1 - (intOf v11).toNat)
  case atStart => exact ⟨0, 0, rfl, ⟨by omega, by omega, by omega, hR⟩, rfl⟩
  case round =>
    clear hR
    obtain ⟨x, m, rfl, HX, rfl⟩ := hrel
    obtain ⟨h0, h1, h2, h3⟩ := HX.out
    have hz0 := HL0.out
    have hz1 := HL1.out
    by_cases c2 : x < (l0.length : Int)
    · have c2b0 : decide (x < (l0.length : Int)) = true := decide_eq_true c2
      have p0 := eq_true h0
      have p1 := eq_true c2
      have hl : x.toNat < l0.length := by omega
      by_cases c3 : x < (l1.length : Int)
      · have c3b0 : decide (x ≥ (l1.length : Int)) = false := decide_eq_false (by omega)
        have c3b1 : decide ((l1.length : Int) ≤ x) = false := decide_eq_false (by omega)
        have p2 := eq_true c3
        have hl' : x.toNat < l1.length := by omega
        obtain ⟨ad0, e0, hx0⟩ := Kd.at_string (Kd.C_drewN HR0.out m) x h0 c2
        cases e0
        obtain ⟨ad1, e1, hx1⟩ := Kd.at_string (Kd.C_drewN HR1.out m) x h0 c3
        cases e1
        have hcm : (if cmpS (rdOf ByteArray.empty l0 x) (rdOf ByteArray.empty l1 x) = 0 then cmpL (l0.drop (x.toNat + 1)) (l1.drop (x.toNat + 1)) else cmpS (rdOf ByteArray.empty l0 x) (rdOf ByteArray.empty l1 x)) = R := by
          rw [List.drop_eq_getElem_cons hl, List.drop_eq_getElem_cons hl', cmpL] at h3
          have e2 : rdOf ByteArray.empty l0 x = l0[x.toNat] := by unfold rdOf; simp [List.getD_eq_getElem?_getD, List.getElem?_eq_getElem hl]
          have e3 : rdOf ByteArray.empty l1 x = l1[x.toNat] := by unfold rdOf; simp [List.getD_eq_getElem?_getD, List.getElem?_eq_getElem hl']
          rw [e2, e3]
          exact h3
        generalize hA : rdOf ByteArray.empty l0 x = a at hx0 hcm
        generalize hB : rdOf ByteArray.empty l1 x = b at hx1 hcm
        have hcc := fun W => cmp_any a b W
        generalize hV : cmpS a b = V at hcm hcc
        clear h3 hA hB hV
        by_cases c4 : V = 0
        · subst c4
          rw [if_pos rfl] at hcm
          have HCM := Aside0.mk hcm
          clear hcm
          go_wp2_with (go_at_call 20; refine (hcc _).mono ?_; rintro e w1 ⟨rfl, m1, rfl⟩)
          go_roundw
          case rel => exact ⟨x + 1, m + m1, by first | rfl | (go_num; done), ⟨by omega, by omega, by omega, by rw [show (x + 1).toNat = x.toNat + 1 from by omega]; exact HCM.out⟩, by first | rfl | (simp; done)⟩
          case measure => (simp [intOf]; omega)
        · rw [if_neg c4] at hcm
          subst hcm
          have c4b : (V == 0) = false := beq_eq_false_iff_ne.mpr c4
          have c4c : (V != 0) = true := bne_iff_ne.mpr c4
          go_wp2_with (go_at_call 20; refine (hcc _).mono ?_; rintro e w1 ⟨rfl, m1, rfl⟩)
          go_ret
          exact ⟨rfl, pw_below_drewN (Below.refl _ _) _⟩
      · have c3b0 : decide (x ≥ (l1.length : Int)) = true := decide_eq_true (by omega)
        have c3b1 : decide ((l1.length : Int) ≤ x) = true := decide_eq_true (by omega)
        obtain ⟨ad0, e0, hx0⟩ := Kd.at_string (Kd.C_drewN HR0.out m) x h0 c2
        cases e0
        have hcm : R = 1 := by
          have hn : l1.drop x.toNat = [] := List.drop_eq_nil_of_le (by omega)
          rw [List.drop_eq_getElem_cons hl, hn, cmpL] at h3
          exact h3.symm
        clear h3
        subst hcm
        go_wp2_with (fail)
        go_ret
        exact ⟨rfl, pw_below_drewN (Below.refl _ _) _⟩
    · have hxl : x = l0.length := by omega
      subst hxl
      by_cases c5 : l0.length < l1.length
      · have hcm : R = -1 := by
          have hn : l0.drop ((l0.length : Int)).toNat = [] := List.drop_eq_nil_of_le (by omega)
          rw [hn, List.drop_eq_getElem_cons (show ((l0.length : Int)).toNat < l1.length by omega), cmpL] at h3
          exact h3.symm
        clear h3
        subst hcm
        go_wp2_with (fail)
        go_ret
        exact ⟨rfl, pw_below_drewN (Below.refl _ _) _⟩
      · have hcm : R = 0 := by
          have hn : l0.drop ((l0.length : Int)).toNat = [] := List.drop_eq_nil_of_le (by omega)
          have hn' : l1.drop ((l0.length : Int)).toNat = [] := List.drop_eq_nil_of_le (by omega)
          rw [hn, hn', cmpL] at h3
          exact h3.symm
        clear h3
        subst hcm
        have c5b : decide (l0.length < l1.length) = false := decide_eq_false c5
        go_wp2_with (fail)
        go_ret
        exact ⟨rfl, pw_below_drewN (Below.refl _ _) _⟩
theorem splitN_len : ∀ (n : Nat) (s : ByteArray), (splitN n s).length ≤ n + 1
  | 0, s => by simp [splitN]
  | n + 1, s => by
    rw [splitN]
    split
    · simp
    · have := splitN_len n (s.extract ((ixs s).toNat + 1) s.size)
      simp only [List.length_cons]
      omega
set_option maxHeartbeats 1000000 in
set_option maxRecDepth 100000 in
theorem split_any (s : ByteArray) (hs : s.size ≤ 300) (w : World) : Calls Tryd.prog 21 #[.string s, .string ⟨#[47]⟩] w fun e w' => ∃ A c, e = .returned (.slice A (splitN (cts s) s).length c) ∧ (splitN (cts s) s).length ≤ c ∧ Kd.C Kd.string w' A (splitN (cts s) s).length (splitN (cts s) s) ∧ Below w.heap.size w w' := by
  have hg := fun W => genSplit_any s hs W
  generalize splitN (cts s) s = l at hg ⊢
  go_enter Tryd.func21, Tryd.ntmps21
  go_wp2_with (go_at_call 24; refine (hg _).mono ?_; rintro e w1 ⟨A, c, rfl, h1, h2, h3⟩)
  go_ret
  exact ⟨A, c, rfl, h1, h2, h3⟩
set_option maxHeartbeats 1000000 in
set_option maxRecDepth 100000 in
theorem parts_any (s : ByteArray) (hs : s.size ≤ 300) (w : World) : Calls Tryd.prog 17 #[.string s] w fun e w' => ∃ A c, e = .returned (.slice A (partsOf s).length c) ∧ (partsOf s).length ≤ c ∧ Kd.C Kd.string w' A (partsOf s).length (partsOf s) ∧ Below w.heap.size w w' := by
  unfold partsOf
  by_cases h : s.size = 0
  · have he : s = ⟨#[]⟩ := by
      cases s with
      | mk d =>
        have : d.size = 0 := h
        rw [Array.eq_empty_of_size_eq_zero this]
    subst he
    have h0 : (⟨#[]⟩ : ByteArray).size = 0 := rfl
    simp only [h0, if_true]
    go_enter Tryd.func17, Tryd.ntmps17
    go_wp2_with (fail)
    go_ret
    exact ⟨none, 0, rfl, Nat.le_refl _, Kd.C_nil Kd.string _, Below.refl _ _⟩
  · rw [if_neg h]
    have hne : (s.toList == (⟨#[]⟩ : ByteArray).toList) = false := beq_eq_false_iff_ne.mpr (fun e => h (by rw [eq_of_toList e]; rfl))
    have hne2 : (s.toList == []) = false := by rw [← hne]; congr 1; decide +kernel
    have hne3 : (s.toList.isEmpty) = false := by
      cases ht : s.toList with
      | nil => rw [ht] at hne2; simp at hne2
      | cons a l => rfl
    have hg := fun W => split_any s hs W
    generalize splitN (cts s) s = l at hg ⊢
    go_enter Tryd.func17, Tryd.ntmps17
    go_wp2_with (go_at_call 21; refine (hg _).mono ?_; rintro e w1 ⟨A, c, rfl, h1, h2, h3⟩)
    go_ret
    exact ⟨A, c, rfl, h1, h2, h3⟩
set_option maxHeartbeats 1000000 in
set_option maxRecDepth 100000 in
/-- path.Less, of at most 300 bytes each. -/
theorem less_any (p q : ByteArray) (hp : p.size ≤ 300) (hq : q.size ≤ 300) (w : World) : Calls Tryd.prog 14 #[.string p, .string q] w fun e w' => e = .returned (.bool (lessP p q)) ∧ Below w.heap.size w w' := by
  have lp : (partsOf p).length ≤ 1000 := by
    unfold partsOf
    split
    · simp
    · have := splitN_len (cts p) p
      have := cts_le p
      omega
  have lq : (partsOf q).length ≤ 1000 := by
    unfold partsOf
    split
    · simp
    · have := splitN_len (cts q) q
      have := cts_le q
      omega
  have h1 := fun W => parts_any p hp W
  have h2 := fun W => parts_any q hq W
  unfold lessP
  generalize partsOf p = l1 at h1 lp ⊢
  generalize partsOf q = l2 at h2 lq ⊢
  have LP := Aside0.mk lp
  have LQ := Aside0.mk lq
  clear lp lq
  go_enter Tryd.func14, Tryd.ntmps14
  go_wp2_with (first
    | (go_at_call 16; refine (compare_any A1 c1 l1 A2 c2 l2 w2 HC1.out HC2.out LP.out LQ.out).mono ?_; rintro e w3 ⟨rfl, hb⟩; have HB3 := Aside0.mk (below_step HB2.out hb); clear hb)
    | (go_at_call 17; (with_reducible refine (h1 w).mono ?_); rintro e w1 ⟨A1, c1, rfl, hc, hr, hb⟩; have HR1 := Aside0.mk hr; have HB1 := Aside0.mk hb; clear hc hr hb)
    | (go_at_call 17; (with_reducible refine (h2 w1).mono ?_); rintro e w2 ⟨A2, c2, rfl, hc, hr, hb⟩; have HC2 := Aside0.mk hr; have HC1 := Aside0.mk (Kd.C_below HR1.out hb); have HB2 := Aside0.mk (below_step HB1.out hb); clear hc hr hb))
  go_ret
  exact ⟨rfl, HB3.out⟩
end Go.Proofs.YtkbofkpkemfedaaDoor.Q
