/- Of the proofs about sweep: several texts, joined. -/
import Derived.Test.YtoiedcnhojkpiaaMB
import Derived.Test.YtoiedcnhojkpiaaMA
import Derived.Test.YtoiedcnhojkpiaaMH
import Derived.Test.YtoiedcnhojkpiaaMN
namespace Go.Proofs.Ytoiedcnhojkpiaa.Q
open Go.RowKit Go.Maps Go.Sort Go.Proofs.YtoiedcnhojkpiaaW.PrintWords Go.Proofs.YtoiedcnhojkpiaaW.PrintLast Go.Proofs.YtoiedcnhojkpiaaW.PrintMore
/-- A store of true into a set, by a literal. -/
theorem wpList_insert_set (w : World) {ops : Array Oper} {rest : List Oper} {o : Oper} {a : Act} {Q : Exit → Act → World → Prop} (hg : o.guard = none) (m x v : Operand) (t : TypeId) (hop : o.op = Op.insert t m x v) (ht : Try.prog.underlying t = some (.map 9 4)) (b n : Nat) (p : List UInt8 → Bool)
    (hm : a.eval m = .map (some b)) (hown : SetAt w b n p) (hn : n < maxLen) (s : ByteArray) (hs : s.size ≤ maxLen) (hx : a.eval x = .string s) (hv : a.eval v = .bool true)
    (hK : ∀ w', SetAt w' b (n + 1) (fun y => p y || y == s.data.toList) → w.grownBy w' (some b) → wpList Try.prog ops Q rest (a.put o.dst undef) w') : wpList Try.prog ops Q (o :: rest) a w := by
  obtain ⟨D, h1, h2, h3⟩ := hown
  refine wpList_plain hg fun K' hK' => ?_
  obtain ⟨w', hrun, r1, r2⟩ := h1.update law9 ht hn (WideMaps.keyOf_string_mk Try.underlying9 hs) (plainElem_bool Try.underlying4 true)
  unfold Oper.wp
  simp [execOp, hop, hm, hx, hv, hrun, Result.andThen]
  exact hK' _ _ (hK w' (SetAt.put h1 h2 h3 hs r1) r2)
/-- Cells stay while a set is written. -/
theorem SetAt.cell {w w1 : World} {b m : Nat} {p : List UInt8 → Bool} (hm : SetAt w b m p) (hg : w.grownBy w1 (some b)) {a : Addr} {v : Value} (h : w.cell? a = some v) : w1.cell? a = some v := by
  obtain ⟨D, ⟨es, clock, hb, _⟩, _⟩ := hm
  have hne : a.block ≠ b := by
    intro e
    unfold World.cell? at h
    rw [e, hb] at h
    simp at h
  rw [World.cell?_of_block (hg.block a.block (World.block_lt_of_cell? w a h) (fun e => hne (by injection e)))]
  exact h
theorem Kd.C_keep {w w1 : World} {A : Option Addr} {n b m : Nat} {xs : List ByteArray} {p : List UInt8 → Bool} (h : Kd.C Kd.string w A n xs) (hm : SetAt w b m p) (hg : w.grownBy w1 (some b)) : Kd.C Kd.string w1 A n xs :=
  ⟨h.1, h.2.1, fun hn => by
    obtain ⟨ad, e, hc⟩ := h.2.2 hn
    refine ⟨ad, e, fun j p hj => ?_⟩
    obtain ⟨c, hs, hr, hcell⟩ := hc j p hj
    exact ⟨c, hs, hr, fun i u hu => hm.cell hg (hcell i u hu)⟩⟩
/-- What one that is found reaches. -/
def gives (x : S63) : List ByteArray := if x.f1.f1 = 2 then [x.f1.f7] else if x.f1.f1 = 1 then x.f1.f6 else []
def reachL (l : List S63) (root : ByteArray) : List ByteArray := root :: l.flatMap gives
theorem memb_append (l r : List ByteArray) (x : List UInt8) : memb (l ++ r) x = (memb l x || memb r x) := by simp [memb]
theorem reach_take (l : List S63) (root : ByteArray) (k : Nat) (h : k < l.length) (x : List UInt8) : memb (reachL (l.take (k + 1)) root) x = (memb (reachL (l.take k) root) x || memb (gives l[k]) x) := by
  rw [← memb_append]
  unfold reachL
  rw [List.take_succ_eq_append_getElem h, List.flatMap_append, List.cons_append]
  simp
set_option maxHeartbeats 4000000 in
set_option maxRecDepth 100000 in
theorem reach_calls (A : Option Addr) (c : Nat) (l : List S63) (root : ByteArray) (w : World) (hr : Kd.C k63 w A l.length l) (hl : l.length ≤ 60) (hs0 : root.size ≤ maxLen) (hs : ∀ x ∈ l, x.f1.f6.length ≤ 60 ∧ x.f1.f7.size ≤ maxLen ∧ ∀ s ∈ x.f1.f6, s.size ≤ maxLen) :
    Calls Try.prog 19 #[.slice A l.length c, .string root] w fun e w' => ∃ (v : Value) (rs : List ByteArray), e = .returned v ∧ Kd.R Kd.string 9 w' w.heap.size (fun _ => True) v rs ∧ Rising rs ∧ (∀ s, s ∈ rs ↔ s ∈ reachL l root) ∧ Below w.heap.size w w' := by
  have HR := Aside0.mk hr
  have HS := Aside0.mk hs
  have hmm := @run_makeMap Try.prog
  clear hr hs
  go_enter Try.func19, Try.ntmps19
  go_wp2_with (first
    | (refine wpList_insert_set _ rfl _ _ _ 81 rfl Try.underlying81 w.heap.size 0 _ rfl (SetAt.made w) (by unfold maxLen; omega) root hs0 rfl rfl ?_; intro w1 hm1 hg1; have HM1 := Aside0.mk hm1; have HB1 := Aside0.mk (below_map ((Below.refl w.heap.size w).alloc (Nat.le_refl _) (.map #[] 0)) hg1 (by simp) (Nat.le_refl _)); clear hm1 hg1))
  go_loopw [15] (fun i wr => ∃ k : Nat, k ≤ l.length ∧ i = .int .i64 k ∧ Aside0 (SetAt wr w.heap.size (1 + 61 * k) (memb (reachL (l.take k) root))) ∧ Aside0 (Below w.heap.size w wr)) (fun i _ => l.length - (intOf i).toNat)
  case atStart => exact ⟨0, Nat.zero_le _, rfl, ⟨HM1.out.congr (fun x => by simp [memb, reachL])⟩, HB1⟩
  case round =>
    clear HM1 HB1
    obtain ⟨k, hk, rfl, HM, HB⟩ := hrel
    by_cases hlt : k < l.length
    · obtain ⟨ad, A7, c7, rfl, h0, h1, h2, h3, h4, h5, h6, h7, h8, h9, hle, hC⟩ := at_T63 (Kd.C_below HR.out HB.out) (k : Int) (by omega) (by omega)
      have hd : rd_T63 l (k : Int) = l[k] := by unfold rd_T63; simp [List.getD_eq_getElem?_getD, List.getElem?_eq_getElem hlt]
      rw [hd, Int.toNat_natCast] at h0 h1 h2 h3 h4 h5 h6 h7 h8 h9
      rw [hd] at hle hC
      have HMT := Aside0.mk (reach_take l root k hlt)
      obtain ⟨hx6, hx7, hx8⟩ := HS.out _ (List.getElem_mem hlt)
      clear hd
      generalize l[k] = x at h0 h1 h2 h3 h4 h5 h6 h7 h8 h9 hle hC HMT hx6 hx7 hx8
      have HC := Aside0.mk hC
      have HX8 := Aside0.mk hx8
      clear hC hx8
      by_cases c2 : x.f1.f1 = 2
      · have c2b : (x.f1.f1 == 2) = true := beq_iff_eq.mpr c2
        have HE : Aside0 (∀ y, (memb (reachL (l.take k) root) y || y == x.f1.f7.data.toList) = memb (reachL (l.take (k + 1)) root) y) := ⟨fun y => by rw [HMT.out]; unfold gives; rw [if_pos c2]; simp [memb]⟩
        clear c2
        go_wp2_with (first
          | (at_mapUpdate; refine wpList_update_set _ rfl _ _ _ 81 rfl Try.underlying81 w.heap.size (1 + 61 * k) _ rfl (HM.out.below (below_alloc (Below.refl _ _) _)) (by unfold maxLen; omega) x.f1.f7 hx7 rfl rfl ?_; intro w1 hm1 hg1; have HM1 := Aside0.mk (hm1.congr HE.out); have HB1 := Aside0.mk (below_map (HB.out.alloc HB.out.size _) hg1 (by have := HB.out.size; simp; omega) (Nat.le_refl _)); clear hm1 hg1))
        go_roundw
        case rel => exact ⟨k + 1, by omega, by go_num, ⟨HM1.out.mono (by omega)⟩, HB1⟩
        case measure => simp [intOf]; omega
      · have c2b : (x.f1.f1 == 2) = false := beq_eq_false_iff_ne.mpr c2
        by_cases c3 : x.f1.f1 = 1
        · have c3b : (x.f1.f1 == 1) = true := beq_iff_eq.mpr c3
          have HE : Aside0 (∀ y, (memb (reachL (l.take k) root) y || memb x.f1.f6 y) = memb (reachL (l.take (k + 1)) root) y) := ⟨fun y => by rw [HMT.out]; unfold gives; rw [if_neg c2, if_pos c3]⟩
          clear c2 c3
          go_wp2_with (fail)
          have HB1 : Aside0 (Below wr.heap.size wr (wr.alloc (.cells #[.string x.f0, .string x.f1.f0, .int .i64 x.f1.f1, .int .i64 x.f1.f2, .int .i64 x.f1.f3, .int .i64 x.f1.f4, .int .i64 x.f1.f5, .slice A7 x.f1.f6.length c7, .string x.f1.f7, .string x.f1.f8] 62))) := ⟨below_alloc (Below.refl _ _) _⟩
          generalize (wr.alloc (.cells #[.string x.f0, .string x.f1.f0, .int .i64 x.f1.f1, .int .i64 x.f1.f2, .int .i64 x.f1.f3, .int .i64 x.f1.f4, .int .i64 x.f1.f5, .slice A7 x.f1.f6.length c7, .string x.f1.f7, .string x.f1.f8] 62)) = wo at HB1 ⊢
          have HMo := Aside0.mk (HM.out.below HB1.out)
          have HBo := Aside0.mk (below_step HB.out HB1.out)
          have HCo := Aside0.mk (Kd.C_below HC.out HB1.out)
          clear HM HB HC HB1 h0 h1 h2 h3 h4 h5 h6 h7 h8 h9
          go_loopw [34] (fun i2 w2 => ∃ j : Nat, j ≤ x.f1.f6.length ∧ i2 = .int .i64 j ∧ Aside0 (SetAt w2 w.heap.size (1 + 61 * k + j) (fun y => memb (reachL (l.take k) root) y || memb (x.f1.f6.take j) y)) ∧ Aside0 (Below w.heap.size w w2) ∧ Aside0 (Kd.string.C w2 A7 x.f1.f6.length x.f1.f6)) (fun i2 _ => x.f1.f6.length - (intOf i2).toNat)
          case atStart => exact ⟨0, Nat.zero_le _, rfl, ⟨HMo.out.congr (fun y => by simp [memb])⟩, HBo, HCo⟩
          case round =>
            clear HMo HBo HCo
            obtain ⟨j, hj, rfl, HM, HB, HC⟩ := hrel
            by_cases hlt2 : j < x.f1.f6.length
            · obtain ⟨ad2, rfl, hx⟩ := Kd.at_string HC.out (j : Int) (by omega) (by omega)
              have hd : rdOf ByteArray.empty x.f1.f6 (j : Int) = x.f1.f6[j] := by unfold rdOf; simp [List.getD_eq_getElem?_getD, List.getElem?_eq_getElem hlt2]
              rw [hd, Int.toNat_natCast] at hx
              have HT := Aside0.mk (memb_take x.f1.f6 j hlt2)
              have hsk : (x.f1.f6[j]).size ≤ maxLen := HX8.out _ (List.getElem_mem hlt2)
              clear hd
              generalize x.f1.f6[j] = s at hx HT hsk
              go_wp2_with (first
                | (at_mapUpdate; refine wpList_update_set _ rfl _ _ _ 81 rfl Try.underlying81 w.heap.size (1 + 61 * k + j) _ rfl HM.out (by unfold maxLen; omega) s hsk rfl rfl ?_; intro w1 hm1 hg1; have HM1 := Aside0.mk (hm1.congr (q := fun y => memb (reachL (l.take k) root) y || memb (x.f1.f6.take (j + 1)) y) (fun y => by rw [HT.out, Bool.or_assoc])); have HC1 := Aside0.mk (Kd.C_keep HC.out HM.out hg1); have HB1 := Aside0.mk (below_map HB.out hg1 HB.out.size (Nat.le_refl _)); clear hm1 hg1))
              go_roundw
              case rel => exact ⟨j + 1, by omega, by go_num, HM1, HB1, HC1⟩
              case measure => simp [intOf]; omega
            · obtain rfl : j = x.f1.f6.length := by omega
              have HM2 : Aside0 (SetAt wr w.heap.size (1 + 61 * (k + 1)) (memb (reachL (l.take (k + 1)) root))) := ⟨(HM.out.congr (fun y => by rw [List.take_length]; exact HE.out y)).mono (by omega)⟩
              go_wp2_with (fail)
              go_roundw
              case rel => exact ⟨k + 1, by omega, by go_num, HM2, HB⟩
              case measure => simp [intOf]; omega
        · have c3b : (x.f1.f1 == 1) = false := beq_eq_false_iff_ne.mpr c3
          have HM2 : Aside0 (SetAt wr w.heap.size (1 + 61 * (k + 1)) (memb (reachL (l.take (k + 1)) root))) := ⟨(HM.out.congr (fun y => by rw [HMT.out]; unfold gives; rw [if_neg c2, if_neg c3]; simp [memb])).mono (by omega)⟩
          clear c2 c3
          go_wp2_with (fail)
          go_roundw
          case rel => exact ⟨k + 1, by omega, by go_num, ⟨HM2.out.below (below_alloc (Below.refl _ _) _)⟩, ⟨HB.out.alloc HB.out.size _⟩⟩
          case measure => simp [intOf]; omega
    · obtain rfl : k = l.length := by omega
      go_wp2_with (first | (go_at_call 34; refine (rising_calls w.heap.size (1 + 61 * l.length) _ wr HM.out (by omega)).mono ?_; rintro e w1 ⟨v, rs, rfl, hR, hri, hm, hln, hB⟩; have HF : Aside0 (Kd.R Kd.string 9 w1 w.heap.size (fun _ => True) v rs ∧ Rising rs ∧ (∀ s, s ∈ rs ↔ s ∈ reachL l root) ∧ Below w.heap.size w w1) := ⟨Kd.R_lower hR HB.out.size, hri, fun s => by rw [hm, memb_iff, List.take_length], below_step HB.out hB⟩; clear hR hri hm hln hB))
      go_ret
      obtain ⟨q1, q2, q3, q4⟩ := HF.out
      exact ⟨v, rs, rfl, q1, q2, q3, q4⟩
end Go.Proofs.Ytoiedcnhojkpiaa.Q
-- Made by wip/qprint.sh (a patched copy of the kit's print program) out of the translation. Lean checks it.
namespace Go.Proofs.Ytoiedcnhojkpiaa.Q
open Go.RowKit Go.Proofs.YtoiedcnhojkpiaaW.PrintWords Go.Proofs.YtoiedcnhojkpiaaW.PrintLast Go.Proofs.YtoiedcnhojkpiaaW.PrintMore
attribute [local go_sem] max2_int min2_int max_two min_two max_three min_three max_four min_four   -- for this text's walks alone
set_option linter.unusedVariables false
set_option linter.unusedSimpArgs false

/-! ### garretref29_Reach: function 20 -/
mutual
def garretref29_Reach.l0 : Nat → List (S63) → List ByteArray → Int → Option (List ByteArray)
  | 0, _, _, _ => none
  | k + 1, x0, x5, x6 => if x6 < (x0.length : Int) then (if 0 ≤ x6 then (if ((rd_T63 x0 x6).f1.f1) = 2 then ((garretref29_rising.f k x5 ((rd_T63 x0 x6).f1.f7)).bind fun t405 => (garretref29_Reach.l0 k x0 t405 (wrap64 (x6 + 1)))) else (if ((rd_T63 x0 x6).f1.f1) = 1 then (garretref29_Reach.l1 k x0 x5 x6 0 ((rd_T63 x0 x6).f1.f0) ((rd_T63 x0 x6).f1.f1) ((rd_T63 x0 x6).f1.f2) ((rd_T63 x0 x6).f1.f3) ((rd_T63 x0 x6).f1.f4) ((rd_T63 x0 x6).f1.f5) ((rd_T63 x0 x6).f1.f6) ((rd_T63 x0 x6).f1.f7) ((rd_T63 x0 x6).f1.f8)) else (garretref29_Reach.l0 k x0 x5 (wrap64 (x6 + 1))))) else (none)) else (some x5)
def garretref29_Reach.l1 : Nat → List (S63) → List ByteArray → Int → Int → ByteArray → Int → Int → Int → Int → Int → List ByteArray → ByteArray → ByteArray → Option (List ByteArray)
  | 0, _, _, _, _, _, _, _, _, _, _, _, _, _ => none
  | k + 1, x0, x5, x6, x8, x405000, x405001, x405002, x405003, x405004, x405005, x405006, x405007, x405008 => if x8 < (x405006.length : Int) then (if 0 ≤ x8 then ((garretref29_rising.f k x5 (rdOf ByteArray.empty x405006 x8)).bind fun t409 => (garretref29_Reach.l1 k x0 t409 x6 (wrap64 (x8 + 1)) x405000 x405001 x405002 x405003 x405004 x405005 x405006 x405007 x405008)) else (none)) else (garretref29_Reach.l0 k x0 x5 (wrap64 (x6 + 1)))
end
def garretref29_Reach.f (k : Nat) (l0 : List (S63)) (a1 : ByteArray) : Option (List ByteArray) := garretref29_Reach.l0 k l0 (([a1] : List ByteArray)) 0
theorem garretref29_Reach.mono_l : ∀ k, (∀ y0 y1 y2, LeO (garretref29_Reach.l0 k y0 y1 y2) (garretref29_Reach.l0 (k + 1) y0 y1 y2)) ∧ (∀ y0 y1 y2 y3 y4 y5 y6 y7 y8 y9 y10 y11 y12, LeO (garretref29_Reach.l1 k y0 y1 y2 y3 y4 y5 y6 y7 y8 y9 y10 y11 y12) (garretref29_Reach.l1 (k + 1) y0 y1 y2 y3 y4 y5 y6 y7 y8 y9 y10 y11 y12))
  | 0 => ⟨fun _ _ _ r h => by simp [garretref29_Reach.l0] at h, fun _ _ _ _ _ _ _ _ _ _ _ _ _ r h => by simp [garretref29_Reach.l1] at h⟩
  | k + 1 => by
    obtain ⟨ih0, ih1⟩ := garretref29_Reach.mono_l k
    refine ⟨?_, ?_⟩
    · intro y0 y1 y2
      unfold garretref29_Reach.l0
      repeat' first
      | (with_reducible exact ih0 _ _ _)
      | (with_reducible exact ih1 _ _ _ _ _ _ _ _ _ _ _ _ _)
      | (with_reducible exact garretref29_rising.mono _ _ _)
      | (with_reducible exact LeO.refl _)
      | (with_reducible exact LeO.none _)
      | (with_reducible refine LeO.ite ?_ ?_)
      | (with_reducible refine LeO.bind ?_ (fun _ => ?_))
      | exact ih0 _ _ _
      | exact ih1 _ _ _ _ _ _ _ _ _ _ _ _ _
      | exact garretref29_rising.mono _ _ _
      | exact LeO.none _
      | refine LeO.ite ?_ ?_
      | refine LeO.bind ?_ (fun _ => ?_)
    · intro y0 y1 y2 y3 y4 y5 y6 y7 y8 y9 y10 y11 y12
      unfold garretref29_Reach.l1
      repeat' first
      | (with_reducible exact ih0 _ _ _)
      | (with_reducible exact ih1 _ _ _ _ _ _ _ _ _ _ _ _ _)
      | (with_reducible exact garretref29_rising.mono _ _ _)
      | (with_reducible exact LeO.refl _)
      | (with_reducible exact LeO.none _)
      | (with_reducible refine LeO.ite ?_ ?_)
      | (with_reducible refine LeO.bind ?_ (fun _ => ?_))
      | exact ih0 _ _ _
      | exact ih1 _ _ _ _ _ _ _ _ _ _ _ _ _
      | exact garretref29_rising.mono _ _ _
      | exact LeO.none _
      | refine LeO.ite ?_ ?_
      | refine LeO.bind ?_ (fun _ => ?_)
theorem garretref29_Reach.mono : ∀ a0 a1 k, LeO (garretref29_Reach.f k a0 a1) (garretref29_Reach.f (k + 1) a0 a1) := by
  intro a0 a1 k
  obtain ⟨ih0, ih1⟩ := garretref29_Reach.mono_l k
  unfold garretref29_Reach.f
  repeat' first
      | (with_reducible exact ih0 _ _ _)
      | (with_reducible exact ih1 _ _ _ _ _ _ _ _ _ _ _ _ _)
      | (with_reducible exact garretref29_rising.mono _ _ _)
      | (with_reducible exact LeO.refl _)
      | (with_reducible exact LeO.none _)
      | (with_reducible refine LeO.ite ?_ ?_)
      | (with_reducible refine LeO.bind ?_ (fun _ => ?_))
      | exact ih0 _ _ _
      | exact ih1 _ _ _ _ _ _ _ _ _ _ _ _ _
      | exact garretref29_rising.mono _ _ _
      | exact LeO.none _
      | refine LeO.ite ?_ ?_
      | refine LeO.bind ?_ (fun _ => ?_)
set_option maxHeartbeats 8000000 in
set_option maxRecDepth 100000 in
theorem garretref29_Reach.calls (k : Nat) (A0 : Option Addr) (c0 : Nat) (l0 : List (S63)) (a1 : ByteArray) (r : List ByteArray) (w : World) (hr0 : Kd.C k63 w A0 l0.length l0) (hc0 : l0.length ≤ c0) (h : garretref29_Reach.f k l0 a1 = some r) :
    Calls Try.prog 20 #[.slice A0 l0.length c0, .string a1] w fun e w' => ∃ v0_ : Value, e = .returned (v0_) ∧ Kd.R Kd.string 9 w' w.heap.size (fun _ => True) v0_ r ∧ Below w.heap.size w w' := by
  have hu59 := Try.underlying59
  have HR0 := Aside0.mk hr0
  have HC0 := Aside0.mk hc0
  clear hr0 hc0
  have HB := Aside0.mk (Below.refl w.heap.size w)
  have H : (garretref29_Reach.l0 k l0 (([a1] : List ByteArray)) 0) = some r := h
  clear h
  obtain ⟨y400, hy400⟩ : ∃ y_ : List ByteArray, y_ = (([a1] : List ByteArray)) := ⟨_, rfl⟩
  replace H : (garretref29_Reach.l0 k l0 y400 0) = some r := by first | (rw [hy400]; with_reducible exact H) | (have H2_ := (Option.bind_some _ _).symm.trans H; rw [hy400]; with_reducible exact H2_) | (have H2_ := (Option.bind_some _ _).symm.trans H; with_reducible exact H2_) | with_reducible exact H | (rw [hy400]; exact H) | exact H
  have Ny400 := Aside0.mk hy400
  clear hy400
  have H' := Aside0.mk H
  clear H
  go_enter Try.func20, Try.ntmps20
  go_wp2_with (first | ((with_reducible refine gate_dst (N := 10) rfl ?_); refine Kd.R_lit Kd.string _ 9 ?hg (N := 10) ?hd (xs := ([a1] : List ByteArray)) (inner := [.string a1]) (ok := fun _ => True) (okp := fun _ => True) ?hr ?hp (fun _ hk => hk) trivial (Below.refl _ _) (Nat.le_refl _) (by simp) ?_; (case hd => rfl); (case hg => rfl); (case hr => first | (go_simp; done) | (go_simp; rfl)); (case hp => exact (Reps.one (show Kd.M Kd.string _ _ _ a1 [.string a1] from rfl) (Reps.none _ _))); intro v401 w3 ho4 hb hg_ hnew_; clear hg_ hnew_; (first | rw [← Ny400.out] at ho4 | (simp only [Int.reduceToNat] at ho4; rw [← Ny400.out] at ho4)); have n0_ := Aside0.mk (Kd.R_lower ho4 (below_size (by repeat (first | (with_reducible first | exact HB.out | apply below_alloc | apply pw_below_drewN | apply below_drew1) | exact HB.out)))); have n1_ := Aside0.mk (below_step (by repeat (first | (with_reducible first | exact HB.out | apply below_alloc | apply pw_below_drewN | apply below_drew1) | exact HB.out)) hb); clear HB; have HO402 := n0_; have HB := n1_; clear n0_ n1_; clear hb ho4))
  go_loopg [5, 6] k (fun kq v5 v6 w' => ∃ (x5_1 : List ByteArray) (x6_1 : Int), v6 = .int .i64 x6_1 ∧ Aside0 (garretref29_Reach.l0 kq l0 x5_1 x6_1 = some r) ∧ Aside0 (kq ≤ k) ∧ Aside0 (Kd.R Kd.string 9 w' w.heap.size (fun _ => True) v5 x5_1) ∧ Aside0 (Below w.heap.size w w'))
  case atStart => exact ⟨(y400), (0), (by first | rfl | (simp; done) | (simp [*]; done)), H', ⟨Nat.le_refl _⟩, ⟨by (with_reducible repeat (first | apply Kd.R_alloc | apply Kd.R_drewN | apply Kd.R_drew)); exact HO402.out⟩, ⟨by repeat (first | (with_reducible first | exact HB.out | apply below_alloc | apply pw_below_drewN | apply below_drew1) | exact HB.out)⟩⟩
  case round =>
    clear H'
    try clear c2
    try clear p2
    obtain ⟨x5_1, x6_1, rfl, HA, HK1, HO_5, HB⟩ := hrel
    cases gk with
    | zero => exact absurd HA.out (by simp [garretref29_Reach.l0])
    | succ k1 =>
      have H := HA.out
      clear HA
      simp only [garretref29_Reach.l0] at H
      by_cases c5 : x6_1 < (l0.length : Int)
      · rw [if_pos c5] at H
        have c5b0 : decide (x6_1 < (l0.length : Int)) = true := decide_eq_true c5
        clear c5
        by_cases c6 : 0 ≤ x6_1
        · rw [if_pos c6] at H
          have c6b0 : decide (0 ≤ x6_1) = true := decide_eq_true c6
          clear c6
          by_cases c7 : ((rd_T63 l0 x6_1).f1.f1) = 2
          · rw [if_pos c7] at H
            have c7b0 : (((rd_T63 l0 x6_1).f1.f1) == 2) = true := beq_iff_eq.mpr c7
            have c7b1 : (((rd_T63 l0 x6_1).f1.f1) != 2) = false := bne_eq_false_iff_eq.mpr c7
            clear c7
            replace H := Option.bind_eq_some_iff.mp H
            obtain ⟨t405, A80, H⟩ := H
            replace H : (garretref29_Reach.l0 k1 l0 t405 (wrap64 (x6_1 + 1))) = some r := H
            have A8 := Aside0.mk A80
            clear A80
            have H' := Aside0.mk H
            clear H
            have p403 : 0 ≤ (x6_1 : Int) := of_decide_eq_true (by first | (with_reducible assumption) | assumption)
            have q403 : x6_1 < (l0.length : Int) := of_decide_eq_true (by first | (with_reducible assumption) | assumption)
            obtain ⟨ad403, A403_7, c403_7, e403, hx403_0, hx403_1, hx403_2, hx403_3, hx403_4, hx403_5, hx403_6, hx403_7, hx403_8, hx403_9, hl403_7, hi403_7⟩ := at_T63 HR0.out x6_1 p403 q403
            cases e403
            replace hx403_0 := (HB.out.cell (World.block_lt_of_cell? w _ hx403_0)).trans hx403_0
            replace hx403_1 := (HB.out.cell (World.block_lt_of_cell? w _ hx403_1)).trans hx403_1
            replace hx403_2 := (HB.out.cell (World.block_lt_of_cell? w _ hx403_2)).trans hx403_2
            replace hx403_3 := (HB.out.cell (World.block_lt_of_cell? w _ hx403_3)).trans hx403_3
            replace hx403_4 := (HB.out.cell (World.block_lt_of_cell? w _ hx403_4)).trans hx403_4
            replace hx403_5 := (HB.out.cell (World.block_lt_of_cell? w _ hx403_5)).trans hx403_5
            replace hx403_6 := (HB.out.cell (World.block_lt_of_cell? w _ hx403_6)).trans hx403_6
            replace hx403_7 := (HB.out.cell (World.block_lt_of_cell? w _ hx403_7)).trans hx403_7
            replace hx403_8 := (HB.out.cell (World.block_lt_of_cell? w _ hx403_8)).trans hx403_8
            replace hx403_9 := (HB.out.cell (World.block_lt_of_cell? w _ hx403_9)).trans hx403_9
            have HR403_7 := Aside0.mk hi403_7
            have HC403_7 := Aside0.mk hl403_7
            clear hi403_7 hl403_7
            replace p403 := eq_true p403
            replace q403 := eq_true q403
            go_wp2_with (first | ((with_reducible refine gate_dst (N := 7) rfl ?_); refine box_event ?hg (N := 7) ?hd (cs := #[.string (⟨#[]⟩ : ByteArray), .int .i64 0, .int .i64 0, .int .i64 0, .int .i64 0, .int .i64 0, .slice none 0 0, .string (⟨#[]⟩ : ByteArray), .string (⟨#[]⟩ : ByteArray)]) (t := 59) ?hr ?_; (case hd => rfl); (case hg => rfl); (case hr => first | (go_simp; done) | (go_simp; rfl)); intro gb404 hg w9 hbox hb; have n0_ := Aside0.mk (Kd.R_below (by (with_reducible repeat (first | apply Kd.R_alloc | apply Kd.R_drewN | apply Kd.R_drew)); exact HO_5.out) hb); have n1_ := Aside0.mk (below_step (by repeat (first | (with_reducible first | exact HB.out | apply below_alloc | apply pw_below_drewN | apply below_drew1) | exact HB.out)) hb); have n2_ := Aside0.mk (hbox); have n3_ := Aside0.mk ((by rw [hg]; exact (below_size (by repeat (first | (with_reducible first | exact HB.out | apply below_alloc | apply pw_below_drewN | apply below_drew1) | exact HB.out))) : w.heap.size ≤ gb404)); have n4_ := Aside0.mk ((by rw [hg]; exact (below_size (by repeat (first | (with_reducible first | exact HB.out | apply below_alloc | apply pw_below_drewN | apply below_drew1) | exact HB.out))) : w.heap.size ≤ gb404)); clear HO_5; clear HB; have HO_5 := n0_; have HB := n1_; have BK404 := n2_; have GW404 := n3_; have GE404 := n4_; clear n0_ n1_ n2_ n3_ n4_; clear hb hbox hg; have hcz10_0 : w9.cell? ⟨gb404, 0, none⟩ = some (.string (⟨#[]⟩ : ByteArray)) := (blk_cell BK404.out 0).trans rfl; have hcz10_1 : w9.cell? ⟨gb404, 1, none⟩ = some (.int .i64 0) := (blk_cell BK404.out 1).trans rfl; have hcz10_2 : w9.cell? ⟨gb404, 2, none⟩ = some (.int .i64 0) := (blk_cell BK404.out 2).trans rfl; have hcz10_3 : w9.cell? ⟨gb404, 3, none⟩ = some (.int .i64 0) := (blk_cell BK404.out 3).trans rfl; have hcz10_4 : w9.cell? ⟨gb404, 4, none⟩ = some (.int .i64 0) := (blk_cell BK404.out 4).trans rfl; have hcz10_5 : w9.cell? ⟨gb404, 5, none⟩ = some (.int .i64 0) := (blk_cell BK404.out 5).trans rfl; have hcz10_6 : w9.cell? ⟨gb404, 6, none⟩ = some (.slice none 0 0) := (blk_cell BK404.out 6).trans rfl; have hcz10_7 : w9.cell? ⟨gb404, 7, none⟩ = some (.string (⟨#[]⟩ : ByteArray)) := (blk_cell BK404.out 7).trans rfl; have hcz10_8 : w9.cell? ⟨gb404, 8, none⟩ = some (.string (⟨#[]⟩ : ByteArray)) := (blk_cell BK404.out 8).trans rfl; have hfz10_0 := blk_frozen BK404.out 0; have hfz10_1 := blk_frozen BK404.out 1; have hfz10_2 := blk_frozen BK404.out 2; have hfz10_3 := blk_frozen BK404.out 3; have hfz10_4 := blk_frozen BK404.out 4; have hfz10_5 := blk_frozen BK404.out 5; have hfz10_6 := blk_frozen BK404.out 6; have hfz10_7 := blk_frozen BK404.out 7; have hfz10_8 := blk_frozen BK404.out 8) | ((with_reducible refine gate_store (t := 59) (p := 7) rfl ?_); refine store_event (t := 59) (p := 7) (v := ?vo_w11) (w1 := (((((((((w9.setCell ⟨gb404, 0, none⟩ (.string ((rd_T63 l0 x6_1).f1.f0))).setCell ⟨gb404, 1, none⟩ (.int .i64 ((rd_T63 l0 x6_1).f1.f1))).setCell ⟨gb404, 2, none⟩ (.int .i64 ((rd_T63 l0 x6_1).f1.f2))).setCell ⟨gb404, 3, none⟩ (.int .i64 ((rd_T63 l0 x6_1).f1.f3))).setCell ⟨gb404, 4, none⟩ (.int .i64 ((rd_T63 l0 x6_1).f1.f4))).setCell ⟨gb404, 5, none⟩ (.int .i64 ((rd_T63 l0 x6_1).f1.f5))).setCell ⟨gb404, 6, none⟩ (.slice A403_7 ((rd_T63 l0 x6_1).f1.f6).length c403_7)).setCell ⟨gb404, 7, none⟩ (.string ((rd_T63 l0 x6_1).f1.f7))).setCell ⟨gb404, 8, none⟩ (.string ((rd_T63 l0 x6_1).f1.f8)))) ?hg ?ho ?hn ?hr ?_; (case ho => rfl); (case hg => rfl); (case hn => rfl); (case hr => first | (go_simp; done) | (go_simp; rfl)); intro w11 hw; have n0_ : Aside0 (Kd.R Kd.string 9 w11 w.heap.size (fun _ => True) u5 x5_1) := ⟨(by rw [hw]; exact (by (with_reducible repeat (first | apply Kd.R_alloc | apply Kd.R_drewN | apply Kd.R_drew)); exact Kd.R_mono (Kd.R_far (p := ⟨gb404, 8, none⟩) (Kd.R_far (p := ⟨gb404, 7, none⟩) (Kd.R_far (p := ⟨gb404, 6, none⟩) (Kd.R_far (p := ⟨gb404, 5, none⟩) (Kd.R_far (p := ⟨gb404, 4, none⟩) (Kd.R_far (p := ⟨gb404, 3, none⟩) (Kd.R_far (p := ⟨gb404, 2, none⟩) (Kd.R_far (p := ⟨gb404, 1, none⟩) (Kd.R_far (p := ⟨gb404, 0, none⟩) (Kd.R_types HO_5.out BK404.out (by decide)) (fun _ hk => hk.2) (.string ((rd_T63 l0 x6_1).f1.f0))) (fun _ hk => hk.2) (.int .i64 ((rd_T63 l0 x6_1).f1.f1))) (fun _ hk => hk.2) (.int .i64 ((rd_T63 l0 x6_1).f1.f2))) (fun _ hk => hk.2) (.int .i64 ((rd_T63 l0 x6_1).f1.f3))) (fun _ hk => hk.2) (.int .i64 ((rd_T63 l0 x6_1).f1.f4))) (fun _ hk => hk.2) (.int .i64 ((rd_T63 l0 x6_1).f1.f5))) (fun _ hk => hk.2) (.slice A403_7 ((rd_T63 l0 x6_1).f1.f6).length c403_7)) (fun _ hk => hk.2) (.string ((rd_T63 l0 x6_1).f1.f7))) (fun _ hk => hk.2) (.string ((rd_T63 l0 x6_1).f1.f8))) (fun _ hk => trivial)))⟩; have n1_ : Aside0 (w11.heap[gb404]? = some (.cells #[.string ((rd_T63 l0 x6_1).f1.f0), .int .i64 ((rd_T63 l0 x6_1).f1.f1), .int .i64 ((rd_T63 l0 x6_1).f1.f2), .int .i64 ((rd_T63 l0 x6_1).f1.f3), .int .i64 ((rd_T63 l0 x6_1).f1.f4), .int .i64 ((rd_T63 l0 x6_1).f1.f5), .slice A403_7 ((rd_T63 l0 x6_1).f1.f6).length c403_7, .string ((rd_T63 l0 x6_1).f1.f7), .string ((rd_T63 l0 x6_1).f1.f8)] 59 (0, 0))) := ⟨(by rw [hw]; exact (by (with_reducible repeat (first | refine blk_drewN ?_ _ | refine blk_drew ?_ | refine blk_alloc ?_ _)); refine blk_put (cs := #[.string ((rd_T63 l0 x6_1).f1.f0), .int .i64 ((rd_T63 l0 x6_1).f1.f1), .int .i64 ((rd_T63 l0 x6_1).f1.f2), .int .i64 ((rd_T63 l0 x6_1).f1.f3), .int .i64 ((rd_T63 l0 x6_1).f1.f4), .int .i64 ((rd_T63 l0 x6_1).f1.f5), .slice A403_7 ((rd_T63 l0 x6_1).f1.f6).length c403_7, .string ((rd_T63 l0 x6_1).f1.f7), .string (⟨#[]⟩ : ByteArray)]) ?_ 8 _ rfl; (with_reducible repeat (first | refine blk_drewN ?_ _ | refine blk_drew ?_ | refine blk_alloc ?_ _)); refine blk_put (cs := #[.string ((rd_T63 l0 x6_1).f1.f0), .int .i64 ((rd_T63 l0 x6_1).f1.f1), .int .i64 ((rd_T63 l0 x6_1).f1.f2), .int .i64 ((rd_T63 l0 x6_1).f1.f3), .int .i64 ((rd_T63 l0 x6_1).f1.f4), .int .i64 ((rd_T63 l0 x6_1).f1.f5), .slice A403_7 ((rd_T63 l0 x6_1).f1.f6).length c403_7, .string (⟨#[]⟩ : ByteArray), .string (⟨#[]⟩ : ByteArray)]) ?_ 7 _ rfl; (with_reducible repeat (first | refine blk_drewN ?_ _ | refine blk_drew ?_ | refine blk_alloc ?_ _)); refine blk_put (cs := #[.string ((rd_T63 l0 x6_1).f1.f0), .int .i64 ((rd_T63 l0 x6_1).f1.f1), .int .i64 ((rd_T63 l0 x6_1).f1.f2), .int .i64 ((rd_T63 l0 x6_1).f1.f3), .int .i64 ((rd_T63 l0 x6_1).f1.f4), .int .i64 ((rd_T63 l0 x6_1).f1.f5), .slice none 0 0, .string (⟨#[]⟩ : ByteArray), .string (⟨#[]⟩ : ByteArray)]) ?_ 6 _ rfl; (with_reducible repeat (first | refine blk_drewN ?_ _ | refine blk_drew ?_ | refine blk_alloc ?_ _)); refine blk_put (cs := #[.string ((rd_T63 l0 x6_1).f1.f0), .int .i64 ((rd_T63 l0 x6_1).f1.f1), .int .i64 ((rd_T63 l0 x6_1).f1.f2), .int .i64 ((rd_T63 l0 x6_1).f1.f3), .int .i64 ((rd_T63 l0 x6_1).f1.f4), .int .i64 0, .slice none 0 0, .string (⟨#[]⟩ : ByteArray), .string (⟨#[]⟩ : ByteArray)]) ?_ 5 _ rfl; (with_reducible repeat (first | refine blk_drewN ?_ _ | refine blk_drew ?_ | refine blk_alloc ?_ _)); refine blk_put (cs := #[.string ((rd_T63 l0 x6_1).f1.f0), .int .i64 ((rd_T63 l0 x6_1).f1.f1), .int .i64 ((rd_T63 l0 x6_1).f1.f2), .int .i64 ((rd_T63 l0 x6_1).f1.f3), .int .i64 0, .int .i64 0, .slice none 0 0, .string (⟨#[]⟩ : ByteArray), .string (⟨#[]⟩ : ByteArray)]) ?_ 4 _ rfl; (with_reducible repeat (first | refine blk_drewN ?_ _ | refine blk_drew ?_ | refine blk_alloc ?_ _)); refine blk_put (cs := #[.string ((rd_T63 l0 x6_1).f1.f0), .int .i64 ((rd_T63 l0 x6_1).f1.f1), .int .i64 ((rd_T63 l0 x6_1).f1.f2), .int .i64 0, .int .i64 0, .int .i64 0, .slice none 0 0, .string (⟨#[]⟩ : ByteArray), .string (⟨#[]⟩ : ByteArray)]) ?_ 3 _ rfl; (with_reducible repeat (first | refine blk_drewN ?_ _ | refine blk_drew ?_ | refine blk_alloc ?_ _)); refine blk_put (cs := #[.string ((rd_T63 l0 x6_1).f1.f0), .int .i64 ((rd_T63 l0 x6_1).f1.f1), .int .i64 0, .int .i64 0, .int .i64 0, .int .i64 0, .slice none 0 0, .string (⟨#[]⟩ : ByteArray), .string (⟨#[]⟩ : ByteArray)]) ?_ 2 _ rfl; (with_reducible repeat (first | refine blk_drewN ?_ _ | refine blk_drew ?_ | refine blk_alloc ?_ _)); refine blk_put (cs := #[.string ((rd_T63 l0 x6_1).f1.f0), .int .i64 0, .int .i64 0, .int .i64 0, .int .i64 0, .int .i64 0, .slice none 0 0, .string (⟨#[]⟩ : ByteArray), .string (⟨#[]⟩ : ByteArray)]) ?_ 1 _ rfl; (with_reducible repeat (first | refine blk_drewN ?_ _ | refine blk_drew ?_ | refine blk_alloc ?_ _)); refine blk_put (cs := #[.string (⟨#[]⟩ : ByteArray), .int .i64 0, .int .i64 0, .int .i64 0, .int .i64 0, .int .i64 0, .slice none 0 0, .string (⟨#[]⟩ : ByteArray), .string (⟨#[]⟩ : ByteArray)]) ?_ 0 _ rfl; (with_reducible repeat (first | refine blk_drewN ?_ _ | refine blk_drew ?_ | refine blk_alloc ?_ _)); exact BK404.out))⟩; have n2_ : Aside0 (Below w.heap.size w w11) := ⟨(by rw [hw]; exact (by repeat (first | (with_reducible first | exact HB.out | apply below_alloc | apply pw_below_drewN | apply below_drew1 | refine below_set ?_ GE404.out) | exact HB.out)))⟩; clear hw; clear HO_5; clear BK404; clear HB; have HO_5 := n0_; have BK404 := n1_; have HB := n2_; clear n0_ n1_ n2_; have hcz12_0 : w11.cell? ⟨gb404, 0, none⟩ = some (.string ((rd_T63 l0 x6_1).f1.f0)) := (blk_cell BK404.out 0).trans rfl; have hcz12_1 : w11.cell? ⟨gb404, 1, none⟩ = some (.int .i64 ((rd_T63 l0 x6_1).f1.f1)) := (blk_cell BK404.out 1).trans rfl; have hcz12_2 : w11.cell? ⟨gb404, 2, none⟩ = some (.int .i64 ((rd_T63 l0 x6_1).f1.f2)) := (blk_cell BK404.out 2).trans rfl; have hcz12_3 : w11.cell? ⟨gb404, 3, none⟩ = some (.int .i64 ((rd_T63 l0 x6_1).f1.f3)) := (blk_cell BK404.out 3).trans rfl; have hcz12_4 : w11.cell? ⟨gb404, 4, none⟩ = some (.int .i64 ((rd_T63 l0 x6_1).f1.f4)) := (blk_cell BK404.out 4).trans rfl; have hcz12_5 : w11.cell? ⟨gb404, 5, none⟩ = some (.int .i64 ((rd_T63 l0 x6_1).f1.f5)) := (blk_cell BK404.out 5).trans rfl; have hcz12_6 : w11.cell? ⟨gb404, 6, none⟩ = some (.slice A403_7 ((rd_T63 l0 x6_1).f1.f6).length c403_7) := (blk_cell BK404.out 6).trans rfl; have hcz12_7 : w11.cell? ⟨gb404, 7, none⟩ = some (.string ((rd_T63 l0 x6_1).f1.f7)) := (blk_cell BK404.out 7).trans rfl; have hcz12_8 : w11.cell? ⟨gb404, 8, none⟩ = some (.string ((rd_T63 l0 x6_1).f1.f8)) := (blk_cell BK404.out 8).trans rfl; have hfz12_0 := blk_frozen BK404.out 0; have hfz12_1 := blk_frozen BK404.out 1; have hfz12_2 := blk_frozen BK404.out 2; have hfz12_3 := blk_frozen BK404.out 3; have hfz12_4 := blk_frozen BK404.out 4; have hfz12_5 := blk_frozen BK404.out 5; have hfz12_6 := blk_frozen BK404.out 6; have hfz12_7 := blk_frozen BK404.out 7; have hfz12_8 := blk_frozen BK404.out 8; obtain ⟨Ao13, co13, eo13⟩ := Kd.R_slice HO_5.out; subst eo13) | ((with_reducible refine gate_callee (f := 40) rfl ?_); refine goesL_ (some 29) rfl rfl Try.func40 (by kernel_rfl) rfl #[.slice Ao13 x5_1.length co13, .string ((rd_T63 l0 x6_1).f1.f7)] rfl (by (try simp only [List.map_toArray, List.map_cons, List.map_nil]); first | done | rfl | (simp only [List.length_drop, List.length_take]; rfl)) ?_; (with_reducible refine (garretref29_rising.calls k1 (fun k_ => some k_ = (.slice Ao13 x5_1.length co13 : Value).ownBlock) (.slice Ao13 x5_1.length co13) x5_1 ((rd_T63 l0 x6_1).f1.f7) t405 w _ ?side1 ?side2 A8.out).mono ?_); (case side1 => repeat (first | (with_reducible first | exact HB.out | apply below_alloc | apply pw_below_drewN | apply below_drew1 | refine below_set ?_ GE404.out) | exact HB.out)); (case side2 => exact Kd.R_tight rfl HO_5.out); rintro e w14 ⟨v406, rfl, ho0, hb, hkp⟩; refine ⟨_, rfl, ?_⟩; have n0_ := Aside0.mk (blk_kept (by (with_reducible repeat (first | refine blk_drewN ?_ _ | refine blk_drew ?_ | refine blk_alloc ?_ _)); exact BK404.out) hkp (fun hs_ => (fun e_ => (Kd.R_ne HO_5.out BK404.out (by decide)) e_) hs_)); have n1_ := Aside0.mk (Kd.R_mono (ok' := fun k_ => True) ho0 (fun k_ hk_ => trivial)); have n2_ := Aside0.mk (hb); clear BK404; clear HB; clear HO_5; have BK404 := n0_; have HO407 := n1_; have HB := n2_; clear n0_ n1_ n2_; (try clear hb); (try clear hkp); (try clear ho0)))
            go_roundg k1
            case measure => have := HK1.out; omega
            case rel => exact ⟨(t405), (wrap64 (x6_1 + 1)), (by first | rfl | (simp; done) | (simp [*]; done)), H', ⟨by have := HK1.out; omega⟩, ⟨by (with_reducible repeat (first | apply Kd.R_alloc | apply Kd.R_drewN | apply Kd.R_drew)); exact HO407.out⟩, ⟨by repeat (first | (with_reducible first | exact HB.out | apply below_alloc | apply pw_below_drewN | apply below_drew1 | refine below_set ?_ GE404.out) | exact HB.out)⟩⟩
          · rw [if_neg c7] at H
            have c7b0 : (((rd_T63 l0 x6_1).f1.f1) == 2) = false := beq_eq_false_iff_ne.mpr c7
            have c7b1 : (((rd_T63 l0 x6_1).f1.f1) != 2) = true := bne_iff_ne.mpr c7
            by_cases c15 : ((rd_T63 l0 x6_1).f1.f1) = 1
            · rw [if_pos c15] at H
              have c15b0 : (((rd_T63 l0 x6_1).f1.f1) == 1) = true := beq_iff_eq.mpr c15
              have c15b1 : (((rd_T63 l0 x6_1).f1.f1) != 1) = false := bne_eq_false_iff_eq.mpr c15
              clear c15
              have H' := Aside0.mk H
              clear H
              have p403 : 0 ≤ (x6_1 : Int) := of_decide_eq_true (by first | (with_reducible assumption) | assumption)
              have q403 : x6_1 < (l0.length : Int) := of_decide_eq_true (by first | (with_reducible assumption) | assumption)
              obtain ⟨ad403, A403_7, c403_7, e403, hx403_0, hx403_1, hx403_2, hx403_3, hx403_4, hx403_5, hx403_6, hx403_7, hx403_8, hx403_9, hl403_7, hi403_7⟩ := at_T63 HR0.out x6_1 p403 q403
              cases e403
              replace hx403_0 := (HB.out.cell (World.block_lt_of_cell? w _ hx403_0)).trans hx403_0
              replace hx403_1 := (HB.out.cell (World.block_lt_of_cell? w _ hx403_1)).trans hx403_1
              replace hx403_2 := (HB.out.cell (World.block_lt_of_cell? w _ hx403_2)).trans hx403_2
              replace hx403_3 := (HB.out.cell (World.block_lt_of_cell? w _ hx403_3)).trans hx403_3
              replace hx403_4 := (HB.out.cell (World.block_lt_of_cell? w _ hx403_4)).trans hx403_4
              replace hx403_5 := (HB.out.cell (World.block_lt_of_cell? w _ hx403_5)).trans hx403_5
              replace hx403_6 := (HB.out.cell (World.block_lt_of_cell? w _ hx403_6)).trans hx403_6
              replace hx403_7 := (HB.out.cell (World.block_lt_of_cell? w _ hx403_7)).trans hx403_7
              replace hx403_8 := (HB.out.cell (World.block_lt_of_cell? w _ hx403_8)).trans hx403_8
              replace hx403_9 := (HB.out.cell (World.block_lt_of_cell? w _ hx403_9)).trans hx403_9
              have HR403_7 := Aside0.mk hi403_7
              have HC403_7 := Aside0.mk hl403_7
              clear hi403_7 hl403_7
              replace p403 := eq_true p403
              replace q403 := eq_true q403
              go_wp2_with (first | ((with_reducible refine gate_dst (N := 7) rfl ?_); refine box_event ?hg (N := 7) ?hd (cs := #[.string (⟨#[]⟩ : ByteArray), .int .i64 0, .int .i64 0, .int .i64 0, .int .i64 0, .int .i64 0, .slice none 0 0, .string (⟨#[]⟩ : ByteArray), .string (⟨#[]⟩ : ByteArray)]) (t := 59) ?hr ?_; (case hd => rfl); (case hg => rfl); (case hr => first | (go_simp; done) | (go_simp; rfl)); intro gb404 hg w16 hbox hb; have n0_ := Aside0.mk (Kd.R_below (by (with_reducible repeat (first | apply Kd.R_alloc | apply Kd.R_drewN | apply Kd.R_drew)); exact HO_5.out) hb); have n1_ := Aside0.mk (below_step (by repeat (first | (with_reducible first | exact HB.out | apply below_alloc | apply pw_below_drewN | apply below_drew1) | exact HB.out)) hb); have n2_ := Aside0.mk (hbox); have n3_ := Aside0.mk ((by rw [hg]; exact (below_size (by repeat (first | (with_reducible first | exact HB.out | apply below_alloc | apply pw_below_drewN | apply below_drew1) | exact HB.out))) : w.heap.size ≤ gb404)); have n4_ := Aside0.mk ((by rw [hg]; exact (below_size (by repeat (first | (with_reducible first | exact HB.out | apply below_alloc | apply pw_below_drewN | apply below_drew1) | exact HB.out))) : w.heap.size ≤ gb404)); clear HO_5; clear HB; have HO_5 := n0_; have HB := n1_; have BK404 := n2_; have GW404 := n3_; have GE404 := n4_; clear n0_ n1_ n2_ n3_ n4_; clear hb hbox hg; have hcz17_0 : w16.cell? ⟨gb404, 0, none⟩ = some (.string (⟨#[]⟩ : ByteArray)) := (blk_cell BK404.out 0).trans rfl; have hcz17_1 : w16.cell? ⟨gb404, 1, none⟩ = some (.int .i64 0) := (blk_cell BK404.out 1).trans rfl; have hcz17_2 : w16.cell? ⟨gb404, 2, none⟩ = some (.int .i64 0) := (blk_cell BK404.out 2).trans rfl; have hcz17_3 : w16.cell? ⟨gb404, 3, none⟩ = some (.int .i64 0) := (blk_cell BK404.out 3).trans rfl; have hcz17_4 : w16.cell? ⟨gb404, 4, none⟩ = some (.int .i64 0) := (blk_cell BK404.out 4).trans rfl; have hcz17_5 : w16.cell? ⟨gb404, 5, none⟩ = some (.int .i64 0) := (blk_cell BK404.out 5).trans rfl; have hcz17_6 : w16.cell? ⟨gb404, 6, none⟩ = some (.slice none 0 0) := (blk_cell BK404.out 6).trans rfl; have hcz17_7 : w16.cell? ⟨gb404, 7, none⟩ = some (.string (⟨#[]⟩ : ByteArray)) := (blk_cell BK404.out 7).trans rfl; have hcz17_8 : w16.cell? ⟨gb404, 8, none⟩ = some (.string (⟨#[]⟩ : ByteArray)) := (blk_cell BK404.out 8).trans rfl; have hfz17_0 := blk_frozen BK404.out 0; have hfz17_1 := blk_frozen BK404.out 1; have hfz17_2 := blk_frozen BK404.out 2; have hfz17_3 := blk_frozen BK404.out 3; have hfz17_4 := blk_frozen BK404.out 4; have hfz17_5 := blk_frozen BK404.out 5; have hfz17_6 := blk_frozen BK404.out 6; have hfz17_7 := blk_frozen BK404.out 7; have hfz17_8 := blk_frozen BK404.out 8))
              go_loopg [5, 8] k1 (fun kq v5 v8 w' => ∃ (x5_2 : List ByteArray) (x8_2 : Int), v8 = .int .i64 x8_2 ∧ Aside0 (garretref29_Reach.l1 kq l0 x5_2 x6_1 x8_2 ((rd_T63 l0 x6_1).f1.f0) ((rd_T63 l0 x6_1).f1.f1) ((rd_T63 l0 x6_1).f1.f2) ((rd_T63 l0 x6_1).f1.f3) ((rd_T63 l0 x6_1).f1.f4) ((rd_T63 l0 x6_1).f1.f5) ((rd_T63 l0 x6_1).f1.f6) ((rd_T63 l0 x6_1).f1.f7) ((rd_T63 l0 x6_1).f1.f8) = some r) ∧ Aside0 (kq ≤ k1) ∧ Aside0 (Kd.R Kd.string 9 w' w.heap.size (fun _ => True) v5 x5_2) ∧ Aside0 (w'.heap[gb404]? = some (.cells #[.string ((rd_T63 l0 x6_1).f1.f0), .int .i64 ((rd_T63 l0 x6_1).f1.f1), .int .i64 ((rd_T63 l0 x6_1).f1.f2), .int .i64 ((rd_T63 l0 x6_1).f1.f3), .int .i64 ((rd_T63 l0 x6_1).f1.f4), .int .i64 ((rd_T63 l0 x6_1).f1.f5), (.slice A403_7 ((rd_T63 l0 x6_1).f1.f6).length c403_7), .string ((rd_T63 l0 x6_1).f1.f7), .string ((rd_T63 l0 x6_1).f1.f8)] 59 (0, 0))) ∧ Aside0 (Below w.heap.size w w'))
              case atStart => exact ⟨(x5_1), (0), (by first | rfl | (simp; done) | (simp [*]; done)), H', ⟨Nat.le_refl _⟩, ⟨by (with_reducible repeat (first | apply Kd.R_alloc | apply Kd.R_drewN | apply Kd.R_drew)); exact Kd.R_mono (Kd.R_far (p := ⟨gb404, 8, none⟩) (Kd.R_far (p := ⟨gb404, 7, none⟩) (Kd.R_far (p := ⟨gb404, 6, none⟩) (Kd.R_far (p := ⟨gb404, 5, none⟩) (Kd.R_far (p := ⟨gb404, 4, none⟩) (Kd.R_far (p := ⟨gb404, 3, none⟩) (Kd.R_far (p := ⟨gb404, 2, none⟩) (Kd.R_far (p := ⟨gb404, 1, none⟩) (Kd.R_far (p := ⟨gb404, 0, none⟩) (Kd.R_types HO_5.out BK404.out (by decide)) (fun _ hk => hk.2) (.string ((rd_T63 l0 x6_1).f1.f0))) (fun _ hk => hk.2) (.int .i64 ((rd_T63 l0 x6_1).f1.f1))) (fun _ hk => hk.2) (.int .i64 ((rd_T63 l0 x6_1).f1.f2))) (fun _ hk => hk.2) (.int .i64 ((rd_T63 l0 x6_1).f1.f3))) (fun _ hk => hk.2) (.int .i64 ((rd_T63 l0 x6_1).f1.f4))) (fun _ hk => hk.2) (.int .i64 ((rd_T63 l0 x6_1).f1.f5))) (fun _ hk => hk.2) (.slice A403_7 ((rd_T63 l0 x6_1).f1.f6).length c403_7)) (fun _ hk => hk.2) (.string ((rd_T63 l0 x6_1).f1.f7))) (fun _ hk => hk.2) (.string ((rd_T63 l0 x6_1).f1.f8))) (fun _ hk => trivial)⟩, ⟨by (with_reducible repeat (first | refine blk_drewN ?_ _ | refine blk_drew ?_ | refine blk_alloc ?_ _)); refine blk_put (cs := #[.string ((rd_T63 l0 x6_1).f1.f0), .int .i64 ((rd_T63 l0 x6_1).f1.f1), .int .i64 ((rd_T63 l0 x6_1).f1.f2), .int .i64 ((rd_T63 l0 x6_1).f1.f3), .int .i64 ((rd_T63 l0 x6_1).f1.f4), .int .i64 ((rd_T63 l0 x6_1).f1.f5), .slice A403_7 ((rd_T63 l0 x6_1).f1.f6).length c403_7, .string ((rd_T63 l0 x6_1).f1.f7), .string (⟨#[]⟩ : ByteArray)]) ?_ 8 _ rfl; (with_reducible repeat (first | refine blk_drewN ?_ _ | refine blk_drew ?_ | refine blk_alloc ?_ _)); refine blk_put (cs := #[.string ((rd_T63 l0 x6_1).f1.f0), .int .i64 ((rd_T63 l0 x6_1).f1.f1), .int .i64 ((rd_T63 l0 x6_1).f1.f2), .int .i64 ((rd_T63 l0 x6_1).f1.f3), .int .i64 ((rd_T63 l0 x6_1).f1.f4), .int .i64 ((rd_T63 l0 x6_1).f1.f5), .slice A403_7 ((rd_T63 l0 x6_1).f1.f6).length c403_7, .string (⟨#[]⟩ : ByteArray), .string (⟨#[]⟩ : ByteArray)]) ?_ 7 _ rfl; (with_reducible repeat (first | refine blk_drewN ?_ _ | refine blk_drew ?_ | refine blk_alloc ?_ _)); refine blk_put (cs := #[.string ((rd_T63 l0 x6_1).f1.f0), .int .i64 ((rd_T63 l0 x6_1).f1.f1), .int .i64 ((rd_T63 l0 x6_1).f1.f2), .int .i64 ((rd_T63 l0 x6_1).f1.f3), .int .i64 ((rd_T63 l0 x6_1).f1.f4), .int .i64 ((rd_T63 l0 x6_1).f1.f5), .slice none 0 0, .string (⟨#[]⟩ : ByteArray), .string (⟨#[]⟩ : ByteArray)]) ?_ 6 _ rfl; (with_reducible repeat (first | refine blk_drewN ?_ _ | refine blk_drew ?_ | refine blk_alloc ?_ _)); refine blk_put (cs := #[.string ((rd_T63 l0 x6_1).f1.f0), .int .i64 ((rd_T63 l0 x6_1).f1.f1), .int .i64 ((rd_T63 l0 x6_1).f1.f2), .int .i64 ((rd_T63 l0 x6_1).f1.f3), .int .i64 ((rd_T63 l0 x6_1).f1.f4), .int .i64 0, .slice none 0 0, .string (⟨#[]⟩ : ByteArray), .string (⟨#[]⟩ : ByteArray)]) ?_ 5 _ rfl; (with_reducible repeat (first | refine blk_drewN ?_ _ | refine blk_drew ?_ | refine blk_alloc ?_ _)); refine blk_put (cs := #[.string ((rd_T63 l0 x6_1).f1.f0), .int .i64 ((rd_T63 l0 x6_1).f1.f1), .int .i64 ((rd_T63 l0 x6_1).f1.f2), .int .i64 ((rd_T63 l0 x6_1).f1.f3), .int .i64 0, .int .i64 0, .slice none 0 0, .string (⟨#[]⟩ : ByteArray), .string (⟨#[]⟩ : ByteArray)]) ?_ 4 _ rfl; (with_reducible repeat (first | refine blk_drewN ?_ _ | refine blk_drew ?_ | refine blk_alloc ?_ _)); refine blk_put (cs := #[.string ((rd_T63 l0 x6_1).f1.f0), .int .i64 ((rd_T63 l0 x6_1).f1.f1), .int .i64 ((rd_T63 l0 x6_1).f1.f2), .int .i64 0, .int .i64 0, .int .i64 0, .slice none 0 0, .string (⟨#[]⟩ : ByteArray), .string (⟨#[]⟩ : ByteArray)]) ?_ 3 _ rfl; (with_reducible repeat (first | refine blk_drewN ?_ _ | refine blk_drew ?_ | refine blk_alloc ?_ _)); refine blk_put (cs := #[.string ((rd_T63 l0 x6_1).f1.f0), .int .i64 ((rd_T63 l0 x6_1).f1.f1), .int .i64 0, .int .i64 0, .int .i64 0, .int .i64 0, .slice none 0 0, .string (⟨#[]⟩ : ByteArray), .string (⟨#[]⟩ : ByteArray)]) ?_ 2 _ rfl; (with_reducible repeat (first | refine blk_drewN ?_ _ | refine blk_drew ?_ | refine blk_alloc ?_ _)); refine blk_put (cs := #[.string ((rd_T63 l0 x6_1).f1.f0), .int .i64 0, .int .i64 0, .int .i64 0, .int .i64 0, .int .i64 0, .slice none 0 0, .string (⟨#[]⟩ : ByteArray), .string (⟨#[]⟩ : ByteArray)]) ?_ 1 _ rfl; (with_reducible repeat (first | refine blk_drewN ?_ _ | refine blk_drew ?_ | refine blk_alloc ?_ _)); refine blk_put (cs := #[.string (⟨#[]⟩ : ByteArray), .int .i64 0, .int .i64 0, .int .i64 0, .int .i64 0, .int .i64 0, .slice none 0 0, .string (⟨#[]⟩ : ByteArray), .string (⟨#[]⟩ : ByteArray)]) ?_ 0 _ rfl; (with_reducible repeat (first | refine blk_drewN ?_ _ | refine blk_drew ?_ | refine blk_alloc ?_ _)); exact BK404.out⟩, ⟨by repeat (first | (with_reducible first | exact HB.out | apply below_alloc | apply pw_below_drewN | apply below_drew1 | refine below_set ?_ GE404.out) | exact HB.out)⟩⟩
              case round =>
                clear H'
                try clear c1
                try clear c2
                try clear p2
                try clear c4
                try clear p4
                try clear q4
                try clear hx4
                try clear c5
                try clear c5b0
                try clear c6
                try clear c6b0
                try clear p6
                try clear c7
                try clear c7b0
                try clear c7b1
                try clear c15
                try clear c15b0
                try clear c15b1
                try clear hcz10_0
                try clear hcz10_1
                try clear hcz10_2
                try clear hcz10_3
                try clear hcz10_4
                try clear hcz10_5
                try clear hcz10_6
                try clear hcz10_7
                try clear hcz10_8
                try clear hcz12_0
                try clear hcz12_1
                try clear hcz12_2
                try clear hcz12_3
                try clear hcz12_4
                try clear hcz12_5
                try clear hcz12_6
                try clear hcz12_7
                try clear hcz12_8
                try clear hcz17_0
                try clear hcz17_1
                try clear hcz17_2
                try clear hcz17_3
                try clear hcz17_4
                try clear hcz17_5
                try clear hcz17_6
                try clear hcz17_7
                try clear hcz17_8
                try clear hfz10_0
                try clear hfz10_1
                try clear hfz10_2
                try clear hfz10_3
                try clear hfz10_4
                try clear hfz10_5
                try clear hfz10_6
                try clear hfz10_7
                try clear hfz10_8
                try clear hfz12_0
                try clear hfz12_1
                try clear hfz12_2
                try clear hfz12_3
                try clear hfz12_4
                try clear hfz12_5
                try clear hfz12_6
                try clear hfz12_7
                try clear hfz12_8
                try clear hfz17_0
                try clear hfz17_1
                try clear hfz17_2
                try clear hfz17_3
                try clear hfz17_4
                try clear hfz17_5
                try clear hfz17_6
                try clear hfz17_7
                try clear hfz17_8
                try clear hx403_0
                try clear hx403_1
                try clear hx403_2
                try clear hx403_3
                try clear hx403_4
                try clear hx403_5
                try clear hx403_6
                try clear hx403_7
                try clear hx403_8
                try clear hx403_9
                try clear p2
                try clear p403
                try clear q403
                obtain ⟨x5_2, x8_2, rfl, HA, HK2, HO_5, BK404, HB⟩ := hrel
                cases gk with
                | zero => exact absurd HA.out (by simp [garretref29_Reach.l1])
                | succ k2 =>
                  have H := HA.out
                  clear HA
                  simp only [garretref29_Reach.l1] at H
                  by_cases c18 : x8_2 < (((rd_T63 l0 x6_1).f1.f6).length : Int)
                  · rw [if_pos c18] at H
                    have c18b0 : decide (x8_2 < (((rd_T63 l0 x6_1).f1.f6).length : Int)) = true := decide_eq_true c18
                    clear c18
                    by_cases c19 : 0 ≤ x8_2
                    · rw [if_pos c19] at H
                      have c19b0 : decide (0 ≤ x8_2) = true := decide_eq_true c19
                      clear c19
                      replace H := Option.bind_eq_some_iff.mp H
                      obtain ⟨t409, A200, H⟩ := H
                      replace H : (garretref29_Reach.l1 k2 l0 t409 x6_1 (wrap64 (x8_2 + 1)) ((rd_T63 l0 x6_1).f1.f0) ((rd_T63 l0 x6_1).f1.f1) ((rd_T63 l0 x6_1).f1.f2) ((rd_T63 l0 x6_1).f1.f3) ((rd_T63 l0 x6_1).f1.f4) ((rd_T63 l0 x6_1).f1.f5) ((rd_T63 l0 x6_1).f1.f6) ((rd_T63 l0 x6_1).f1.f7) ((rd_T63 l0 x6_1).f1.f8)) = some r := H
                      have A20 := Aside0.mk A200
                      clear A200
                      have H' := Aside0.mk H
                      clear H
                      have hcz21_0 : wr.cell? ⟨gb404, 0, none⟩ = some (.string ((rd_T63 l0 x6_1).f1.f0)) := (blk_cell BK404.out 0).trans rfl
                      have hcz21_1 : wr.cell? ⟨gb404, 1, none⟩ = some (.int .i64 ((rd_T63 l0 x6_1).f1.f1)) := (blk_cell BK404.out 1).trans rfl
                      have hcz21_2 : wr.cell? ⟨gb404, 2, none⟩ = some (.int .i64 ((rd_T63 l0 x6_1).f1.f2)) := (blk_cell BK404.out 2).trans rfl
                      have hcz21_3 : wr.cell? ⟨gb404, 3, none⟩ = some (.int .i64 ((rd_T63 l0 x6_1).f1.f3)) := (blk_cell BK404.out 3).trans rfl
                      have hcz21_4 : wr.cell? ⟨gb404, 4, none⟩ = some (.int .i64 ((rd_T63 l0 x6_1).f1.f4)) := (blk_cell BK404.out 4).trans rfl
                      have hcz21_5 : wr.cell? ⟨gb404, 5, none⟩ = some (.int .i64 ((rd_T63 l0 x6_1).f1.f5)) := (blk_cell BK404.out 5).trans rfl
                      have hcz21_6 : wr.cell? ⟨gb404, 6, none⟩ = some (.slice A403_7 ((rd_T63 l0 x6_1).f1.f6).length c403_7) := (blk_cell BK404.out 6).trans rfl
                      have hcz21_7 : wr.cell? ⟨gb404, 7, none⟩ = some (.string ((rd_T63 l0 x6_1).f1.f7)) := (blk_cell BK404.out 7).trans rfl
                      have hcz21_8 : wr.cell? ⟨gb404, 8, none⟩ = some (.string ((rd_T63 l0 x6_1).f1.f8)) := (blk_cell BK404.out 8).trans rfl
                      have hfz21_0 := blk_frozen BK404.out 0
                      have hfz21_1 := blk_frozen BK404.out 1
                      have hfz21_2 := blk_frozen BK404.out 2
                      have hfz21_3 := blk_frozen BK404.out 3
                      have hfz21_4 := blk_frozen BK404.out 4
                      have hfz21_5 := blk_frozen BK404.out 5
                      have hfz21_6 := blk_frozen BK404.out 6
                      have hfz21_7 := blk_frozen BK404.out 7
                      have hfz21_8 := blk_frozen BK404.out 8
                      have p408 : 0 ≤ (x8_2 : Int) := of_decide_eq_true (by first | (with_reducible assumption) | assumption)
                      have q408 : x8_2 < (((rd_T63 l0 x6_1).f1.f6).length : Int) := of_decide_eq_true (by first | (with_reducible assumption) | assumption)
                      obtain ⟨ad408, e408, hx408_0⟩ := Kd.at_string HR403_7.out x8_2 p408 q408
                      cases e408
                      replace hx408_0 := (HB.out.cell (World.block_lt_of_cell? w _ hx408_0)).trans hx408_0
                      replace p408 := eq_true p408
                      replace q408 := eq_true q408
                      obtain ⟨Ao22, co22, eo22⟩ := Kd.R_slice HO_5.out
                      subst eo22
                      go_wp2_with (first | ((with_reducible refine gate_callee (f := 40) rfl ?_); refine goesL_ (some 45) rfl rfl Try.func40 (by kernel_rfl) rfl #[.slice Ao22 x5_2.length co22, .string (rdOf ByteArray.empty ((rd_T63 l0 x6_1).f1.f6) x8_2)] rfl (by (try simp only [List.map_toArray, List.map_cons, List.map_nil]); first | done | rfl | (simp only [List.length_drop, List.length_take]; rfl)) ?_; (with_reducible refine (garretref29_rising.calls k2 (fun k_ => some k_ = (.slice Ao22 x5_2.length co22 : Value).ownBlock) (.slice Ao22 x5_2.length co22) x5_2 (rdOf ByteArray.empty ((rd_T63 l0 x6_1).f1.f6) x8_2) t409 w _ ?side1 ?side2 A20.out).mono ?_); (case side1 => repeat (first | (with_reducible first | exact HB.out | apply below_alloc | apply pw_below_drewN | apply below_drew1 | refine below_set ?_ GE404.out) | exact HB.out)); (case side2 => exact Kd.R_tight rfl HO_5.out); rintro e w23 ⟨v410, rfl, ho0, hb, hkp⟩; refine ⟨_, rfl, ?_⟩; have n0_ := Aside0.mk (blk_kept (by (with_reducible repeat (first | refine blk_drewN ?_ _ | refine blk_drew ?_ | refine blk_alloc ?_ _)); exact BK404.out) hkp (fun hs_ => (fun e_ => (Kd.R_ne HO_5.out BK404.out (by decide)) e_) hs_)); have n1_ := Aside0.mk (Kd.R_mono (ok' := fun k_ => True) ho0 (fun k_ hk_ => trivial)); have n2_ := Aside0.mk (hb); clear BK404; clear HB; clear HO_5; have BK404 := n0_; have HO411 := n1_; have HB := n2_; clear n0_ n1_ n2_; (try clear hb); (try clear hkp); (try clear ho0)))
                      go_roundg k2
                      case measure => have := HK1.out; have := HK2.out; omega
                      case rel => exact ⟨(t409), (wrap64 (x8_2 + 1)), (by first | rfl | (simp; done) | (simp [*]; done)), H', ⟨by have := HK1.out; have := HK2.out; omega⟩, ⟨by (with_reducible repeat (first | apply Kd.R_alloc | apply Kd.R_drewN | apply Kd.R_drew)); exact HO411.out⟩, ⟨by (with_reducible repeat (first | refine blk_drewN ?_ _ | refine blk_drew ?_ | refine blk_alloc ?_ _)); exact BK404.out⟩, ⟨by repeat (first | (with_reducible first | exact HB.out | apply below_alloc | apply pw_below_drewN | apply below_drew1 | refine below_set ?_ GE404.out) | exact HB.out)⟩⟩
                    · rw [if_neg c19] at H
                      exact absurd H (by simp)
                  · rw [if_neg c18] at H
                    have c18b0 : decide (x8_2 < (((rd_T63 l0 x6_1).f1.f6).length : Int)) = false := decide_eq_false c18
                    clear c18
                    have H' := Aside0.mk H
                    clear H
                    have hcz24_0 : wr.cell? ⟨gb404, 0, none⟩ = some (.string ((rd_T63 l0 x6_1).f1.f0)) := (blk_cell BK404.out 0).trans rfl
                    have hcz24_1 : wr.cell? ⟨gb404, 1, none⟩ = some (.int .i64 ((rd_T63 l0 x6_1).f1.f1)) := (blk_cell BK404.out 1).trans rfl
                    have hcz24_2 : wr.cell? ⟨gb404, 2, none⟩ = some (.int .i64 ((rd_T63 l0 x6_1).f1.f2)) := (blk_cell BK404.out 2).trans rfl
                    have hcz24_3 : wr.cell? ⟨gb404, 3, none⟩ = some (.int .i64 ((rd_T63 l0 x6_1).f1.f3)) := (blk_cell BK404.out 3).trans rfl
                    have hcz24_4 : wr.cell? ⟨gb404, 4, none⟩ = some (.int .i64 ((rd_T63 l0 x6_1).f1.f4)) := (blk_cell BK404.out 4).trans rfl
                    have hcz24_5 : wr.cell? ⟨gb404, 5, none⟩ = some (.int .i64 ((rd_T63 l0 x6_1).f1.f5)) := (blk_cell BK404.out 5).trans rfl
                    have hcz24_6 : wr.cell? ⟨gb404, 6, none⟩ = some (.slice A403_7 ((rd_T63 l0 x6_1).f1.f6).length c403_7) := (blk_cell BK404.out 6).trans rfl
                    have hcz24_7 : wr.cell? ⟨gb404, 7, none⟩ = some (.string ((rd_T63 l0 x6_1).f1.f7)) := (blk_cell BK404.out 7).trans rfl
                    have hcz24_8 : wr.cell? ⟨gb404, 8, none⟩ = some (.string ((rd_T63 l0 x6_1).f1.f8)) := (blk_cell BK404.out 8).trans rfl
                    have hfz24_0 := blk_frozen BK404.out 0
                    have hfz24_1 := blk_frozen BK404.out 1
                    have hfz24_2 := blk_frozen BK404.out 2
                    have hfz24_3 := blk_frozen BK404.out 3
                    have hfz24_4 := blk_frozen BK404.out 4
                    have hfz24_5 := blk_frozen BK404.out 5
                    have hfz24_6 := blk_frozen BK404.out 6
                    have hfz24_7 := blk_frozen BK404.out 7
                    have hfz24_8 := blk_frozen BK404.out 8
                    go_wp2
                    go_roundg k2
                    case measure => have := HK1.out; have := HK2.out; omega
                    case rel => exact ⟨(x5_2), (wrap64 (x6_1 + 1)), (by first | rfl | (simp; done) | (simp [*]; done)), H', ⟨by have := HK1.out; have := HK2.out; omega⟩, ⟨by (with_reducible repeat (first | apply Kd.R_alloc | apply Kd.R_drewN | apply Kd.R_drew)); exact HO_5.out⟩, ⟨by repeat (first | (with_reducible first | exact HB.out | apply below_alloc | apply pw_below_drewN | apply below_drew1 | refine below_set ?_ GE404.out) | exact HB.out)⟩⟩
            · rw [if_neg c15] at H
              have c15b0 : (((rd_T63 l0 x6_1).f1.f1) == 1) = false := beq_eq_false_iff_ne.mpr c15
              have c15b1 : (((rd_T63 l0 x6_1).f1.f1) != 1) = true := bne_iff_ne.mpr c15
              have H' := Aside0.mk H
              clear H
              have p403 : 0 ≤ (x6_1 : Int) := of_decide_eq_true (by first | (with_reducible assumption) | assumption)
              have q403 : x6_1 < (l0.length : Int) := of_decide_eq_true (by first | (with_reducible assumption) | assumption)
              obtain ⟨ad403, A403_7, c403_7, e403, hx403_0, hx403_1, hx403_2, hx403_3, hx403_4, hx403_5, hx403_6, hx403_7, hx403_8, hx403_9, hl403_7, hi403_7⟩ := at_T63 HR0.out x6_1 p403 q403
              cases e403
              replace hx403_0 := (HB.out.cell (World.block_lt_of_cell? w _ hx403_0)).trans hx403_0
              replace hx403_1 := (HB.out.cell (World.block_lt_of_cell? w _ hx403_1)).trans hx403_1
              replace hx403_2 := (HB.out.cell (World.block_lt_of_cell? w _ hx403_2)).trans hx403_2
              replace hx403_3 := (HB.out.cell (World.block_lt_of_cell? w _ hx403_3)).trans hx403_3
              replace hx403_4 := (HB.out.cell (World.block_lt_of_cell? w _ hx403_4)).trans hx403_4
              replace hx403_5 := (HB.out.cell (World.block_lt_of_cell? w _ hx403_5)).trans hx403_5
              replace hx403_6 := (HB.out.cell (World.block_lt_of_cell? w _ hx403_6)).trans hx403_6
              replace hx403_7 := (HB.out.cell (World.block_lt_of_cell? w _ hx403_7)).trans hx403_7
              replace hx403_8 := (HB.out.cell (World.block_lt_of_cell? w _ hx403_8)).trans hx403_8
              replace hx403_9 := (HB.out.cell (World.block_lt_of_cell? w _ hx403_9)).trans hx403_9
              have HR403_7 := Aside0.mk hi403_7
              have HC403_7 := Aside0.mk hl403_7
              clear hi403_7 hl403_7
              replace p403 := eq_true p403
              replace q403 := eq_true q403
              go_wp2_with (first | ((with_reducible refine gate_dst (N := 7) rfl ?_); refine box_event ?hg (N := 7) ?hd (cs := #[.string (⟨#[]⟩ : ByteArray), .int .i64 0, .int .i64 0, .int .i64 0, .int .i64 0, .int .i64 0, .slice none 0 0, .string (⟨#[]⟩ : ByteArray), .string (⟨#[]⟩ : ByteArray)]) (t := 59) ?hr ?_; (case hd => rfl); (case hg => rfl); (case hr => first | (go_simp; done) | (go_simp; rfl)); intro gb404 hg w25 hbox hb; have n0_ := Aside0.mk (Kd.R_below (by (with_reducible repeat (first | apply Kd.R_alloc | apply Kd.R_drewN | apply Kd.R_drew)); exact HO_5.out) hb); have n1_ := Aside0.mk (below_step (by repeat (first | (with_reducible first | exact HB.out | apply below_alloc | apply pw_below_drewN | apply below_drew1) | exact HB.out)) hb); have n2_ := Aside0.mk (hbox); have n3_ := Aside0.mk ((by rw [hg]; exact (below_size (by repeat (first | (with_reducible first | exact HB.out | apply below_alloc | apply pw_below_drewN | apply below_drew1) | exact HB.out))) : w.heap.size ≤ gb404)); have n4_ := Aside0.mk ((by rw [hg]; exact (below_size (by repeat (first | (with_reducible first | exact HB.out | apply below_alloc | apply pw_below_drewN | apply below_drew1) | exact HB.out))) : w.heap.size ≤ gb404)); clear HO_5; clear HB; have HO_5 := n0_; have HB := n1_; have BK404 := n2_; have GW404 := n3_; have GE404 := n4_; clear n0_ n1_ n2_ n3_ n4_; clear hb hbox hg; have hcz26_0 : w25.cell? ⟨gb404, 0, none⟩ = some (.string (⟨#[]⟩ : ByteArray)) := (blk_cell BK404.out 0).trans rfl; have hcz26_1 : w25.cell? ⟨gb404, 1, none⟩ = some (.int .i64 0) := (blk_cell BK404.out 1).trans rfl; have hcz26_2 : w25.cell? ⟨gb404, 2, none⟩ = some (.int .i64 0) := (blk_cell BK404.out 2).trans rfl; have hcz26_3 : w25.cell? ⟨gb404, 3, none⟩ = some (.int .i64 0) := (blk_cell BK404.out 3).trans rfl; have hcz26_4 : w25.cell? ⟨gb404, 4, none⟩ = some (.int .i64 0) := (blk_cell BK404.out 4).trans rfl; have hcz26_5 : w25.cell? ⟨gb404, 5, none⟩ = some (.int .i64 0) := (blk_cell BK404.out 5).trans rfl; have hcz26_6 : w25.cell? ⟨gb404, 6, none⟩ = some (.slice none 0 0) := (blk_cell BK404.out 6).trans rfl; have hcz26_7 : w25.cell? ⟨gb404, 7, none⟩ = some (.string (⟨#[]⟩ : ByteArray)) := (blk_cell BK404.out 7).trans rfl; have hcz26_8 : w25.cell? ⟨gb404, 8, none⟩ = some (.string (⟨#[]⟩ : ByteArray)) := (blk_cell BK404.out 8).trans rfl; have hfz26_0 := blk_frozen BK404.out 0; have hfz26_1 := blk_frozen BK404.out 1; have hfz26_2 := blk_frozen BK404.out 2; have hfz26_3 := blk_frozen BK404.out 3; have hfz26_4 := blk_frozen BK404.out 4; have hfz26_5 := blk_frozen BK404.out 5; have hfz26_6 := blk_frozen BK404.out 6; have hfz26_7 := blk_frozen BK404.out 7; have hfz26_8 := blk_frozen BK404.out 8))
              go_roundg k1
              case measure => have := HK1.out; omega
              case rel => exact ⟨(x5_1), (wrap64 (x6_1 + 1)), (by first | rfl | (simp; done) | (simp [*]; done)), H', ⟨by have := HK1.out; omega⟩, ⟨by (with_reducible repeat (first | apply Kd.R_alloc | apply Kd.R_drewN | apply Kd.R_drew)); exact Kd.R_mono (Kd.R_far (p := ⟨gb404, 8, none⟩) (Kd.R_far (p := ⟨gb404, 7, none⟩) (Kd.R_far (p := ⟨gb404, 6, none⟩) (Kd.R_far (p := ⟨gb404, 5, none⟩) (Kd.R_far (p := ⟨gb404, 4, none⟩) (Kd.R_far (p := ⟨gb404, 3, none⟩) (Kd.R_far (p := ⟨gb404, 2, none⟩) (Kd.R_far (p := ⟨gb404, 1, none⟩) (Kd.R_far (p := ⟨gb404, 0, none⟩) (Kd.R_types HO_5.out BK404.out (by decide)) (fun _ hk => hk.2) (.string ((rd_T63 l0 x6_1).f1.f0))) (fun _ hk => hk.2) (.int .i64 ((rd_T63 l0 x6_1).f1.f1))) (fun _ hk => hk.2) (.int .i64 ((rd_T63 l0 x6_1).f1.f2))) (fun _ hk => hk.2) (.int .i64 ((rd_T63 l0 x6_1).f1.f3))) (fun _ hk => hk.2) (.int .i64 ((rd_T63 l0 x6_1).f1.f4))) (fun _ hk => hk.2) (.int .i64 ((rd_T63 l0 x6_1).f1.f5))) (fun _ hk => hk.2) (.slice A403_7 ((rd_T63 l0 x6_1).f1.f6).length c403_7)) (fun _ hk => hk.2) (.string ((rd_T63 l0 x6_1).f1.f7))) (fun _ hk => hk.2) (.string ((rd_T63 l0 x6_1).f1.f8))) (fun _ hk => trivial)⟩, ⟨by repeat (first | (with_reducible first | exact HB.out | apply below_alloc | apply pw_below_drewN | apply below_drew1 | refine below_set ?_ GE404.out) | exact HB.out)⟩⟩
        · rw [if_neg c6] at H
          exact absurd H (by simp)
      · rw [if_neg c5] at H
        have c5b0 : decide (x6_1 < (l0.length : Int)) = false := decide_eq_false c5
        clear c5
        obtain rfl := Option.some.inj H
        go_wp2
        go_ret
        exact ⟨_, by first | rfl | (simp [errW_none, errW_some] <;> rfl) | (simp [*, errW_none, errW_some] <;> rfl), by (with_reducible repeat (first | apply Kd.R_alloc | apply Kd.R_drewN | apply Kd.R_drew)); exact HO_5.out, by repeat (first | (with_reducible first | exact HB.out | apply below_alloc | apply pw_below_drewN | apply below_drew1) | exact HB.out)⟩

end Go.Proofs.Ytoiedcnhojkpiaa.Q
/- What is found, as ten cells; appended in a drawn region; the reference's Reach. -/
namespace Go.Proofs.Ytoiedcnhojkpiaa.Q
open Go.RowKit Go.Maps Go.Proofs.YtoiedcnhojkpiaaW.PrintWords Go.Proofs.YtoiedcnhojkpiaaW.PrintLast Go.Proofs.YtoiedcnhojkpiaaW.PrintMore
/-- One that is found, and where its ids lie. -/
structure X63 where
  x : S63
  A : Option Addr
  c : Nat
def encX (y : X63) : List Value := [.string y.x.f0, .string y.x.f1.f0, .int .i64 y.x.f1.f1, .int .i64 y.x.f1.f2, .int .i64 y.x.f1.f3, .int .i64 y.x.f1.f4, .int .i64 y.x.f1.f5, .slice y.A y.x.f1.f6.length y.c, .string y.x.f1.f7, .string y.x.f1.f8]
theorem encX_one (x : X63) : ∀ u ∈ encX x, u.oneCell' = true := by
  intro u hu
  simp only [encX, List.mem_cons, List.not_mem_nil, or_false] at hu
  rcases hu with rfl | rfl | rfl | rfl | rfl | rfl | rfl | rfl | rfl | rfl <;> rfl
def kX : Kd X63 where
  sz := 10
  E := []
  K := fun _ x cs => cs = encX x
  M := fun _ _ _ x cs => cs = encX x
  K_len := by rintro w x cs rfl; rfl
  K_one := by rintro w x cs rfl; exact encX_one x
  K_below := by rintro w w1 x cs _ rfl; rfl
  K_of_M := by rintro w base ok x cs rfl; rfl
  M_mono := by rintro w base ok ok' x cs _ rfl; rfl
  M_bound := by rintro w base ok x cs rfl; rfl
  M_move := by rintro w w1 base ok x cs _ rfl; rfl
  M_lower := by rintro w base base' ok x cs _ rfl; rfl
/-- Its ids are read there, and no text is too long. -/
def RdX (w : World) (y : X63) : Prop := (y.x.f1.f6.length ≤ y.c ∧ Kd.C Kd.string w y.A y.x.f1.f6.length y.x.f1.f6) ∧ y.x.f1.f7.size ≤ maxLen ∧ ∀ s ∈ y.x.f1.f6, s.size ≤ maxLen
theorem RdX.below {w w1 : World} {y : X63} (h : RdX w y) (hb : Below w.heap.size w w1) : RdX w1 y := ⟨⟨h.1.1, Kd.C_below h.1.2 hb⟩, h.2⟩
theorem C_X63 {w : World} {A : Option Addr} {ys : List X63} (h : Kd.C kX w A ys.length ys) (hr : ∀ y ∈ ys, RdX w y) : Kd.C k63 w A (ys.map (·.x)).length (ys.map (·.x)) := by
  refine ⟨rfl, by rw [List.length_map]; exact h.2.1, fun hn => ?_⟩
  rw [List.length_map] at hn
  obtain ⟨ad, e, hc⟩ := h.2.2 hn
  refine ⟨ad, e, fun j p hj => ?_⟩
  rw [List.getElem?_map] at hj
  obtain ⟨y, hy, rfl⟩ := Option.map_eq_some_iff.1 hj
  obtain ⟨c, hs, hk, hcell⟩ := hc j y hy
  have hk' : c = encX y := hk
  subst hk'
  have hR := hr y (List.mem_of_getElem? hy)
  exact ⟨encX y, rfl, k63_mk w y.x hR.1.1 hR.1.2, hcell⟩
theorem info62 : (Try.prog.info? 62).map (fun i => (i.zero, i.size, i.bytes)) = some (some (.agg #[.string ⟨#[]⟩, .string ⟨#[]⟩, .int .i64 0, .int .i64 0, .int .i64 0, .int .i64 0, .int .i64 0, .slice none 0 0, .string ⟨#[]⟩, .string ⟨#[]⟩]), 10, 128) := by kernel_rfl
theorem info63 : (Try.prog.info? 63).map (fun i => (i.zero, i.size, i.bytes)) = some (some (.agg #[.string ⟨#[]⟩, .string ⟨#[]⟩, .int .i64 0, .int .i64 0, .int .i64 0, .int .i64 0, .int .i64 0, .slice none 0 0, .string ⟨#[]⟩, .string ⟨#[]⟩]), 10, 128) := by kernel_rfl
theorem append62 {w : World} {base : Nat} {v : Value} {xs : List X63} (ty : TypeId) (hR : Kd.R kX 62 w base (fun _ => True) v xs) (p : X63) (hbase : base ≤ w.heap.size) (hl : xs.length ≤ 100000) :
    ∃ v1 w1, (apA #[56, 56] ty #[v, .slice (some ⟨w.heap.size, 0, none⟩) 1 1]).run Try.prog ((w.alloc (.cells (encX p).toArray 62)).drew) = .ok v1 w1 ∧ Kd.R kX 62 w1 base (fun _ => True) v1 (xs ++ [p]) ∧ w.grownBy w1 v.ownBlock ∧ (v1.ownBlock = v.ownBlock ∨ ∃ b, v1.ownBlock = some b ∧ w.heap.size ≤ b) :=
  append_eq (d := kX) (fun h _ _ _ => h) 56 ty 62 _ 128 Try.underlying56 info62 rfl (by decide) (by decide) hR p (encX p) rfl rfl (encX_one p) hbase (by omega)
theorem append63 {w : World} {base : Nat} {v : Value} {xs : List X63} (ty : TypeId) (hR : Kd.R kX 63 w base (fun _ => True) v xs) (p : X63) (hbase : base ≤ w.heap.size) (hl : xs.length ≤ 100000) :
    ∃ v1 w1, (apA #[57, 57] ty #[v, .slice (some ⟨w.heap.size, 0, none⟩) 1 1]).run Try.prog ((w.alloc (.cells (encX p).toArray 63)).drew) = .ok v1 w1 ∧ Kd.R kX 63 w1 base (fun _ => True) v1 (xs ++ [p]) ∧ w.grownBy w1 v.ownBlock ∧ (v1.ownBlock = v.ownBlock ∨ ∃ b, v1.ownBlock = some b ∧ w.heap.size ≤ b) :=
  append_eq (d := kX) (fun h _ _ _ => h) 57 ty 63 _ 128 Try.underlying57 info63 rfl (by decide) (by decide) hR p (encX p) rfl rfl (encX_one p) hbase (by omega)
theorem LeO.ge {α : Type} (f : Nat → Option α) (h : ∀ k, LeO (f k) (f (k + 1))) : ∀ (d k : Nat), LeO (f k) (f (k + d))
  | 0, _ => LeO.refl _
  | d + 1, k => (LeO.ge f h d k).trans (h (k + d))
theorem rising_ge (o : List ByteArray) (p : ByteArray) (hr : Rising o) (hl : o.length ≤ 10000) (k : Nat) (hk : 10001 ≤ k) : ∃ rs, garretref29_rising.f k o p = some rs ∧ Rising rs ∧ (∀ s, s ∈ rs ↔ s ∈ o ∨ s = p) ∧ rs.length ≤ o.length + 1 := by
  obtain ⟨rs, h1, h2⟩ := rising_l o p hr hl o.length 0 (by omega) (fun t s ht => absurd ht (Nat.not_lt_zero _))
  refine ⟨rs, ?_, h2⟩
  have h3 : garretref29_rising.f (o.length + 1) o p = some rs := h1
  have := LeO.ge (fun k => garretref29_rising.f k o p) (fun k => garretref29_rising.mono o p k) (k - (o.length + 1)) (o.length + 1) rs h3
  rwa [show o.length + 1 + (k - (o.length + 1)) = k by omega] at this
theorem rd63_get {l : List S63} {i : Nat} (h : i < l.length) : rd_T63 l (i : Int) = l[i] := by unfold rd_T63; simp [List.getD_eq_getElem?_getD, List.getElem?_eq_getElem h]
theorem reach_l1 (l : List S63) (x6 : Int) (a0 : ByteArray) (a1 a2 a3 a4 a5 : Int) (q : List ByteArray) (a7 a8 : ByteArray) (hq : q.length ≤ 60) : ∀ (d j : Nat) (o : List ByteArray) (k : Nat), j + d = q.length → Rising o → o.length + d ≤ 10000 → 10001 ≤ k →
    ∃ o', Rising o' ∧ (∀ s, s ∈ o' ↔ s ∈ o ∨ s ∈ q.drop j) ∧ o'.length ≤ o.length + d ∧ garretref29_Reach.l1 (k + d + 1) l o x6 (j : Int) a0 a1 a2 a3 a4 a5 q a7 a8 = garretref29_Reach.l0 k l o' (wrap64 (x6 + 1))
  | 0, j, o, k, hj, hr, hl, hk => ⟨o, hr, fun s => by rw [List.drop_eq_nil_of_le (by omega)]; simp, by omega, by rw [garretref29_Reach.l1, if_neg (by omega)]⟩
  | d + 1, j, o, k, hj, hr, hl, hk => by
    have hjl : j < q.length := by omega
    obtain ⟨rs, h1, h2, h3, h4⟩ := rising_ge o q[j] hr (by omega) (k + (d + 1)) (by omega)
    obtain ⟨o', g1, g2, g3, g4⟩ := reach_l1 l x6 a0 a1 a2 a3 a4 a5 q a7 a8 hq d (j + 1) rs k (by omega) h2 (by omega) hk
    refine ⟨o', g1, fun s => ?_, by omega, ?_⟩
    · rw [g2, h3, List.drop_eq_getElem_cons hjl, List.mem_cons]
      constructor
      · rintro ((h | h) | h)
        · exact .inl h
        · exact .inr (.inl h)
        · exact .inr (.inr h)
      · rintro (h | h | h)
        · exact .inl (.inl h)
        · exact .inl (.inr h)
        · exact .inr h
    · rw [garretref29_Reach.l1, if_pos (by omega), if_pos (by omega), rd9_get hjl, h1, Option.bind_some, wrap64_nat (by omega)]
      exact g4
theorem reach_l0 (l : List S63) (hl : l.length ≤ 60) (hs : ∀ x ∈ l, x.f1.f6.length ≤ 60) : ∀ (d i : Nat) (o : List ByteArray) (k : Nat), i + d = l.length → Rising o → o.length + d * 61 ≤ 10000 → 10002 + d * 62 ≤ k →
    ∃ rs, garretref29_Reach.l0 k l o (i : Int) = some rs ∧ Rising rs ∧ (∀ s, s ∈ rs ↔ s ∈ o ∨ s ∈ (l.drop i).flatMap gives) ∧ rs.length ≤ o.length + d * 61
  | 0, i, o, 0, h, hr, ho, hk => by omega
  | 0, i, o, k + 1, h, hr, ho, hk => ⟨o, by rw [garretref29_Reach.l0, if_neg (by omega)], hr, fun s => by rw [List.drop_eq_nil_of_le (by omega)]; simp, by omega⟩
  | d + 1, i, o, 0, h, hr, ho, hk => by omega
  | d + 1, i, o, k + 1, h, hr, ho, hk => by
    have hi : i < l.length := by omega
    have hd : ∀ s, s ∈ (l.drop i).flatMap gives ↔ s ∈ gives l[i] ∨ s ∈ (l.drop (i + 1)).flatMap gives := fun s => by rw [List.drop_eq_getElem_cons hi, List.flatMap_cons, List.mem_append]
    have h6 := hs l[i] (List.getElem_mem hi)
    rw [garretref29_Reach.l0, if_pos (by omega), if_pos (by omega), rd63_get hi]
    by_cases c2 : l[i].f1.f1 = 2
    · rw [if_pos c2]
      have hg : gives l[i] = [l[i].f1.f7] := by unfold gives; rw [if_pos c2]
      obtain ⟨rs, h1, h2, h3, h4⟩ := rising_ge o l[i].f1.f7 hr (by omega) k (by omega)
      obtain ⟨rs2, g1, g2, g3, g4⟩ := reach_l0 l hl hs d (i + 1) rs k (by omega) h2 (by omega) (by omega)
      rw [h1, Option.bind_some, wrap64_nat (by omega)]
      refine ⟨rs2, g1, g2, fun s => ?_, by omega⟩
      rw [g3, h3, hd, hg, List.mem_singleton, or_assoc]
    · rw [if_neg c2]
      by_cases c1 : l[i].f1.f1 = 1
      · rw [if_pos c1]
        have hg : gives l[i] = l[i].f1.f6 := by unfold gives; rw [if_neg c2, if_pos c1]
        obtain ⟨o', p1, p2, p3, p4⟩ := reach_l1 l i l[i].f1.f0 l[i].f1.f1 l[i].f1.f2 l[i].f1.f3 l[i].f1.f4 l[i].f1.f5 l[i].f1.f6 l[i].f1.f7 l[i].f1.f8 h6 l[i].f1.f6.length 0 o (k - l[i].f1.f6.length - 1) (by omega) hr (by omega) (by omega)
        rw [show k - l[i].f1.f6.length - 1 + l[i].f1.f6.length + 1 = k by omega, wrap64_nat (by omega)] at p4
        obtain ⟨rs2, g1, g2, g3, g4⟩ := reach_l0 l hl hs d (i + 1) o' (k - l[i].f1.f6.length - 1) (by omega) p1 (by omega) (by omega)
        refine ⟨rs2, p4.trans g1, g2, fun s => ?_, by omega⟩
        rw [g3, p2, hd, hg, List.drop_zero, or_assoc]
      · rw [if_neg c1, wrap64_nat (by omega)]
        have hg : gives l[i] = [] := by unfold gives; rw [if_neg c2, if_neg c1]
        obtain ⟨rs2, g1, g2, g3, g4⟩ := reach_l0 l hl hs d (i + 1) o k (by omega) hr (by omega) (by omega)
        refine ⟨rs2, g1, g2, fun s => ?_, by omega⟩
        rw [g3, hd, hg]
        simp
theorem rreach_calls (A : Option Addr) (c : Nat) (l : List S63) (root : ByteArray) (w : World) (hr : Kd.C k63 w A l.length l) (hc : l.length ≤ c) (hl : l.length ≤ 60) (hs : ∀ x ∈ l, x.f1.f6.length ≤ 60) :
    Calls Try.prog 20 #[.slice A l.length c, .string root] w fun e w' => ∃ (v : Value) (rs : List ByteArray), e = .returned v ∧ Kd.R Kd.string 9 w' w.heap.size (fun _ => True) v rs ∧ Rising rs ∧ (∀ s, s ∈ rs ↔ s ∈ reachL l root) ∧ rs.length ≤ 10000 ∧ Below w.heap.size w w' := by
  obtain ⟨rs, h1, h2, h3, h4⟩ := reach_l0 l hl hs l.length 0 [root] (10002 + l.length * 62) (by omega) (List.pairwise_singleton _ _) (by simp; omega) (Nat.le_refl _)
  refine (garretref29_Reach.calls (10002 + l.length * 62) A c l root rs w hr hc h1).mono fun e w' ⟨v, he, hR, hB⟩ => ⟨v, rs, he, hR, h2, fun s => ?_, by simp at h4; omega, hB⟩
  rw [h3, List.drop_zero]
  unfold reachL
  rw [List.mem_singleton, List.mem_cons]
end Go.Proofs.Ytoiedcnhojkpiaa.Q
/- The law SweepReach, walked. -/
namespace Go.Proofs.Ytoiedcnhojkpiaa.Q
open Go.RowKit Go.Maps Go.Proofs.YtoiedcnhojkpiaaW.PrintWords Go.Proofs.YtoiedcnhojkpiaaW.PrintLast Go.Proofs.YtoiedcnhojkpiaaW.PrintMore
theorem at_X {w : World} {A : Option Addr} {n : Nat} {xs : List X63} (h : Kd.C kX w A n xs) (i : Nat) (h1 : i < n) (x : X63) (hx : xs[i]? = some x) : ∃ ad, A = some ad ∧ w.cell? (ad.add (i * 10)) = some (.string x.x.f0) ∧ w.cell? ⟨(ad.add (i * 10)).block, (ad.add (i * 10)).off + 1, none⟩ = some (.string x.x.f1.f0) ∧ w.cell? ⟨(ad.add (i * 10)).block, (ad.add (i * 10)).off + 1 + 1, none⟩ = some (.int .i64 x.x.f1.f1) ∧ w.cell? ⟨(ad.add (i * 10)).block, (ad.add (i * 10)).off + 1 + 2, none⟩ = some (.int .i64 x.x.f1.f2) ∧ w.cell? ⟨(ad.add (i * 10)).block, (ad.add (i * 10)).off + 1 + 3, none⟩ = some (.int .i64 x.x.f1.f3) ∧ w.cell? ⟨(ad.add (i * 10)).block, (ad.add (i * 10)).off + 1 + 4, none⟩ = some (.int .i64 x.x.f1.f4) ∧ w.cell? ⟨(ad.add (i * 10)).block, (ad.add (i * 10)).off + 1 + 5, none⟩ = some (.int .i64 x.x.f1.f5) ∧ w.cell? ⟨(ad.add (i * 10)).block, (ad.add (i * 10)).off + 1 + 6, none⟩ = some (.slice x.A x.x.f1.f6.length x.c) ∧ w.cell? ⟨(ad.add (i * 10)).block, (ad.add (i * 10)).off + 1 + 7, none⟩ = some (.string x.x.f1.f7) ∧ w.cell? ⟨(ad.add (i * 10)).block, (ad.add (i * 10)).off + 1 + 8, none⟩ = some (.string x.x.f1.f8) := by
  obtain ⟨ad, c, e, _, hK, hc0⟩ := Kd.C_get h x (i : Int) (by omega) (by omega)
  have hg : xs.getD (i : Int).toNat x = x := by rw [Int.toNat_natCast, List.getD_eq_getElem?_getD, hx]; rfl
  rw [hg] at hK
  rw [Int.toNat_natCast] at hc0
  have hc : ∀ j u, c[j]? = some u → w.cell? (ad.add (i * 10 + j)) = some u := hc0
  have hK' : c = encX x := hK
  subst hK'
  exact ⟨ad, e, hc 0 _ rfl, by rw [← add_field _ _ 1 (by omega)]; exact hc 1 _ rfl, by rw [Nat.add_assoc, ← add_field _ _ 2 (by omega)]; exact hc 2 _ rfl, by rw [Nat.add_assoc, ← add_field _ _ 3 (by omega)]; exact hc 3 _ rfl, by rw [Nat.add_assoc, ← add_field _ _ 4 (by omega)]; exact hc 4 _ rfl, by rw [Nat.add_assoc, ← add_field _ _ 5 (by omega)]; exact hc 5 _ rfl, by rw [Nat.add_assoc, ← add_field _ _ 6 (by omega)]; exact hc 6 _ rfl, by rw [Nat.add_assoc, ← add_field _ _ 7 (by omega)]; exact hc 7 _ rfl, by rw [Nat.add_assoc, ← add_field _ _ 8 (by omega)]; exact hc 8 _ rfl, by rw [Nat.add_assoc, ← add_field _ _ 9 (by omega)]; exact hc 9 _ rfl⟩
theorem below_grown {B : Nat} {w W w1 : World} {row : Option Nat} (hB : Below B w W) (hg : W.grownBy w1 row) (h : B ≤ W.heap.size) (hr : ∀ k, row = some k → B ≤ k) : Below B w w1 :=
  ⟨hg.os.trans hB.os, hg.tape.trans hB.tape, hg.output.trans hB.output, Nat.le_trans hB.size hg.size, fun k hk => (hg.block k (Nat.lt_of_lt_of_le hk h) (fun e => by have := hr k e.symm; omega)).trans (hB.block k hk)⟩
attribute [local go_sem ↓] apA_eq
set_option maxHeartbeats 16000000 in
set_option maxRecDepth 100000 in
theorem reach_law (A0 : Option Addr) (c0 : Nat) (ys : List X63) (root : ByteArray) (w : World) (hr : Kd.C kX w A0 ys.length ys) (hR : ∀ y ∈ ys, RdX w y) (hroot : root.size ≤ maxLen) :
    Calls Try.prog 5 #[.slice A0 ys.length c0, .string root] w fun e w' => e = .returned (.bool true) ∧ Below w.heap.size w w' := by
  have HR := Aside0.mk hr
  have HX := Aside0.mk hR
  have hm := hr.2.1
  have hwk := fun W => works_calls W
  clear hr hR
  by_cases h60 : 60 < ys.length
  · go_enter Try.func5, Try.ntmps5
    go_wp2_with (fail)
    refine (hwk _).mono ?_
    rintro e w1 ⟨rfl, hB⟩
    have HB := Aside0.mk hB
    clear hB
    go_wp2_with (fail)
    go_ret
    exact ⟨rfl, HB.out⟩
  · have hyl : ys.length ≤ 60 := by omega
    clear hm
    have hlt60 : ((60 : Int) < (ys.length : Int)) = False := by simp; omega
    go_enter Try.func5, Try.ntmps5
    go_wp2_with (fail)
    go_loopw [5, 6, 7] (fun v5 v6 v7 wr => ∃ k : Nat, k ≤ ys.length ∧ v7 = .int .i64 k ∧ Aside0 (Kd.R kX 62 wr w.heap.size (fun _ => True) v5 (ys.take k)) ∧ Aside0 (Kd.R kX 63 wr w.heap.size (fun _ => True) v6 (ys.take k)) ∧ Aside0 (Below w.heap.size w wr) ∧ Aside0 (∀ y ∈ ys.take k, y.x.f1.f6.length ≤ 60)) (fun _ _ v7 _ => ys.length - (intOf v7).toNat)
    case atStart => exact ⟨0, Nat.zero_le _, rfl, ⟨Kd.R_nil kX 62 _ _ _⟩, ⟨Kd.R_nil kX 63 _ _ _⟩, ⟨Below.refl _ _⟩, ⟨fun y h => by simp at h⟩⟩
    case round =>
      clear hlt60 h60
      obtain ⟨k, hk, rfl, HA, HB, HW, HI⟩ := hrel
      by_cases hlt : k < ys.length
      · obtain ⟨y, hy⟩ : ∃ y, ys[k]? = some y := ⟨_, List.getElem?_eq_getElem hlt⟩
        have HTK : Aside0 (ys.take (k + 1) = ys.take k ++ [y]) := ⟨by rw [List.take_succ_eq_append_getElem hlt]; congr 2; exact (List.getElem?_eq_some_iff.1 hy).2⟩
        obtain ⟨ad, rfl, q0, q1, q2, q3, q4, q5, q6, q7, q8, q9⟩ := at_X (Kd.C_below HR.out HW.out) k hlt y hy
        have HY := Aside0.mk hy
        clear hy
        have hml : k < maxLen := by unfold maxLen; omega
        by_cases hi : 60 < y.x.f1.f6.length
        · go_wp2_with (fail)
          refine (hwk _).mono ?_
          rintro e w1 ⟨rfl, hB⟩
          have HB2 := Aside0.mk (below_step HW.out hB)
          clear hB
          go_wp2_with (fail)
          go_ret
          exact ⟨rfl, HB2.out⟩
        · have hil : y.x.f1.f6.length ≤ 60 := by omega
          have hWS : w.heap.size ≤ wr.heap.size := HW.out.size
          obtain ⟨v9, w9, hrun, ho, hg, hat⟩ := append62 56 HA.out y hWS (by rw [List.length_take]; omega)
          have HO9 := Aside0.mk ho
          have HB9 := Aside0.mk (R_other HB.out HA.out (by decide) hg)
          have HW9 : Aside0 (Below w.heap.size w w9) := ⟨below_grown HW.out hg HW.out.size (fun k hk => Kd.R_base HA.out k hk)⟩
          clear ho hg hat
          unfold encX at hrun
          go_upto_region 10 with (fail)
          go_cut [5] (fun v5 wc => Aside0 (Kd.R kX 62 wc w.heap.size (fun _ => True) v5 (ys.take k ++ [y])) ∧ Aside0 (Kd.R kX 63 wc w.heap.size (fun _ => True) u6 (ys.take k)) ∧ Aside0 (Below w.heap.size w wc))
          case first =>
            go_region_with (fail)
            all_goals go_wp2_with (fail)
            all_goals go_meet
            all_goals exact ⟨HO9, HB9, HW9⟩
          case rest =>
            clear hrun HO9 HB9 HW9 q0 q1 q2 q3 q4 q5 q6 q7 q8 q9 HA HB HW hWS w9 v9
            obtain ⟨HA, HB, HW⟩ := hcut
            obtain ⟨ad', hade, q0, q1, q2, q3, q4, q5, q6, q7, q8, q9⟩ := at_X (Kd.C_below HR.out HW.out) k hlt y HY.out
            injection hade with hade
            subst hade
            have hWS : w.heap.size ≤ wc.heap.size := HW.out.size
            obtain ⟨v9, w9, hrun, ho, hg, hat⟩ := append63 57 HB.out y hWS (by rw [List.length_take]; omega)
            have HO9 := Aside0.mk ho
            have HA9 := Aside0.mk (R_other HA.out HB.out (by decide) hg)
            have HW9 : Aside0 (Below w.heap.size w w9) := ⟨below_grown HW.out hg HW.out.size (fun k hk => Kd.R_base HB.out k hk)⟩
            have HI9 : Aside0 (∀ y ∈ ys.take (k + 1), y.x.f1.f6.length ≤ 60) := ⟨fun z hz => by
              rw [HTK.out] at hz
              rcases List.mem_append.1 hz with h | h
              · exact HI.out z h
              · rw [List.mem_singleton.1 h]; exact hil⟩
            clear ho hg hat
            unfold encX at hrun
            go_upto_region 11 with (fail)
            go_region_with (fail)
            all_goals go_wp2_with (fail)
            all_goals go_roundw
            all_goals first
              | exact ⟨k + 1, by omega, by go_num, ⟨by rw [HTK.out]; exact HA9.out⟩, ⟨by rw [HTK.out]; exact HO9.out⟩, HW9, HI9⟩
              | (simp [intOf]; omega)
      · obtain rfl : k = ys.length := by omega
        have hA := HA.out
        have hB := HB.out
        have hI := HI.out
        rw [List.take_length] at hA hB hI
        obtain ⟨Aa, ca, rfl, hca, hCa⟩ := Kd.R_reads hA
        obtain ⟨Ab, cb, rfl, hcb, hCb⟩ := Kd.R_reads hB
        have HCa := Aside0.mk (C_X63 hCa (fun y hy => (HX.out y hy).below HW.out))
        have HCb := Aside0.mk (C_X63 hCb (fun y hy => (HX.out y hy).below HW.out))
        have HS1 : Aside0 (∀ x ∈ ys.map (·.x), x.f1.f6.length ≤ 60 ∧ x.f1.f7.size ≤ maxLen ∧ ∀ s ∈ x.f1.f6, s.size ≤ maxLen) := ⟨fun x hx => by
          obtain ⟨y, hy, rfl⟩ := List.mem_map.1 hx
          exact ⟨hI y hy, (HX.out y hy).2⟩⟩
        have hr1 := fun W (hW : Below wr.heap.size wr W) => reach_calls Aa ca (ys.map (·.x)) root W (Kd.C_below HCa.out hW) (by rw [List.length_map]; exact hyl) hroot HS1.out
        have hr2 := fun W (hW : Below wr.heap.size wr W) => rreach_calls Ab cb (ys.map (·.x)) root W (Kd.C_below HCb.out hW) (by rw [List.length_map]; exact hcb) (by rw [List.length_map]; exact hyl) (fun x hx => (HS1.out x hx).1)
        simp only [List.length_map] at hr1 hr2
        clear hA hB hI hCa hCb HA HB HI
        go_wp2_with (fail)
        refine (hr1 _ (Below.refl _ _)).mono ?_
        rintro e w1 ⟨v1, rs1, rfl, hR1, hris1, hmem1, hB1⟩
        obtain ⟨A1, c1, rfl, hc1, hC1⟩ := Kd.R_reads hR1
        have HC1 := Aside0.mk hC1
        have HB1 := Aside0.mk hB1
        have HE1 : Aside0 (Rising rs1 ∧ ∀ s, s ∈ rs1 ↔ s ∈ reachL (ys.map (·.x)) root) := ⟨hris1, hmem1⟩
        clear hR1 hris1 hmem1 hB1 hC1
        go_wp2_with (fail)
        refine (hr2 _ HB1.out).mono ?_
        rintro e w2 ⟨v2, rs2, rfl, hR2, hris2, hmem2, hlen2, hB2⟩
        obtain ⟨A2, c2, rfl, hc2, hC2⟩ := Kd.R_reads hR2
        obtain rfl : rs1 = rs2 := rising_eq HE1.out.1 hris2 (fun s => by rw [HE1.out.2, hmem2])
        have HC2 := Aside0.mk hC2
        have HC1' := Aside0.mk (Kd.C_below HC1.out hB2)
        have HBW := Aside0.mk (below_step HW.out (below_step HB1.out hB2))
        have hlen : rs1.length ≤ 10000 := hlen2
        clear hlen2
        clear hR2 hris2 hmem2 hB2 hC2 HC1 HB1 HE1 hr1 hr2
        go_wp2_with (fail)
        refine (same_calls A1 A2 c1 c2 rs1 rs1 w2 HC1'.out hc1 HC2.out hc2 hlen).mono ?_
        rintro e w3 ⟨rfl, hB3⟩
        have HBW3 := Aside0.mk (below_step HBW.out hB3)
        rw [decide_eq_true (rfl : rs1 = rs1)]
        clear hB3
        go_wp2_with (fail)
        refine (hwk _).mono ?_
        rintro e w4 ⟨rfl, hB4⟩
        have HBW4 := Aside0.mk (below_step HBW3.out hB4)
        clear hB4
        go_wp2_with (fail)
        go_ret
        exact ⟨rfl, HBW4.out⟩
end Go.Proofs.Ytoiedcnhojkpiaa.Q
