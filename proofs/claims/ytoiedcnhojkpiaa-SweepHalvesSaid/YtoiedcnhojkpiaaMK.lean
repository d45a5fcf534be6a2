/- Of the proofs about sweep: several texts, joined. -/
import Derived.Test.YtoiedcnhojkpiaaMF
namespace Go.Proofs.Ytoiedcnhojkpiaa.Q
open Go.RowKit Go.Maps Go.Proofs.YtoiedcnhojkpiaaW.PrintWords Go.Proofs.YtoiedcnhojkpiaaW.PrintLast Go.Proofs.YtoiedcnhojkpiaaW.PrintMore
def stayL (F : Nat → List S52) (reach kept : List UInt8 → Bool) (ids : List ByteArray) : List S52 := ids.filterMap fun id =>
  if (stayP (reach id.data.toList) kept (places (F (bk id)) id)).2 then some ⟨id, (stayP (reach id.data.toList) kept (places (F (bk id)) id)).1⟩ else none
def moveL (F : Nat → List S52) (reach moved : List UInt8 → Bool) (ids : List ByteArray) : List ByteArray := ids.filter fun id => reach id.data.toList && moved (getP (F (bk id)) id).1.f0.data.toList
theorem idsOf_mem (l : List S52) (s : ByteArray) : s ∈ idsOf l ↔ ∃ x ∈ l, x.f0 = s := by
  unfold idsOf
  suffices h : ∀ (l : List S52) (o : List ByteArray), s ∈ l.foldl idStep o ↔ s ∈ o ∨ ∃ x ∈ l, x.f0 = s by simpa using h l []
  intro l
  induction l with
  | nil => intro o; simp
  | cons a l ih =>
    intro o
    rw [List.foldl_cons, ih]
    have h2 : s ∈ idStep o a ↔ s ∈ o ∨ a.f0 = s := by
      unfold idStep
      split
      · rename_i hg
        constructor
        · exact .inl
        · rintro (h | rfl)
          · exact h
          · exact List.mem_of_getLast? hg
      · simp [eq_comm]
    rw [h2]
    simp [or_assoc]
theorem places_ne (l : List S52) (x : S52) (hx : x ∈ l) : ∃ p ps, places l x.f0 = p :: ps := by
  have h : x.f1 ∈ places l x.f0 := List.mem_map.2 ⟨x, List.mem_filter.2 ⟨hx, by simp⟩, rfl⟩
  cases hp : places l x.f0 with
  | nil => rw [hp] at h; cases h
  | cons p ps => exact ⟨p, ps, rfl⟩
theorem stayL_take (F : Nat → List S52) (reach kept : List UInt8 → Bool) (l : List ByteArray) (k : Nat) (h : k < l.length) : stayL F reach kept (l.take (k + 1)) = stayL F reach kept (l.take k) ++ (if (stayP (reach l[k].data.toList) kept (places (F (bk l[k])) l[k])).2 then [⟨l[k], (stayP (reach l[k].data.toList) kept (places (F (bk l[k])) l[k])).1⟩] else []) := by
  unfold stayL
  rw [List.take_succ_eq_append_getElem h, List.filterMap_append]
  congr 1
  simp only [List.filterMap_cons, List.filterMap_nil]
  split <;> rename_i hh
  · split at hh
    · cases hh
    · rename_i h2; simp [h2]
  · split at hh
    · injection hh with hh; rename_i h2; simp [h2, hh]
    · cases hh
theorem moveL_take (F : Nat → List S52) (reach moved : List UInt8 → Bool) (l : List ByteArray) (k : Nat) (h : k < l.length) : moveL F reach moved (l.take (k + 1)) = moveL F reach moved (l.take k) ++ (if (reach l[k].data.toList && moved (getP (F (bk l[k])) l[k]).1.f0.data.toList) = true then [l[k]] else []) := by
  unfold moveL
  rw [List.take_succ_eq_append_getElem h, List.filter_append]
  congr 1
  by_cases hf : (reach l[k].data.toList && moved (getP (F (bk l[k])) l[k]).1.f0.data.toList) = true
  · rw [if_pos hf]; simp only [List.filter_cons, hf, if_true, List.filter_nil]
  · rw [if_neg hf]; simp only [List.filter_cons, hf, List.filter_nil]; rfl
theorem Kd.R_set5 {α : Type} {d : Kd α} {e base g t : Nat} {w : World} {ok : Nat → Prop} {v a0 a1 a2 a3 a4 : Value} {xs : List α} (h : Kd.R d e w base ok v xs) (hb : w.heap[g]? = some (.cells #[a0, a1, a2, a3, a4] t (0, 0))) (ht : ∀ q, q ∈ e :: d.E → q ≠ t) (v0 v1 v2 v3 v4 : Value) : Kd.R d e (set5 w g v0 v1 v2 v3 v4) base ok v xs :=
  Kd.R_set (Kd.R_set (Kd.R_set (Kd.R_set (Kd.R_set h hb ht 0 v0) (blk_set hb 0 v0) ht 1 v1) (blk_set (blk_set hb 0 v0) 1 v1) ht 2 v2) (blk_set (blk_set (blk_set hb 0 v0) 1 v1) 2 v2) ht 3 v3) (blk_set (blk_set (blk_set (blk_set hb 0 v0) 1 v1) 2 v2) 3 v3) ht 4 v4
theorem wpList_lookup_setG {ops : Array Oper} {rest : List Oper} {o : Oper} {a : Act} {Q : Exit → Act → World → Prop} (w : World) (hw : Region.wanted o (yielded ops a.tmps) = true) (m x : Operand) (t : TypeId) (hop : o.op = Op.lookup t m x false) (ht : Try.prog.underlying t = some (.map 9 4)) (b n : Nat) (p : List UInt8 → Bool)
    (hm : a.eval m = .map (some b)) (hown : SetAt w b n p) (s : ByteArray) (hs : s.size ≤ maxLen) (hx : a.eval x = .string s)
    (hK : wpList Try.prog ops Q rest (a.put o.dst (.bool (p s.data.toList))) w) : wpList Try.prog ops Q (o :: rest) a w := by
  refine wpList_step fun K' hK' => ?_
  simp only [hw, if_true]
  have hrun := hown.look ht hs
  unfold Oper.wp
  simp [execOp, hop, hm, hx, hrun, Result.andThen]
  exact hK' _ _ hK
theorem of_calls' (A : Option Addr) (c : Nat) (l : List ByteArray) (w : World) (hr : Kd.C Kd.string w A l.length l) (hl : l.length ≤ 100000) (hs : ∀ s ∈ l, s.size ≤ maxLen) :
    Calls Try.prog 30 #[.slice A l.length c] w fun e w' => ∃ gk, e = .returned (.map (some gk)) ∧ w.heap.size ≤ gk ∧ SetAt w' gk l.length (memb l) ∧ Below w.heap.size w w' :=
  (of_calls A c l w hr hl hs).mono fun _ _ h => ⟨_, h.1, Nat.le_refl _, h.2⟩
theorem KeepB.toGrown {g : Nat} {w w1 : World} (h : KeepB w.heap.size g w w1) : w.grownBy w1 (some g) := ⟨h.os, h.tape, h.output, h.size, fun k hk hg => h.block k hk (fun e => hg (by rw [e]))⟩
theorem KeepB.toBelow {B g : Nat} {w W w1 : World} (hb : Below B w W) (h : KeepB W.heap.size g W w1) (hg : B ≤ g) (hB : B ≤ W.heap.size) : Below B w w1 := below_map hb h.toGrown hB hg
theorem KeepB.blk {base g k : Nat} {w w1 : World} {o : Obj} (h : KeepB base g w w1) (hb : w.heap[k]? = some o) (h1 : k < base) (h2 : k ≠ g) : w1.heap[k]? = some o := (h.block k h1 h2).trans hb
set_option maxHeartbeats 8000000 in
set_option maxRecDepth 100000 in
theorem make_calls (base g cr cp : Nat) (AR AP : Option Addr) (F : Nat → List S52) (lr lp : List ByteArray) (percent : Int) (w : World) (h : Tab w base g F) (hG : GoodF F) (hF : ∀ j, (F j).length ≤ 1000) (hl : (allF F).length ≤ 5000) (hr : Kd.C Kd.string w AR lr.length lr) (hp : Kd.C Kd.string w AP lp.length lp) (hlr : lr.length ≤ 1000) (hlp : lp.length ≤ 1000) (hsr : ∀ s ∈ lr, s.size ≤ maxLen) (hsp : ∀ s ∈ lp, s.size ≤ maxLen) (hpc0 : 0 ≤ percent) (hpc1 : percent ≤ 100) :
    Calls Try.prog 11 #[.pointer (some ⟨g, 0, none⟩), .slice AR lr.length cr, .slice AP lp.length cp, .int .i64 percent] w fun e w' => ∃ vD vR vK vS vM pk, e = .returned (.tuple #[.agg #[vD, vR, vK, vS, vM], .int .i64 0]) ∧ Rising pk ∧ (∀ s, s ∈ pk ↔ s ∈ lp ∨ s ∈ packsOf (allF F)) ∧
      Kd.R Kd.string 9 w' w.heap.size (fun _ => True) vD (fated (wOf F (memb lr) (allF F)) percent 0 pk) ∧ Kd.R Kd.string 9 w' w.heap.size (fun _ => True) vR (fated (wOf F (memb lr) (allF F)) percent 1 pk) ∧ Kd.R Kd.string 9 w' w.heap.size (fun _ => True) vK (fated (wOf F (memb lr) (allF F)) percent 2 pk) ∧
      Kd.R k52 52 w' w.heap.size (fun _ => True) vS (stayL F (memb lr) (memb (fated (wOf F (memb lr) (allF F)) percent 2 pk)) (idsOf (allF F))) ∧ Kd.R Kd.string 9 w' w.heap.size (fun _ => True) vM (moveL F (memb lr) (memb (fated (wOf F (memb lr) (allF F)) percent 1 pk)) (idsOf (allF F))) ∧ Below w.heap.size w w' := by
  have HT := Aside0.mk h
  have HG := Aside0.mk hG
  have HF := Aside0.mk hF
  have HL := Aside0.mk hl
  have HR := Aside0.mk hr
  have HP := Aside0.mk hp
  have HSR := Aside0.mk hsr
  have HSP := Aside0.mk hsp
  clear h hG hF hl hr hp hsr hsp
  have hnl : ((none : Option Addr) == some ⟨g, 0, none⟩) = false := rfl
  go_enter Try.func11, Try.ntmps11
  go_upto_region 3 with (fail)
  have HB0 : Aside0 (Below w.heap.size w (w.alloc (.cells #[.slice none 0 0, .slice none 0 0, .slice none 0 0, .slice none 0 0, .slice none 0 0] 36))) := ⟨below_alloc (Below.refl _ _) _⟩
  have HG0 : Aside0 ((w.alloc (.cells #[.slice none 0 0, .slice none 0 0, .slice none 0 0, .slice none 0 0, .slice none 0 0] 36)).heap[w.heap.size]? = some (.cells #[.slice none 0 0, .slice none 0 0, .slice none 0 0, .slice none 0 0, .slice none 0 0] 36 (0, 0))) := ⟨(MapKept.heap_alloc w _).1⟩
  generalize (w.alloc (.cells #[.slice none 0 0, .slice none 0 0, .slice none 0 0, .slice none 0 0, .slice none 0 0] 36)) = W at HB0 HG0 ⊢
  go_wp2_with (fail)
  refine (of_calls AR cr lr W (Kd.C_below HR.out HB0.out) (by omega) HSR.out).mono ?_
  rintro e w1 ⟨rfl, hS, hB⟩
  have HRE := Aside0.mk hS
  have HRE_lt : Aside0 (W.heap.size < w1.heap.size) := ⟨hS.lt⟩
  have HB1 := Aside0.mk (below_step HB0.out hB)
  have HG1 := Aside0.mk (blk_below HG0.out hB)
  have HGE : Aside0 (w.heap.size < W.heap.size) := ⟨blk_lt HG0.out⟩
  clear hS hB HB0 HG0
  generalize W.heap.size = gr at HRE HRE_lt HGE ⊢
  go_wp2_with (fail)
  refine (of_calls AP cp lp w1 (Kd.C_below HP.out HB1.out) (by omega) HSP.out).mono ?_
  rintro e w2 ⟨rfl, hS, hB⟩
  have HAL := Aside0.mk hS
  have HB2 := Aside0.mk (below_step HB1.out hB)
  have HG2 := Aside0.mk (blk_below HG1.out hB)
  have HRE2 := Aside0.mk (HRE.out.below hB)
  have HAL_lt : Aside0 (w1.heap.size < w2.heap.size) := ⟨hS.lt⟩
  clear hS hB HB1 HG1 HRE
  generalize w1.heap.size = ga at HAL HAL_lt HRE_lt ⊢
  go_wp2_with (fail)
  refine (packs_calls base g F w2 (HT.out.below HB2.out) (by have := HL.out; omega)).mono ?_
  rintro e w3 ⟨v, rfl, hR, hB⟩
  obtain ⟨A3, c3, rfl, _, hC3⟩ := Kd.R_reads hR
  have HB3 := Aside0.mk (below_step HB2.out hB)
  have HG3 := Aside0.mk (blk_below HG2.out hB)
  have HRE3 := Aside0.mk (HRE2.out.below hB)
  have HAL3 := Aside0.mk (HAL.out.below hB)
  have HC3 := Aside0.mk hC3
  have HPL : Aside0 ((packsOf (allF F)).length ≤ 5000) := ⟨Nat.le_trans (packsOf_len _) HL.out⟩
  have HPS : Aside0 (∀ s ∈ packsOf (allF F), s.size ≤ maxLen) := ⟨fun s hs => by
    obtain ⟨x, hx, rfl⟩ := (packsOf_mem _ _).1 hs
    obtain ⟨j, _, hj⟩ := (allF_mem F x).1 hx
    have := (size32 ((HG.out j).2 x hj).2).2.1
    unfold maxLen; omega⟩
  have HLT3 : Aside0 (ga < w3.heap.size) := ⟨HAL3.out.lt⟩
  clear hR hB hC3 HB2 HG2 HRE2 HAL HAL_lt
  go_wp2_with (fail)
  refine (of_calls A3 c3 (packsOf (allF F)) w3 HC3.out (by have := HPL.out; omega) HPS.out).mono ?_
  rintro e w4 ⟨rfl, hS, hB⟩
  have HQ := Aside0.mk hS
  have HB4 := Aside0.mk (below_step HB3.out hB)
  have HG4 := Aside0.mk (blk_below HG3.out hB)
  have HRE4 := Aside0.mk (HRE3.out.below hB)
  have HAL4 := Aside0.mk (HAL3.out.below hB)
  have HNE : Aside0 (ga ≠ w3.heap.size) := ⟨by have := HLT3.out; omega⟩
  clear hS hB HB3 HG3 HRE3 HAL3 HLT3 HC3
  generalize w3.heap.size = gq at HQ HNE ⊢
  go_wp2_with (fail)
  refine (copy_calls ga gq lp.length (packsOf (allF F)).length (memb lp) (memb (packsOf (allF F))) w4 HAL4.out HQ.out HNE.out (by have := HPL.out; omega)).mono ?_
  rintro e w5 ⟨rfl, hS, hg⟩
  obtain ⟨es, cl, hb⟩ := HAL4.out.blk
  have HAL5 := Aside0.mk hS
  have HRE5 := Aside0.mk (HRE4.out.kept hg (fun e => by injection e with e; have := HRE_lt.out; omega))
  have HB5 := Aside0.mk (below_map HB4.out hg HB4.out.size (by have := HGE.out; have := HRE_lt.out; omega))
  have HG5 : Aside0 (w5.heap[w.heap.size]? = some (.cells #[.slice none 0 0, .slice none 0 0, .slice none 0 0, .slice none 0 0, .slice none 0 0] 36 (0, 0))) := ⟨(hg.block w.heap.size (blk_lt HG4.out) (fun e => by injection e with e; have := HGE.out; have := HRE_lt.out; omega)).trans HG4.out⟩
  clear hS hg hb HB4 HG4 HRE4 HAL4 HQ HNE
  go_upto_region 7 with (fail)
  have HBX : Aside0 (Below w5.heap.size w5 (w5.alloc (.cells #[.slice none 0 0, .slice none 0 0, .slice none 0 0, .slice none 0 0, .slice none 0 0] 36))) := ⟨below_alloc (Below.refl _ _) _⟩
  have HP6 : Aside0 ((w5.alloc (.cells #[.slice none 0 0, .slice none 0 0, .slice none 0 0, .slice none 0 0, .slice none 0 0] 36)).heap[w5.heap.size]? = some (.cells #[.slice none 0 0, .slice none 0 0, .slice none 0 0, .slice none 0 0, .slice none 0 0] 36 (0, 0))) := ⟨(MapKept.heap_alloc w5 _).1⟩
  generalize (w5.alloc (.cells #[.slice none 0 0, .slice none 0 0, .slice none 0 0, .slice none 0 0, .slice none 0 0] 36)) = w6 at HBX HP6 ⊢
  have HB6 := Aside0.mk (below_step HB5.out HBX.out)
  have HG6 := Aside0.mk (blk_below HG5.out HBX.out)
  have HRE6 := Aside0.mk (HRE5.out.below HBX.out)
  have HAL6 := Aside0.mk (HAL5.out.below HBX.out)
  have HPGE : Aside0 (w.heap.size < w5.heap.size ∧ gr < w5.heap.size) := ⟨blk_lt HG5.out, HRE5.out.lt⟩
  clear HB5 HG5 HRE5 HAL5 HBX
  generalize w5.heap.size = gp at HP6 HPGE ⊢
  go_wp2_with (fail)
  refine (rising_calls ga _ _ w6 HAL6.out (by have := HPL.out; omega)).mono ?_
  rintro e w7 ⟨v, pk, rfl, hR, hris, hmem, hpl, hB⟩
  obtain ⟨A7, c7, rfl, _, hC7⟩ := Kd.R_reads hR
  have HB7 := Aside0.mk (below_step HB6.out hB)
  have HG7 := Aside0.mk (blk_below HG6.out hB)
  have HP7 := Aside0.mk (blk_below HP6.out hB)
  have HRE7 := Aside0.mk (HRE6.out.below hB)
  have HC7 := Aside0.mk hC7
  have HA7 : Aside0 (∀ ad, A7 = some ad → ad.block < w7.heap.size ∧ ad.block ≠ gp) := ⟨fun ad he => by
    subst he
    obtain ⟨inner, ho⟩ := Kd.R_own hR
    have h1 := own_lt ho ad.block rfl
    have h2 := own_base ho ad.block rfl
    have h3 := blk_lt HP6.out
    omega⟩
  have HRIS := Aside0.mk hris
  have HMEM : Aside0 (∀ s : ByteArray, s ∈ pk ↔ s ∈ lp ∨ s ∈ packsOf (allF F)) := ⟨fun s => by rw [hmem s, Bool.or_eq_true, memb_iff, memb_iff]⟩
  have HPKL : Aside0 (pk.length ≤ 10000) := ⟨by have := HPL.out; omega⟩
  have HPKS : Aside0 (∀ s ∈ pk, s.size ≤ maxLen) := ⟨fun s hs => by rcases (HMEM.out s).1 hs with h | h; exact HSP.out s h; exact HPS.out s h⟩
  clear hR hris hmem hpl hB hC7 HB6 HG6 HP6 HRE6 HAL6
  go_wp2_with (fail)
  refine (weigh_calls base g gr lr.length F (memb lr) w7 (HT.out.below HB7.out) HRE7.out HG.out (fun j => by have := HF.out j; omega) HL.out).mono ?_
  rintro e w8 ⟨rfl, hW, hB⟩
  have HWA := Aside0.mk hW
  have HB8 := Aside0.mk (below_step HB7.out hB)
  have HG8 := Aside0.mk (blk_below HG7.out hB)
  have HP8 := Aside0.mk (blk_below HP7.out hB)
  have HRE8 := Aside0.mk (HRE7.out.below hB)
  have HC8 := Aside0.mk (Kd.C_below HC7.out hB)
  have HA8 : Aside0 (∀ ad, A7 = some ad → ad.block < w8.heap.size ∧ ad.block ≠ gp) := ⟨fun ad he => by have := HA7.out ad he; have := hB.size; omega⟩
  have HWNE : Aside0 (w7.heap.size ≠ gp) := ⟨by have := blk_lt HP7.out; omega⟩
  have HWF : Aside0 (∀ y, 0 ≤ (wOf F (memb lr) (allF F) y).1 ∧ (wOf F (memb lr) (allF F) y).1 ≤ 400000000 ∧ 0 ≤ (wOf F (memb lr) (allF F) y).2 ∧ (wOf F (memb lr) (allF F) y).2 ≤ 400000000) := ⟨fun y => by
    have hGA : ∀ x ∈ allF F, chk x = true := fun x hx => by obtain ⟨j, _, hj⟩ := (allF_mem F x).1 hx; exact ((HG.out j).2 x hj).2
    have hwb := wOf_bound F (memb lr) (allF F) (fun _ => (0, 0)) 0 (fun y hy => by have := size32 (hGA y hy); omega) (fun y => by simp) y
    rw [← wOf] at hwb
    have := HL.out
    omega⟩
  clear hW hB HB7 HG7 HP7 HRE7 HC7 HA7
  generalize w7.heap.size = gw at HWA HWNE ⊢
  have HWT : Aside0 (gw ≠ gp) := HWNE
  go_wp2_with (fail)
  refine (fates_calls gp gw _ c7 A7 pk (wOf F (memb lr) (allF F)) percent w8 (.slice none 0 0) (.slice none 0 0) HP8.out HC8.out HA8.out HPKL.out HPKS.out HWA.out HWNE.out HWF.out ⟨hpc0, hpc1⟩).mono ?_
  rintro e w9 ⟨rfl, vD, vR, vK, hP, hD, hRR, hKK, -, -, -, hKB⟩
  obtain ⟨lD, hlD⟩ : ∃ l, l = fated (wOf F (memb lr) (allF F)) percent 0 pk := ⟨_, rfl⟩
  obtain ⟨lR, hlR⟩ : ∃ l, l = fated (wOf F (memb lr) (allF F)) percent 1 pk := ⟨_, rfl⟩
  obtain ⟨lK, hlK⟩ : ∃ l, l = fated (wOf F (memb lr) (allF F)) percent 2 pk := ⟨_, rfl⟩
  rw [← hlD] at hD
  rw [← hlR] at hRR
  rw [← hlK] at hKK
  have hRl : lR.length ≤ 10000 := by rw [hlR]; exact Nat.le_trans (fated_len _ _ _ _) HPKL.out
  have hKl : lK.length ≤ 10000 := by rw [hlK]; exact Nat.le_trans (fated_len _ _ _ _) HPKL.out
  have HRS : Aside0 (∀ s ∈ lR, s.size ≤ maxLen) := ⟨fun s hs => by rw [hlR] at hs; exact HPKS.out s ((List.mem_filter.1 hs).1)⟩
  have HKS : Aside0 (∀ s ∈ lK, s.size ≤ maxLen) := ⟨fun s hs => by rw [hlK] at hs; exact HPKS.out s ((List.mem_filter.1 hs).1)⟩
  have HEQ : Aside0 (lD = fated (wOf F (memb lr) (allF F)) percent 0 pk ∧ lR = fated (wOf F (memb lr) (allF F)) percent 1 pk ∧ lK = fated (wOf F (memb lr) (allF F)) percent 2 pk) := ⟨hlD, hlR, hlK⟩
  have HW8 : Aside0 (w.heap.size ≤ w8.heap.size) := ⟨HB8.out.size⟩
  have HD9 := Aside0.mk (Kd.R_lower hD HW8.out)
  have HR9 := Aside0.mk (Kd.R_lower hRR HW8.out)
  have HK9 := Aside0.mk (Kd.R_lower hKK HW8.out)
  have HB9 := Aside0.mk (hKB.toBelow HB8.out (Nat.le_of_lt HPGE.out.1) HW8.out)
  have HG9 := Aside0.mk (hKB.blk HG8.out (blk_lt HG8.out) (by have := HPGE.out; omega))
  have HRE9 := Aside0.mk (HRE8.out.kept hKB.toGrown (fun e => by injection e with e; have := HPGE.out; omega))
  have HP9 := Aside0.mk hP
  have HNOW9 : Aside0 (some gp ≠ vD.ownBlock ∧ some gp ≠ vR.ownBlock ∧ some gp ≠ vK.ownBlock) := ⟨Kd.R_ne hD hP (by decide), Kd.R_ne hRR hP (by decide), Kd.R_ne hKK hP (by decide)⟩
  clear hP hD hRR hKK hKB HB8 HG8 HP8 HRE8 HC8 HA8 HWNE HWT HWF HWA HW8 hlD hlR hlK
  obtain ⟨AD, cD, rfl, _, _⟩ := Kd.R_reads HD9.out
  obtain ⟨AR2, cR, rfl, _, hCR⟩ := Kd.R_reads HR9.out
  obtain ⟨AK, cK, rfl, _, hCK⟩ := Kd.R_reads HK9.out
  have k2 : w9.cell? ⟨gp, 2, none⟩ = some (.slice AK lK.length cK) := (blk_cell HP9.out 2).trans rfl
  have k1 : w9.cell? ⟨gp, 1, none⟩ = some (.slice AR2 lR.length cR) := (blk_cell HP9.out 1).trans rfl
  have hofK := fun W hW => of_calls' AK cK lK W hW (by omega) HKS.out
  have hofR := fun W hW => of_calls' AR2 cR lR W hW (by omega) HRS.out
  have HCK := Aside0.mk hCK
  have HCR := Aside0.mk hCR
  clear hCK hCR
  go_wp2_with (fail)
  go_region_held3 (fun wq => wq.cell? ⟨gp, 2, none⟩ = some (.slice AK lK.length cK) ∧ wq.cell? ⟨gp, 1, none⟩ = some (.slice AR2 lR.length cR)) (first | assumption | exact ⟨k2, k1⟩ | exact ⟨k2a, k1a⟩ | exact ⟨k2b, k1b⟩) (first | (go_at_call 30; (with_reducible refine (hofK _ (Kd.C_below HCK.out (below_drew (Below.refl _ _)))).mono ?_); rintro e w10 ⟨gk, rfl, hgk, hS, hB⟩; have HKG : Aside0 (w9.heap.size ≤ gk) := ⟨hgk⟩; have HKP10 := Aside0.mk hS; have HBX : Aside0 (Below w9.heap.size w9 w10) := ⟨below_step (below_drew (Below.refl _ _)) hB⟩; have k2a : w10.cell? ⟨gp, 2, none⟩ = some (.slice AK lK.length cK) := pw_cell_below hB k2; have k1a : w10.cell? ⟨gp, 1, none⟩ = some (.slice AR2 lR.length cR) := pw_cell_below hB k1; clear hgk hS hB) | (go_at_call 30; (with_reducible refine (hofR _ (Kd.C_below HCR.out HBX.out)).mono ?_); rintro e w11 ⟨gv, rfl, hgv, hS, hB⟩; have HMG : Aside0 (w9.heap.size ≤ gv) := ⟨Nat.le_trans HBX.out.size hgv⟩; have HMV11 := Aside0.mk hS; have HKP11 := Aside0.mk (HKP10.out.below hB); have HBY : Aside0 (Below w9.heap.size w9 w11) := ⟨below_step HBX.out hB⟩; have k2b : w11.cell? ⟨gp, 2, none⟩ = some (.slice AK lK.length cK) := pw_cell_below hB k2a; have k1b : w11.cell? ⟨gp, 1, none⟩ = some (.slice AR2 lR.length cR) := pw_cell_below hB k1a; clear hgv hS hB))
  have HPK9 := Aside0.mk (blk_lt HP9.out)
  clear k1 k2 k1a k2a k1b k2b hofK hofR HCK HCR
  have HB11 := Aside0.mk (below_step HB9.out HBY.out)
  have HG11 := Aside0.mk (blk_below HG9.out HBY.out)
  have HP11 := Aside0.mk (blk_below HP9.out HBY.out)
  have HRE11 := Aside0.mk (HRE9.out.below HBY.out)
  have HD11 := Aside0.mk (Kd.R_below HD9.out HBY.out)
  have HR11 := Aside0.mk (Kd.R_below HR9.out HBY.out)
  have HK11 := Aside0.mk (Kd.R_below HK9.out HBY.out)
  clear HBX HKP10 HB9 HG9 HP9 HRE9 HD9 HR9 HK9
  go_wp2_with (fail)
  refine (ids_calls base g F w11 (HT.out.below HB11.out) (by have := HL.out; omega)).mono ?_
  rintro e w12 ⟨v, rfl, hR, hB⟩
  obtain ⟨li, hli⟩ : ∃ l, l = idsOf (allF F) := ⟨_, rfl⟩
  rw [← hli] at hR
  have HLI := Aside0.mk hli
  have hil : li.length ≤ 5000 := by rw [hli]; exact Nat.le_trans (idsOf_len _) HL.out
  have HID : Aside0 (∀ id ∈ li, id.size ≤ maxLen ∧ ∃ p ps, places (F (bk id)) id = p :: ps ∧ (∀ q ∈ p :: ps, q.f0.size ≤ maxLen) ∧ (p :: ps).length ≤ 1000) := ⟨fun id hid => by
    rw [hli] at hid
    obtain ⟨x, hx, rfl⟩ := (idsOf_mem _ _).1 hid
    obtain ⟨j, _, hj⟩ := (allF_mem F x).1 hx
    obtain ⟨hb, hc⟩ := (HG.out j).2 x hj
    subst hb
    obtain ⟨p, ps, hp⟩ := places_ne _ _ hj
    have h32 := (size32 hc).1
    refine ⟨by unfold maxLen; omega, p, ps, hp, fun q hq => ?_, ?_⟩
    · rw [← hp] at hq
      obtain ⟨y, hy, rfl⟩ := List.mem_map.1 hq
      have := (size32 ((HG.out _).2 y (List.mem_filter.1 hy).1).2).2.1
      unfold maxLen; omega
    · rw [← hp]
      have h1 : (places (F (bk x.f0)) x.f0).length ≤ (F (bk x.f0)).length := by unfold places; rw [List.length_map]; exact List.length_filter_le _ _
      have h2 := HF.out (bk x.f0)
      omega⟩
  obtain ⟨AI, cI, rfl, _, hCI⟩ := Kd.R_reads hR
  have HCI := Aside0.mk hCI
  have HAI : Aside0 (∀ ad, AI = some ad → ad.block < w12.heap.size ∧ ad.block ≠ gp) := ⟨fun ad he => by
    subst he
    obtain ⟨inner, ho⟩ := Kd.R_own hR
    have h1 := own_lt ho ad.block rfl
    have h2 := own_base ho ad.block rfl
    have h3 := blk_lt HP11.out
    omega⟩
  have HMV := Aside0.mk (HMV11.out.below hB)
  have HKP := Aside0.mk (HKP11.out.below hB)
  have HB12 := Aside0.mk (below_step HB11.out hB)
  have HG12 := Aside0.mk (blk_below HG11.out hB)
  have HP12 := Aside0.mk (blk_below HP11.out hB)
  have HRE := Aside0.mk (HRE11.out.below hB)
  have HD12 := Aside0.mk (Kd.R_below HD11.out hB)
  have HR12 := Aside0.mk (Kd.R_below HR11.out hB)
  have HK12 := Aside0.mk (Kd.R_below HK11.out hB)
  clear hR hB hCI hli HB11 HG11 HP11 HRE11 HD11 HR11 HK11 HKP11 HMV11
  obtain ⟨B, hBe⟩ : ∃ B, B = w12.heap.size := ⟨_, rfl⟩
  have HBE := Aside0.mk hBe
  have HBW : Aside0 (w.heap.size ≤ B ∧ gp < B) := ⟨by rw [hBe]; exact ⟨HB12.out.size, blk_lt HP12.out⟩⟩
  clear hBe
  go_wp2_with (fail)
  go_loopw [56] (fun v56 wr => ∃ k : Nat, k ≤ li.length ∧ v56 = .int .i64 k ∧ ∃ vS vM, Aside0 (wr.heap[gp]? = some (.cells #[.slice AD lD.length cD, .slice AR2 lR.length cR, .slice AK lK.length cK, vS, vM] 36 (0, 0))) ∧ Aside0 (Kd.R k52 52 wr B (fun _ => True) vS (stayL F (memb lr) (memb lK) (li.take k))) ∧ Aside0 (Kd.R Kd.string 9 wr B (fun _ => True) vM (moveL F (memb lr) (memb lR) (li.take k))) ∧ Aside0 (KeepB B gp w12 wr) ∧ Aside0 (B ≤ wr.heap.size)) (fun v56 _ => li.length - (intOf v56).toNat)
  case atStart => exact ⟨0, Nat.zero_le _, rfl, _, _, HP12, ⟨Kd.R_nil k52 52 _ _ _⟩, ⟨Kd.R_nil Kd.string 9 _ _ _⟩, ⟨KeepB.of_below (Below.refl _ _) (by rw [HBE.out]; exact Nat.le_refl _)⟩, ⟨by rw [HBE.out]; exact Nat.le_refl _⟩⟩
  case round =>
    obtain ⟨k, hk, rfl, vS, vM, HPW, HSW, HMW, HKB, HBS⟩ := hrel
    have HGR : Aside0 (w12.grownBy wr (some gp)) := ⟨(show KeepB w12.heap.size gp w12 wr by rw [← HBE.out]; exact HKB.out).toGrown⟩
    have HBL : Aside0 (Below w.heap.size w wr) := ⟨below_map HB12.out HGR.out HB12.out.size (Nat.le_of_lt HPGE.out.1)⟩
    by_cases hlt : k < li.length
    · obtain ⟨ad, rfl, _⟩ := Kd.at_string HCI.out (k : Int) (by omega) (by omega)
      obtain ⟨ha1, ha2⟩ := HAI.out ad rfl
      obtain ⟨ad', e, hx⟩ := Kd.at_string (HKB.out.Cs HCI.out (by rw [HBE.out]; exact ha1) ha2) (k : Int) (by omega) (by omega)
      injection e with e
      subst e
      have hd : rdOf ByteArray.empty li (k : Int) = li[k] := by unfold rdOf; simp [List.getD_eq_getElem?_getD, List.getElem?_eq_getElem hlt]
      rw [hd, Int.toNat_natCast] at hx
      have HTS := Aside0.mk (stayL_take F (memb lr) (memb lK) li k hlt)
      have HTM := Aside0.mk (moveL_take F (memb lr) (memb lR) li k hlt)
      obtain ⟨hids, p, ps, hpl, hpss, hpsl⟩ := HID.out li[k] (List.getElem_mem hlt)
      have HIDS := Aside0.mk hids
      have HPLC := Aside0.mk hpl
      have HPSS := Aside0.mk hpss
      have HGETP : Aside0 ((getP (F (bk li[k])) li[k]).1.f0 = p.f0) := ⟨by unfold getP; rw [hpl]⟩
      rw [hpl] at HTS
      rw [HGETP.out] at HTM
      clear hd ha1 ha2 hids hpl hpss HGETP
      generalize li[k] = id at hx HTS HTM HIDS HPLC
      have hml : k < maxLen := by unfold maxLen; omega
      go_wp2_with (fail)
      refine (places_calls base g F id wr (HT.out.below HBL.out) (by have := HF.out (bk id); omega) (HG.out (bk id)).1).mono ?_
      rintro e w3 ⟨v17, rfl, hR, hB⟩
      rw [HPLC.out] at hR
      obtain ⟨pl, hpl⟩ : ∃ pl, pl = p :: ps := ⟨_, rfl⟩
      rw [← hpl] at hR hpsl
      have HPE := Aside0.mk hpl
      obtain ⟨A5, c5, rfl, _, hC5⟩ := Kd.R_reads hR
      have HC5 := Aside0.mk hC5
      have HR50 := Aside0.mk hR
      have HBX := Aside0.mk hB
      have HB3 := Aside0.mk (below_step HBL.out hB)
      have HGR3 : Aside0 (KeepB B gp w12 w3) := ⟨HKB.out.trans (KeepB.of_below hB HBS.out)⟩
      have HBS3 : Aside0 (B ≤ w3.heap.size) := ⟨Nat.le_trans HBS.out hB.size⟩
      have HP3 := Aside0.mk (blk_below HPW.out hB)
      have HS3 := Aside0.mk (Kd.R_below HSW.out hB)
      have HM3 := Aside0.mk (Kd.R_below HMW.out hB)
      have HTO : ∀ (W : World) (b n : Nat) (q : List UInt8 → Bool), KeepB B gp w12 W → SetAt w12 b n q → b ≠ gp → SetAt W b n q := fun W b n q hW hS hne => hS.kept (show KeepB w12.heap.size gp w12 _ by rw [← HBE.out]; exact hW).toGrown (fun e => by injection e with e; exact hne e)
      have HRE3 := Aside0.mk (HTO _ _ _ _ HGR3.out HRE.out (by have := HPGE.out; omega))
      have HKP3 := Aside0.mk (HTO _ _ _ _ HGR3.out HKP.out (by have := HKG.out; have := HPK9.out; omega))
      obtain ⟨rb, hrb⟩ : ∃ rb, memb lr id.data.toList = rb := ⟨_, rfl⟩
      rw [hrb] at HTS HTM
      have HRB := Aside0.mk hrb
      rw [← HPE.out] at HTS
      clear hrb
      clear hR hC5 hB hpl HPW HSW HMW HKB HBS HBL HGR hx
      have hst := fun (rb : Bool) W (hk : SetAt W gk lK.length (memb lK)) (hc : Kd.C k50 W A5 pl.length pl) => stays_calls A5 c5 pl rb gk lK.length (memb lK) W hc (by omega) hk (by rw [HPE.out]; exact HPSS.out)
      go_wp2_with (first | (at_lookup; refine wpList_lookup_set _ rfl _ _ 81 rfl Try.underlying81 gr lr.length (memb lr) rfl HRE3.out id HIDS.out rfl ?_; rw [HRB.out]))
      refine (hst _ _ HKP3.out HC5.out).mono ?_
      rintro e w4 ⟨rfl, hB⟩
      obtain ⟨sp, so, hso⟩ : ∃ sp so, stayP rb (memb lK) pl = (sp, so) := ⟨_, _, rfl⟩
      rw [hso] at HTS ⊢
      have HB4 := Aside0.mk (below_step HBX.out hB)
      have HB34 := Aside0.mk hB
      unfold v50
      clear hso hB hst HKP3 HRE3
      go_upto_region 14 with (fail)
      have HB45 : Aside0 (Below w3.heap.size w3 (w4.alloc (.cells #[.string sp.f0, .int .i64 sp.f1, .int .i64 sp.f2, .int .i64 sp.f3, .int .i64 sp.f4] 50))) := ⟨below_alloc HB34.out _⟩
      have HX5 : Aside0 ((w4.alloc (.cells #[.string sp.f0, .int .i64 sp.f1, .int .i64 sp.f2, .int .i64 sp.f3, .int .i64 sp.f4] 50)).heap[w4.heap.size]? = some (.cells #[.string sp.f0, .int .i64 sp.f1, .int .i64 sp.f2, .int .i64 sp.f3, .int .i64 sp.f4] 50 (0, 0))) := ⟨(MapKept.heap_alloc w4 _).1⟩
      generalize (w4.alloc (.cells #[.string sp.f0, .int .i64 sp.f1, .int .i64 sp.f2, .int .i64 sp.f3, .int .i64 sp.f4] 50)) = W5 at HB45 HX5 ⊢
      generalize w4.heap.size = gx at HX5 ⊢
      have HP5 := Aside0.mk (blk_below HP3.out HB45.out)
      have HS5 := Aside0.mk (Kd.R_below HS3.out HB45.out)
      have HM5 := Aside0.mk (Kd.R_below HM3.out HB45.out)
      have HQ5 := Aside0.mk (Kd.R_below HR50.out HB45.out)
      have HK5 : Aside0 (KeepB B gp w12 W5) := ⟨HGR3.out.trans (KeepB.of_below HB45.out HBS3.out)⟩
      have HBS5 : Aside0 (B ≤ W5.heap.size) := ⟨Nat.le_trans HBS3.out HB45.out.size⟩
      have HBB5 : Aside0 (Below B W5 W5) := ⟨Below.refl _ _⟩
      have HSLN : Aside0 (∀ q, (stayL F (memb lr) q (li.take k)).length ≤ 5000) := ⟨fun q => by unfold stayL; have h1 := List.length_filterMap_le (fun id => if (stayP (memb lr id.data.toList) q (places (F (bk id)) id)).2 then some (⟨id, (stayP (memb lr id.data.toList) q (places (F (bk id)) id)).1⟩ : S52) else none) (li.take k); have := List.length_take_le k li; omega⟩
      have HMLN : Aside0 (∀ q, (moveL F (memb lr) q (li.take k)).length ≤ 5000) := ⟨fun q => by unfold moveL; have h1 := List.length_filter_le (fun id => memb lr id.data.toList && q (getP (F (bk id)) id).1.f0.data.toList) (li.take k); have := List.length_take_le k li; omega⟩
      have hkk : li.length ≤ 5000 := hil
      clear HB34 HB45 HP3 HS3 HM3 HR50 HGR3 HBS3 HBX HB3 HB4 HC5
      cases so with
      | true =>
        have HTS' : Aside0 (stayL F (memb lr) (memb lK) (li.take (k + 1)) = stayL F (memb lr) (memb lK) (li.take k) ++ [(⟨id, sp⟩ : S52)]) := ⟨HTS.out⟩
        have p3 : W5.cell? ⟨gp, 3, none⟩ = some vS := (blk_cell HP5.out 3).trans rfl
        have y0 : W5.cell? ⟨gx, 0, none⟩ = some (.string sp.f0) := (blk_cell HX5.out 0).trans rfl
        have y1 : W5.cell? ⟨gx, 1, none⟩ = some (.int .i64 sp.f1) := (blk_cell HX5.out 1).trans rfl
        have y2 : W5.cell? ⟨gx, 2, none⟩ = some (.int .i64 sp.f2) := (blk_cell HX5.out 2).trans rfl
        have y3 : W5.cell? ⟨gx, 3, none⟩ = some (.int .i64 sp.f3) := (blk_cell HX5.out 3).trans rfl
        have y4 : W5.cell? ⟨gx, 4, none⟩ = some (.int .i64 sp.f4) := (blk_cell HX5.out 4).trans rfl
        go_upto_region 16 with (first | ((with_reducible refine gate_builtin (b := .append) (xs := #[.tmp 74, .tmp 78]) rfl ?_); at_builtin; refine Kd.R_append k52 (w0 := W5) B ?hg (.tmp 74) (.tmp 78) 22 52 (.agg #[.string ⟨#[]⟩, .string ⟨#[]⟩, .int .i64 0, .int .i64 0, .int .i64 0, .int .i64 0]) 64 ?ho Try.underlying22 info52 rfl (by decide) (by omega) vS ((stayL F (memb lr) (memb lK) (li.take k))) ((⟨id, sp⟩ : S52)) [.string id, .string sp.f0, .int .i64 sp.f1, .int .i64 sp.f2, .int .i64 sp.f3, .int .i64 sp.f4] (fun _ => True) (fun _ => False) ?hs ?hx ?aP (fun _ hk => hk.elim) (fun _ _ => trivial) ?aO ?aB ?aS ?aL ?_; (case hg => rfl); (case ho => rfl); (case hs => rfl); (case hx => rfl); (case aP => exact k52_mkM _ _ _ ((⟨id, sp⟩ : S52))); (case aB => exact HBB5.out); (case aO => exact HS5.out); (case aS => exact HBS5.out); (case aL => have := HSLN.out (memb lK); omega); intro v9 w9 ho hb hg hat; obtain ⟨A9, c9, hv9⟩ := Kd.R_slice ho; subst hv9; obtain ⟨n9, hn9⟩ : ∃ n9, n9 = ((stayL F (memb lr) (memb lK) (li.take k)) ++ [(⟨id, sp⟩ : S52)]).length := ⟨_, rfl⟩; rw [← hn9] at ho hat ⊢; clear hn9; have HO9 := Aside0.mk ho; have HB9 := Aside0.mk hb; have HM9 := Aside0.mk (R_other HM5.out HS5.out (by decide) hg); have HQ9 := Aside0.mk (R_other HQ5.out HS5.out (by decide) hg); have HP9 : Aside0 (w9.heap[gp]? = some (.cells #[.slice AD lD.length cD, .slice AR2 lR.length cR, .slice AK lK.length cK, vS, vM] 36 (0, 0))) := ⟨(hg.block gp (blk_lt HP5.out) (Kd.R_ne HS5.out HP5.out (by decide))).trans HP5.out⟩; have HK9 : Aside0 (KeepB B gp w12 w9) := ⟨HK5.out.trans (KeepB.grown hg HBS5.out (fun k hk => Kd.R_base HS5.out k hk))⟩; have hp9 : w9.cell? ⟨gp, 3, none⟩ = some vS := (blk_cell HP9.out 3).trans rfl; have hf9 := blk_frozen HP9.out 3; clear ho hb hg hat))
        obtain ⟨vS6, hvS6⟩ : ∃ vS6, vS6 = Value.slice A9 n9 c9 := ⟨_, rfl⟩
        have HP6 := Aside0.mk (blk_set HP9.out 3 (.slice A9 n9 c9))
        have HS6 := Aside0.mk (Kd.R_set HO9.out HP9.out (by decide) 3 (.slice A9 n9 c9))
        have HM6 := Aside0.mk (Kd.R_set HM9.out HP9.out (by decide) 3 (.slice A9 n9 c9))
        have HQ6 := Aside0.mk (Kd.R_set HQ9.out HP9.out (by decide) 3 (.slice A9 n9 c9))
        have HK6 : Aside0 (KeepB B gp w12 (w9.setCell ⟨gp, 3, none⟩ (.slice A9 n9 c9))) := ⟨HK9.out.trans (KeepB.set _ _ _)⟩
        have HBS6 : Aside0 (B ≤ (w9.setCell ⟨gp, 3, none⟩ (.slice A9 n9 c9)).heap.size) := ⟨by have := HB9.out.size; have := HBS5.out; simp; omega⟩
        generalize w9.setCell ⟨gp, 3, none⟩ (.slice A9 n9 c9) = W6 at HP6 HS6 HM6 HQ6 HK6 HBS6 ⊢
        rw [← HTS'.out, ← hvS6] at HS6
        have HP6 : Aside0 (W6.heap[gp]? = some (.cells #[.slice AD lD.length cD, .slice AR2 lR.length cR, .slice AK lK.length cK, vS6, vM] 36 (0, 0))) := ⟨by have := HP6.out; rw [← hvS6] at this; exact this⟩
        rw [← hvS6]
        clear HO9 HB9 HM9 HQ9 HP9 HK9 hp9 hf9 hvS6 p3 y0 y1 y2 y3 y4
        have HRE6 := Aside0.mk (HTO _ _ _ _ HK6.out HRE.out (by have := HPGE.out; omega))
        have HMV6 := Aside0.mk (HTO _ _ _ _ HK6.out HMV.out (by have := HMG.out; have := HPK9.out; omega))
        cases rb with
        | false =>
          go_wp2_with (first | (at_lookup; refine wpList_lookup_set _ rfl _ _ 81 rfl Try.underlying81 gr lr.length (memb lr) rfl HRE6.out id HIDS.out rfl ?_; rw [HRB.out]))
          go_roundw
          case rel => exact ⟨k + 1, by omega, by go_num, vS6, vM, HP6, HS6, ⟨by rw [HTM.out]; simpa using HM6.out⟩, HK6, HBS6⟩
          case measure => simp [intOf]; omega
        | true =>
          obtain ⟨ad5, hA5, x0, _⟩ := first50 (p := p) (ps := ps) (w := W6) (A := A5) (by rw [← HPE.out]; exact (C_of_R HQ6.out).1)
          have hpl0 : 0 < pl.length := by rw [HPE.out]; simp
          have HPS6 : Aside0 (p.f0.size ≤ maxLen) := ⟨HPSS.out p (by simp)⟩
          obtain ⟨mb, hmb⟩ : ∃ mb, memb lR p.f0.data.toList = mb := ⟨_, rfl⟩
          have HMB := Aside0.mk hmb
          rw [hmb] at HTM
          subst hA5
          clear hmb
          cases mb with
          | false =>
            go_wp2_with (first | (at_lookup; refine wpList_lookup_set _ rfl _ _ 81 rfl Try.underlying81 gr lr.length (memb lr) rfl HRE6.out id HIDS.out rfl ?_; rw [HRB.out]) | (at_lookup; refine wpList_lookup_setG _ (wanted_on rfl rfl rfl rfl) _ _ 81 rfl Try.underlying81 gv lR.length (memb lR) rfl HMV6.out p.f0 HPS6.out rfl ?_; rw [HMB.out]))
            go_roundw
            case rel => exact ⟨k + 1, by omega, by go_num, vS6, vM, HP6, HS6, ⟨by rw [HTM.out]; simpa using HM6.out⟩, HK6, HBS6⟩
            case measure => simp [intOf]; omega
          | true =>
            have p4 : W6.cell? ⟨gp, 4, none⟩ = some vM := (blk_cell HP6.out 4).trans rfl
            have HBB6 : Aside0 (Below B W6 W6) := ⟨Below.refl _ _⟩
            go_wp2_with (first | (at_lookup; refine wpList_lookup_set _ rfl _ _ 81 rfl Try.underlying81 gr lr.length (memb lr) rfl HRE6.out id HIDS.out rfl ?_; rw [HRB.out]) | (at_lookup; refine wpList_lookup_setG _ (wanted_on rfl rfl rfl rfl) _ _ 81 rfl Try.underlying81 gv lR.length (memb lR) rfl HMV6.out p.f0 HPS6.out rfl ?_; rw [HMB.out]) | ((with_reducible refine gate_builtin (b := .append) (xs := #[.tmp 93, .tmp 95]) rfl ?_); at_builtin; refine Kd.R_append Kd.string (w0 := W6) B ?hg (.tmp 93) (.tmp 95) 23 9 (.string ⟨#[]⟩) 16 ?ho Try.underlying23 info9 rfl (by decide) (by omega) vM ((moveL F (memb lr) (memb lR) (li.take k))) (id) [.string id] (fun _ => True) (fun _ => False) ?hs ?hx ?aP (fun _ hk => hk.elim) (fun _ _ => trivial) ?aO ?aB ?aS ?aL ?_; (case hg => rfl); (case ho => rfl); (case hs => rfl); (case hx => rfl); (case aP => exact rfl); (case aB => exact HBB6.out); (case aO => exact HM6.out); (case aS => exact HBS6.out); (case aL => have := HMLN.out (memb lR); omega); intro v9 w9 ho hb hg hat; obtain ⟨A8, c8, hv8⟩ := Kd.R_slice ho; subst hv8; obtain ⟨n8, hn8⟩ : ∃ n8, n8 = ((moveL F (memb lr) (memb lR) (li.take k)) ++ [id]).length := ⟨_, rfl⟩; rw [← hn8] at ho hat ⊢; clear hn8; have HO8 := Aside0.mk ho; have HB8 := Aside0.mk hb; have HS8 := Aside0.mk (R_other HS6.out HM6.out (by decide) hg); have HP8 : Aside0 (w9.heap[gp]? = some (.cells #[.slice AD lD.length cD, .slice AR2 lR.length cR, .slice AK lK.length cK, vS6, vM] 36 (0, 0))) := ⟨(hg.block gp (blk_lt HP6.out) (Kd.R_ne HM6.out HP6.out (by decide))).trans HP6.out⟩; have HK8 : Aside0 (KeepB B gp w12 w9) := ⟨HK6.out.trans (KeepB.grown hg HBS6.out (fun k hk => Kd.R_base HM6.out k hk))⟩; have hp8 : w9.cell? ⟨gp, 4, none⟩ = some vM := (blk_cell HP8.out 4).trans rfl; have hf8 := blk_frozen HP8.out 4; clear ho hb hg hat))
            go_roundw
            case rel => exact ⟨k + 1, by omega, by go_num, vS6, (.slice A8 n8 c8), ⟨blk_set HP8.out 4 _⟩, ⟨Kd.R_set HS8.out HP8.out (by decide) _ _⟩, ⟨by rw [HTM.out]; simpa using Kd.R_set HO8.out HP8.out (by decide) _ _⟩, ⟨HK8.out.trans (KeepB.set _ _ _)⟩, ⟨by have := HB8.out.size; have := HBS6.out; simp; omega⟩⟩
            case measure => simp [intOf]; omega
      | false =>
        have HTS' : Aside0 (stayL F (memb lr) (memb lK) (li.take (k + 1)) = stayL F (memb lr) (memb lK) (li.take k)) := ⟨by rw [HTS.out]; simp⟩
        go_upto_region 16 with (fail)
        have HS6 := HS5
        rw [← HTS'.out] at HS6
        have HP6 := HP5
        have HM6 := HM5
        have HQ6 := HQ5
        have HK6 := HK5
        have HBS6 := HBS5
        clear HP5 HS5 HM5 HQ5 HK5 HBS5
        obtain ⟨vS6, hvS6⟩ : ∃ vS6, vS6 = vS := ⟨_, rfl⟩
        rw [← hvS6] at HP6 HS6
        obtain ⟨W6, hW6⟩ : ∃ W6, W6 = W5 := ⟨_, rfl⟩
        subst hW6
        have HRE6 := Aside0.mk (HTO _ _ _ _ HK6.out HRE.out (by have := HPGE.out; omega))
        have HMV6 := Aside0.mk (HTO _ _ _ _ HK6.out HMV.out (by have := HMG.out; have := HPK9.out; omega))
        cases rb with
        | false =>
          go_wp2_with (first | (at_lookup; refine wpList_lookup_set _ rfl _ _ 81 rfl Try.underlying81 gr lr.length (memb lr) rfl HRE6.out id HIDS.out rfl ?_; rw [HRB.out]))
          go_roundw
          case rel => exact ⟨k + 1, by omega, by go_num, vS6, vM, HP6, HS6, ⟨by rw [HTM.out]; simpa using HM6.out⟩, HK6, HBS6⟩
          case measure => simp [intOf]; omega
        | true =>
          obtain ⟨ad5, hA5, x0, _⟩ := first50 (p := p) (ps := ps) (w := W6) (A := A5) (by rw [← HPE.out]; exact (C_of_R HQ6.out).1)
          have hpl0 : 0 < pl.length := by rw [HPE.out]; simp
          have HPS6 : Aside0 (p.f0.size ≤ maxLen) := ⟨HPSS.out p (by simp)⟩
          obtain ⟨mb, hmb⟩ : ∃ mb, memb lR p.f0.data.toList = mb := ⟨_, rfl⟩
          have HMB := Aside0.mk hmb
          rw [hmb] at HTM
          subst hA5
          clear hmb
          cases mb with
          | false =>
            go_wp2_with (first | (at_lookup; refine wpList_lookup_set _ rfl _ _ 81 rfl Try.underlying81 gr lr.length (memb lr) rfl HRE6.out id HIDS.out rfl ?_; rw [HRB.out]) | (at_lookup; refine wpList_lookup_setG _ (wanted_on rfl rfl rfl rfl) _ _ 81 rfl Try.underlying81 gv lR.length (memb lR) rfl HMV6.out p.f0 HPS6.out rfl ?_; rw [HMB.out]))
            go_roundw
            case rel => exact ⟨k + 1, by omega, by go_num, vS6, vM, HP6, HS6, ⟨by rw [HTM.out]; simpa using HM6.out⟩, HK6, HBS6⟩
            case measure => simp [intOf]; omega
          | true =>
            have p4 : W6.cell? ⟨gp, 4, none⟩ = some vM := (blk_cell HP6.out 4).trans rfl
            have HBB6 : Aside0 (Below B W6 W6) := ⟨Below.refl _ _⟩
            go_wp2_with (first | (at_lookup; refine wpList_lookup_set _ rfl _ _ 81 rfl Try.underlying81 gr lr.length (memb lr) rfl HRE6.out id HIDS.out rfl ?_; rw [HRB.out]) | (at_lookup; refine wpList_lookup_setG _ (wanted_on rfl rfl rfl rfl) _ _ 81 rfl Try.underlying81 gv lR.length (memb lR) rfl HMV6.out p.f0 HPS6.out rfl ?_; rw [HMB.out]) | ((with_reducible refine gate_builtin (b := .append) (xs := #[.tmp 93, .tmp 95]) rfl ?_); at_builtin; refine Kd.R_append Kd.string (w0 := W6) B ?hg (.tmp 93) (.tmp 95) 23 9 (.string ⟨#[]⟩) 16 ?ho Try.underlying23 info9 rfl (by decide) (by omega) vM ((moveL F (memb lr) (memb lR) (li.take k))) (id) [.string id] (fun _ => True) (fun _ => False) ?hs ?hx ?aP (fun _ hk => hk.elim) (fun _ _ => trivial) ?aO ?aB ?aS ?aL ?_; (case hg => rfl); (case ho => rfl); (case hs => rfl); (case hx => rfl); (case aP => exact rfl); (case aB => exact HBB6.out); (case aO => exact HM6.out); (case aS => exact HBS6.out); (case aL => have := HMLN.out (memb lR); omega); intro v9 w9 ho hb hg hat; obtain ⟨A8, c8, hv8⟩ := Kd.R_slice ho; subst hv8; obtain ⟨n8, hn8⟩ : ∃ n8, n8 = ((moveL F (memb lr) (memb lR) (li.take k)) ++ [id]).length := ⟨_, rfl⟩; rw [← hn8] at ho hat ⊢; clear hn8; have HO8 := Aside0.mk ho; have HB8 := Aside0.mk hb; have HS8 := Aside0.mk (R_other HS6.out HM6.out (by decide) hg); have HP8 : Aside0 (w9.heap[gp]? = some (.cells #[.slice AD lD.length cD, .slice AR2 lR.length cR, .slice AK lK.length cK, vS6, vM] 36 (0, 0))) := ⟨(hg.block gp (blk_lt HP6.out) (Kd.R_ne HM6.out HP6.out (by decide))).trans HP6.out⟩; have HK8 : Aside0 (KeepB B gp w12 w9) := ⟨HK6.out.trans (KeepB.grown hg HBS6.out (fun k hk => Kd.R_base HM6.out k hk))⟩; have hp8 : w9.cell? ⟨gp, 4, none⟩ = some vM := (blk_cell HP8.out 4).trans rfl; have hf8 := blk_frozen HP8.out 4; clear ho hb hg hat))
            go_roundw
            case rel => exact ⟨k + 1, by omega, by go_num, vS6, (.slice A8 n8 c8), ⟨blk_set HP8.out 4 _⟩, ⟨Kd.R_set HS8.out HP8.out (by decide) _ _⟩, ⟨by rw [HTM.out]; simpa using Kd.R_set HO8.out HP8.out (by decide) _ _⟩, ⟨HK8.out.trans (KeepB.set _ _ _)⟩, ⟨by have := HB8.out.size; have := HBS6.out; simp; omega⟩⟩
            case measure => simp [intOf]; omega
    · obtain rfl : k = li.length := by omega
      have hSe := HSW.out
      have hMe := HMW.out
      rw [List.take_length] at hSe hMe
      obtain ⟨AS, cS, hvS⟩ := Kd.R_slice hSe
      obtain ⟨nS, hnS⟩ : ∃ n, n = (stayL F (memb lr) (memb lK) li).length := ⟨_, rfl⟩
      rw [← hnS] at hvS
      subst hvS
      obtain ⟨AM, cM, hvM⟩ := Kd.R_slice hMe
      obtain ⟨nM, hnM⟩ : ∃ n, n = (moveL F (memb lr) (memb lR) li).length := ⟨_, rfl⟩
      rw [← hnM] at hvM
      subst hvM
      have HSE := Aside0.mk (Kd.R_lower hSe HBW.out.1)
      have HME := Aside0.mk (Kd.R_lower hMe HBW.out.1)
      have HG := Aside0.mk (HKB.out.blk HG12.out (by have := HBW.out; have := HPGE.out; omega) (by have := HPGE.out; omega))
      have HDE := Aside0.mk (Kd.R_grown2 HD12.out rfl HGR.out (fun b e => by injection e with e; rw [← e]; exact HNOW9.out.1))
      have HRE := Aside0.mk (Kd.R_grown2 HR12.out rfl HGR.out (fun b e => by injection e with e; rw [← e]; exact HNOW9.out.2.1))
      have HKE := Aside0.mk (Kd.R_grown2 HK12.out rfl HGR.out (fun b e => by injection e with e; rw [← e]; exact HNOW9.out.2.2))
      clear hSe hMe HSW HMW hnS hnM
      have p0 : wr.cell? ⟨gp, 0, none⟩ = some (.slice AD lD.length cD) := (blk_cell HPW.out 0).trans rfl
      have z0 : wr.cell? ⟨w.heap.size, 0, none⟩ = some (.slice none 0 0) := (blk_cell HG.out 0).trans rfl
      have f0 := blk_frozen HG.out 0
      have p1 : wr.cell? ⟨gp, 1, none⟩ = some (.slice AR2 lR.length cR) := (blk_cell HPW.out 1).trans rfl
      have z1 : wr.cell? ⟨w.heap.size, 1, none⟩ = some (.slice none 0 0) := (blk_cell HG.out 1).trans rfl
      have f1 := blk_frozen HG.out 1
      have p2 : wr.cell? ⟨gp, 2, none⟩ = some (.slice AK lK.length cK) := (blk_cell HPW.out 2).trans rfl
      have z2 : wr.cell? ⟨w.heap.size, 2, none⟩ = some (.slice none 0 0) := (blk_cell HG.out 2).trans rfl
      have f2 := blk_frozen HG.out 2
      have p3 : wr.cell? ⟨gp, 3, none⟩ = some (.slice AS nS cS) := (blk_cell HPW.out 3).trans rfl
      have z3 : wr.cell? ⟨w.heap.size, 3, none⟩ = some (.slice none 0 0) := (blk_cell HG.out 3).trans rfl
      have f3 := blk_frozen HG.out 3
      have p4 : wr.cell? ⟨gp, 4, none⟩ = some (.slice AM nM cM) := (blk_cell HPW.out 4).trans rfl
      have z4 : wr.cell? ⟨w.heap.size, 4, none⟩ = some (.slice none 0 0) := (blk_cell HG.out 4).trans rfl
      have f4 := blk_frozen HG.out 4
      go_wp2_with (fail)
      have hK := set5_blk HG.out (.slice AD lD.length cD) (.slice AR2 lR.length cR) (.slice AK lK.length cK) (.slice AS nS cS) (.slice AM nM cM)
      have hB := set5_below HBL.out (Nat.le_refl _) (.slice AD lD.length cD) (.slice AR2 lR.length cR) (.slice AK lK.length cK) (.slice AS nS cS) (.slice AM nM cM)
      have hD := Kd.R_set5 HDE.out HG.out (by decide) (.slice AD lD.length cD) (.slice AR2 lR.length cR) (.slice AK lK.length cK) (.slice AS nS cS) (.slice AM nM cM)
      have hR := Kd.R_set5 HRE.out HG.out (by decide) (.slice AD lD.length cD) (.slice AR2 lR.length cR) (.slice AK lK.length cK) (.slice AS nS cS) (.slice AM nM cM)
      have hKK := Kd.R_set5 HKE.out HG.out (by decide) (.slice AD lD.length cD) (.slice AR2 lR.length cR) (.slice AK lK.length cK) (.slice AS nS cS) (.slice AM nM cM)
      have hS := Kd.R_set5 HSE.out HG.out (by decide) (.slice AD lD.length cD) (.slice AR2 lR.length cR) (.slice AK lK.length cK) (.slice AS nS cS) (.slice AM nM cM)
      have hM := Kd.R_set5 HME.out HG.out (by decide) (.slice AD lD.length cD) (.slice AR2 lR.length cR) (.slice AK lK.length cK) (.slice AS nS cS) (.slice AM nM cM)
      change bodyPost Try.prog Try.f11 _ _ _ (set5 wr w.heap.size (.slice AD lD.length cD) (.slice AR2 lR.length cR) (.slice AK lK.length cK) (.slice AS nS cS) (.slice AM nM cM))
      generalize set5 wr w.heap.size (.slice AD lD.length cD) (.slice AR2 lR.length cR) (.slice AK lK.length cK) (.slice AS nS cS) (.slice AM nM cM) = W9 at hK hB hD hR hKK hS hM ⊢
      have c0 : W9.cell? ⟨w.heap.size, 0, none⟩ = some (.slice AD lD.length cD) := (blk_cell hK 0).trans rfl
      have c1 : W9.cell? ⟨w.heap.size, 1, none⟩ = some (.slice AR2 lR.length cR) := (blk_cell hK 1).trans rfl
      have c2 : W9.cell? ⟨w.heap.size, 2, none⟩ = some (.slice AK lK.length cK) := (blk_cell hK 2).trans rfl
      have c3 : W9.cell? ⟨w.heap.size, 3, none⟩ = some (.slice AS nS cS) := (blk_cell hK 3).trans rfl
      have c4 : W9.cell? ⟨w.heap.size, 4, none⟩ = some (.slice AM nM cM) := (blk_cell hK 4).trans rfl
      refine bodyPost_ret (v := .tuple #[.agg #[(.slice AD lD.length cD), (.slice AR2 lR.length cR), (.slice AK lK.length cK), (.slice AS nS cS), (.slice AM nM cM)], .int .i64 0]) (by simp [results, Try.results11, go_sem, c0, c1, c2, c3, c4]) rfl ⟨_, _, _, _, _, pk, rfl, HRIS.out, HMEM.out, ?_, ?_, ?_, ?_, ?_, hB⟩
      · rw [← HEQ.out.1]; exact hD
      · rw [← HEQ.out.2.1]; exact hR
      · rw [← HEQ.out.2.2]; exact hKK
      · rw [← HEQ.out.2.2, ← HLI.out]; exact hS
      · rw [← HEQ.out.2.1, ← HLI.out]; exact hM
end Go.Proofs.Ytoiedcnhojkpiaa.Q
