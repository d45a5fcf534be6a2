/- Of the proofs about sweep: several texts, joined. -/
import Derived.Test.YtoiedcnhojkpiaaMH
namespace Go.Proofs.Ytoiedcnhojkpiaa.Q
open Go.RowKit Go.Maps Go.Proofs.YtoiedcnhojkpiaaW.PrintWords Go.Proofs.YtoiedcnhojkpiaaW.PrintLast Go.Proofs.YtoiedcnhojkpiaaW.PrintMore
def rStep (L : List S52) (reach : List UInt8 → Bool) (p : ByteArray) (q : Int × Int) (x : S52) : Int × Int := if x.f1.f0 = p then (if live L reach x = true then (q.1 + x.f1.f3, q.2 + x.f1.f3) else (q.1, q.2 + x.f1.f3)) else q
/-- How many bytes of a pack are used, and all. -/
def rW (L : List S52) (reach : List UInt8 → Bool) (p : ByteArray) (l : List S52) : Int × Int := l.foldl (rStep L reach p) (0, 0)
theorem rW_take (L : List S52) (reach : List UInt8 → Bool) (p : ByteArray) (l : List S52) (k : Nat) (h : k < l.length) : rW L reach p (l.take (k + 1)) = rStep L reach p (rW L reach p (l.take k)) l[k] := by
  unfold rW
  rw [List.take_succ_eq_append_getElem h, List.foldl_append]
  rfl
theorem rW_bound (L : List S52) (reach : List UInt8 → Bool) (p : ByteArray) : ∀ (l : List S52) (q : Int × Int) (n : Nat), (∀ x ∈ l, 0 ≤ x.f1.f3 ∧ x.f1.f3 ≤ 65536) → (0 ≤ q.1 ∧ q.1 ≤ n * 65536 ∧ 0 ≤ q.2 ∧ q.2 ≤ n * 65536) → 0 ≤ (l.foldl (rStep L reach p) q).1 ∧ (l.foldl (rStep L reach p) q).1 ≤ (n + l.length : Nat) * 65536 ∧ 0 ≤ (l.foldl (rStep L reach p) q).2 ∧ (l.foldl (rStep L reach p) q).2 ≤ (n + l.length : Nat) * 65536
  | [], q, n, _, h => by simpa using h
  | x :: l, q, n, hx, h => by
    obtain ⟨h0, h1⟩ := hx x List.mem_cons_self
    have := rW_bound L reach p l (rStep L reach p q x) (n + 1) (fun y hy => hx y (List.mem_cons_of_mem _ hy)) (by
      unfold rStep
      split
      · split <;> simp <;> omega
      · omega)
    rw [List.foldl_cons, List.length_cons, show n + (l.length + 1) = n + 1 + l.length by omega]
    exact this
set_option maxHeartbeats 8000000 in
set_option maxRecDepth 100000 in
theorem rweigh_calls (base gr c : Nat) (A : Option Addr) (L : List S52) (lr : List ByteArray) (p : ByteArray) (w : World) (h : RTab w base gr L) (hl : L.length ≤ 5000) (hG : ∀ x ∈ L, chk x = true) (hr : Kd.C Kd.string w A lr.length lr) (hrc : lr.length ≤ c) (hrl : lr.length ≤ 10000) :
    Calls Try.prog 41 #[.pointer (some ⟨gr, 0, none⟩), .slice A lr.length c, .string p] w fun e w' => e = .returned (.tuple #[.int .i64 (rW L (memb lr) p L).1, .int .i64 (rW L (memb lr) p L).2]) ∧ Below w.heap.size w w' := by
  obtain ⟨v, hblk, hR⟩ := h
  obtain ⟨A3, c3, rfl, hle, hC⟩ := Kd.R_reads hR
  have HRT : Aside0 (RTab w base gr L) := ⟨⟨_, hblk, hR⟩⟩
  have HT := Aside0.mk hblk
  have HC := Aside0.mk hC
  have HRC := Aside0.mk hr
  have HG := Aside0.mk hG
  have HB0 := Aside0.mk (Below.refl w.heap.size w)
  clear hblk hR hC hr hG
  go_enter Try.func41, Try.ntmps41
  go_wp2_with (fail)
  go_loopw [8, 9, 10] (fun v8 v9 v10 wr => ∃ k : Nat, k ≤ L.length ∧ v10 = .int .i64 k ∧ v8 = .int .i64 (rW L (memb lr) p (L.take k)).1 ∧ v9 = .int .i64 (rW L (memb lr) p (L.take k)).2 ∧ Aside0 (Below w.heap.size w wr)) (fun _ _ v10 _ => L.length - (intOf v10).toNat)
  case atStart => exact ⟨0, Nat.zero_le _, rfl, rfl, rfl, HB0⟩
  case round =>
    clear HB0
    obtain ⟨k, hk, rfl, rfl, rfl, HB⟩ := hrel
    have t0 : wr.cell? ⟨gr, 0, none⟩ = some (.slice A3 L.length c3) := (blk_cell (blk_below HT.out HB.out) 0).trans rfl
    by_cases hlt : k < L.length
    · obtain ⟨ad, x, rfl, hx, h0, h1, h2, h3, h4, h5⟩ := at52 (Kd.C_below HC.out HB.out) k hlt
      have hx2 : L[k] = x := (List.getElem?_eq_some_iff.1 hx).2
      have HX := Aside0.mk (rW_take L (memb lr) p L k hlt)
      rw [hx2] at HX
      have hxl : x ∈ L := by rw [← hx2]; exact List.getElem_mem hlt
      obtain ⟨s0, s1, s2, s3⟩ := size32 (HG.out x hxl)
      have hwb := rW_bound L (memb lr) p (L.take k) (0, 0) 0 (fun y hy => by have := size32 (HG.out y (List.mem_of_mem_take hy)); omega) (by simp)
      rw [← rW] at hwb
      have hkl : (L.take k).length ≤ 5000 := by rw [List.length_take]; omega
      obtain ⟨a, b, hab⟩ : ∃ a b, rW L (memb lr) p (L.take k) = (a, b) := ⟨_, _, rfl⟩
      rw [hab] at hwb HX ⊢
      simp only [Nat.zero_add] at hwb
      obtain ⟨ha0, ha1, hb0, hb1⟩ := hwb
      have ha2 : a ≤ 400000000 := by omega
      have hb2 : b ≤ 400000000 := by omega
      clear ha1 hb1 hkl hab hx hx2 hxl
      go_upto_region 6 with (fail)
      have HBX : Aside0 (Below wr.heap.size wr (wr.alloc (.cells #[.string x.f0, .string x.f1.f0, .int .i64 x.f1.f1, .int .i64 x.f1.f2, .int .i64 x.f1.f3, .int .i64 x.f1.f4] 52))) := ⟨below_alloc (Below.refl _ _) _⟩
      have HKX : Aside0 ((wr.alloc (.cells #[.string x.f0, .string x.f1.f0, .int .i64 x.f1.f1, .int .i64 x.f1.f2, .int .i64 x.f1.f3, .int .i64 x.f1.f4] 52)).heap[wr.heap.size]? = some (.cells #[.string x.f0, .string x.f1.f0, .int .i64 x.f1.f1, .int .i64 x.f1.f2, .int .i64 x.f1.f3, .int .i64 x.f1.f4] 52 (0, 0))) := ⟨(MapKept.heap_alloc wr _).1⟩
      generalize (wr.alloc (.cells #[.string x.f0, .string x.f1.f0, .int .i64 x.f1.f1, .int .i64 x.f1.f2, .int .i64 x.f1.f3, .int .i64 x.f1.f4] 52)) = W at HBX HKX ⊢
      have HB2 := Aside0.mk (below_step HB.out HBX.out)
      clear HB HBX h0 h1 h2 h3 h4 h5 t0
      generalize wr.heap.size = gx at HKX ⊢
      have c0 : W.cell? ⟨gx, 0, none⟩ = some (.string x.f0) := (blk_cell HKX.out 0).trans rfl
      have c1 : W.cell? ⟨gx, 1, none⟩ = some (.string x.f1.f0) := (blk_cell HKX.out 1).trans rfl
      have c2 : W.cell? ⟨gx, 2, none⟩ = some (.int .i64 x.f1.f1) := (blk_cell HKX.out 2).trans rfl
      have c3 : W.cell? ⟨gx, 3, none⟩ = some (.int .i64 x.f1.f2) := (blk_cell HKX.out 3).trans rfl
      have c4 : W.cell? ⟨gx, 4, none⟩ = some (.int .i64 x.f1.f3) := (blk_cell HKX.out 4).trans rfl
      have c5 : W.cell? ⟨gx, 5, none⟩ = some (.int .i64 x.f1.f4) := (blk_cell HKX.out 5).trans rfl
      by_cases hp : x.f1.f0 = p
      · have q1 : (x.f1.f0.toList == p.toList) = true := by rw [hp]; simp
        have HX2 : Aside0 (rW L (memb lr) p (L.take (k + 1)) = if live L (memb lr) x = true then (a + x.f1.f3, b + x.f1.f3) else (a, b + x.f1.f3)) := ⟨by rw [HX.out]; unfold rStep; rw [if_pos hp]⟩
        clear hp
        go_wp2_with (fail)
        refine (rget_calls base gr L x.f0 W (HRT.out.below HB2.out) (by omega)).mono ?_
        rintro e w2 ⟨rfl, hB⟩
        have HB3 := Aside0.mk (below_step HB2.out hB)
        have HKX3 := Aside0.mk (blk_below HKX.out hB)
        clear HB2 HKX c0 c1 c2 c3 c4 c5 hB
        have HLV : Aside0 (live L (memb lr) x = (memb lr x.f0.data.toList && eq50 (getP L x.f0).1 x.f1)) := ⟨rfl⟩
        generalize (getP L x.f0).1 = ow at HLV ⊢
        generalize (getP L x.f0).2 = okk
        go_upto_region 9 with (fail)
        have HBX : Aside0 (Below w2.heap.size w2 (w2.alloc (.cells #[.string ow.f0, .int .i64 ow.f1, .int .i64 ow.f2, .int .i64 ow.f3, .int .i64 ow.f4] 50))) := ⟨below_alloc (Below.refl _ _) _⟩
        have HKO : Aside0 ((w2.alloc (.cells #[.string ow.f0, .int .i64 ow.f1, .int .i64 ow.f2, .int .i64 ow.f3, .int .i64 ow.f4] 50)).heap[w2.heap.size]? = some (.cells #[.string ow.f0, .int .i64 ow.f1, .int .i64 ow.f2, .int .i64 ow.f3, .int .i64 ow.f4] 50 (0, 0))) := ⟨(MapKept.heap_alloc w2 _).1⟩
        generalize (w2.alloc (.cells #[.string ow.f0, .int .i64 ow.f1, .int .i64 ow.f2, .int .i64 ow.f3, .int .i64 ow.f4] 50)) = W4 at HBX HKO ⊢
        have HB4 := Aside0.mk (below_step HB3.out HBX.out)
        have HKX4 := Aside0.mk (blk_below HKX3.out HBX.out)
        clear HB3 HKX3 HBX
        generalize w2.heap.size = go at HKO ⊢
        have x0 : W4.cell? ⟨gx, 0, none⟩ = some (.string x.f0) := (blk_cell HKX4.out 0).trans rfl
        go_wp2_with (fail)
        refine (within_calls x.f0 lr A c W4 (Kd.C_below HRC.out HB4.out) hrc hrl).mono ?_
        rintro e w5 ⟨rfl, hB⟩
        have HB5 := Aside0.mk (below_step HB4.out hB)
        have HKX5 := Aside0.mk (blk_below HKX4.out hB)
        have HKO5 := Aside0.mk (blk_below HKO.out hB)
        clear HB4 HKX4 HKO x0 hB
        have x0 : w5.cell? ⟨gx, 0, none⟩ = some (.string x.f0) := (blk_cell HKX5.out 0).trans rfl
        have x1 : w5.cell? ⟨gx, 1, none⟩ = some (.string x.f1.f0) := (blk_cell HKX5.out 1).trans rfl
        have x2 : w5.cell? ⟨gx, 2, none⟩ = some (.int .i64 x.f1.f1) := (blk_cell HKX5.out 2).trans rfl
        have x3 : w5.cell? ⟨gx, 3, none⟩ = some (.int .i64 x.f1.f2) := (blk_cell HKX5.out 3).trans rfl
        have x4 : w5.cell? ⟨gx, 4, none⟩ = some (.int .i64 x.f1.f3) := (blk_cell HKX5.out 4).trans rfl
        have x5 : w5.cell? ⟨gx, 5, none⟩ = some (.int .i64 x.f1.f4) := (blk_cell HKX5.out 5).trans rfl
        have y0 : w5.cell? ⟨go, 0, none⟩ = some (.string ow.f0) := (blk_cell HKO5.out 0).trans rfl
        have y1 : w5.cell? ⟨go, 1, none⟩ = some (.int .i64 ow.f1) := (blk_cell HKO5.out 1).trans rfl
        have y2 : w5.cell? ⟨go, 2, none⟩ = some (.int .i64 ow.f2) := (blk_cell HKO5.out 2).trans rfl
        have y3 : w5.cell? ⟨go, 3, none⟩ = some (.int .i64 ow.f3) := (blk_cell HKO5.out 3).trans rfl
        have y4 : w5.cell? ⟨go, 4, none⟩ = some (.int .i64 ow.f4) := (blk_cell HKO5.out 4).trans rfl
        have hbr : b + x.f1.f3 ≤ 800000000 := by omega
        have har : a + x.f1.f3 ≤ 800000000 := by omega
        cases hre : memb lr x.f0.data.toList with
        | true =>
          by_cases hee : eq50 ow x.f1 = true
          · have HLT : Aside0 (rW L (memb lr) p (L.take (k + 1)) = (a + x.f1.f3, b + x.f1.f3)) := ⟨by rw [HX2.out, HLV.out, hre, hee]; rfl⟩
            have hee2 := (eq50_iff _ _).1 hee
            clear hee
            subst hee2
            go_wp2_with (fail)
            go_roundw
            case rel => exact ⟨k + 1, by omega, by go_num, (by first | (rw [HLT.out]; done) | (rw [HLT.out]; go_num)), (by first | (rw [HLT.out]; done) | (rw [HLT.out]; go_num)), HB5⟩
            case measure => simp [intOf]; omega
          · have hee2 : eq50 ow x.f1 = false := eq_false_of_ne_true hee
            have HLT : Aside0 (rW L (memb lr) p (L.take (k + 1)) = (a, b + x.f1.f3)) := ⟨by rw [HX2.out, HLV.out, hre, hee2]; rfl⟩
            clear hee
            unfold eq50 at hee2
            go_wp2_with (fail)
            all_goals first | (exfalso; have e0 : ow.f0.toList = x.f1.f0.toList := (by assumption); have e1 : ow.f1 = x.f1.f1 := (by assumption); have e2 : ow.f2 = x.f1.f2 := (by assumption); have e3 : ow.f3 = x.f1.f3 := (by assumption); have e4 : ow.f4 = x.f1.f4 := (by assumption); rw [e0, e1, e2, e3, e4] at hee2; simp at hee2; done) | skip
            all_goals go_roundw
            all_goals first
              | exact ⟨k + 1, by omega, by go_num, (by first | (rw [HLT.out]; done) | (rw [HLT.out]; go_num)), (by first | (rw [HLT.out]; done) | (rw [HLT.out]; go_num)), HB5⟩
              | (simp [intOf]; omega)
        | false =>
          have HLT : Aside0 (rW L (memb lr) p (L.take (k + 1)) = (a, b + x.f1.f3)) := ⟨by rw [HX2.out, HLV.out, hre]; rfl⟩
          go_wp2_with (fail)
          go_roundw
          case rel => exact ⟨k + 1, by omega, by go_num, (by first | (rw [HLT.out]; done) | (rw [HLT.out]; go_num)), (by first | (rw [HLT.out]; done) | (rw [HLT.out]; go_num)), HB5⟩
          case measure => simp [intOf]; omega
      · have q1 : (x.f1.f0.toList == p.toList) = false := beq_eq_false_iff_ne.2 fun e => hp (eq_of_toList e)
        have HX2 : Aside0 (rW L (memb lr) p (L.take (k + 1)) = (a, b)) := ⟨by rw [HX.out]; unfold rStep; rw [if_neg hp]⟩
        clear hp
        go_wp2_with (fail)
        go_roundw
        case rel => exact ⟨k + 1, by omega, by go_num, by rw [HX2.out], by rw [HX2.out], HB2⟩
        case measure => simp [intOf]; omega
    · obtain rfl : k = L.length := by omega
      go_wp2_with (fail)
      go_ret2
      exact ⟨by rw [List.take_length]; rfl, HB.out⟩
end Go.Proofs.Ytoiedcnhojkpiaa.Q
/- The reference's stays, walked. -/
namespace Go.Proofs.Ytoiedcnhojkpiaa.Q
open Go.RowKit Go.Maps Go.Proofs.YtoiedcnhojkpiaaW.PrintWords Go.Proofs.YtoiedcnhojkpiaaW.PrintLast Go.Proofs.YtoiedcnhojkpiaaW.PrintMore
def firstK (kept : List UInt8 → Bool) : List S50 → S50 × Bool
  | [] => (z50, false)
  | p :: ps => if kept p.f0.data.toList then (p, true) else firstK kept ps
/-- Where an id stays, as the reference has it: the first of its places is p. -/
def rstayP (reach : Bool) (kept : List UInt8 → Bool) (p : S50) (ps : List S50) : S50 × Bool := if reach then (p, kept p.f0.data.toList) else firstK kept (p :: ps)
set_option maxHeartbeats 8000000 in
set_option maxRecDepth 100000 in
theorem rstays_calls (base gr c cK n1 n2 n3 n4 c1 c2 c3 c4 : Nat) (A AK A1 A2 A3 A4 : Option Addr) (L : List S52) (lr lK : List ByteArray) (id : ByteArray) (p : S50) (ps : List S50) (w : World) (h : RTab w base gr L) (hl : L.length ≤ 5000) (hr : Kd.C Kd.string w A lr.length lr) (hrc : lr.length ≤ c) (hrl : lr.length ≤ 10000) (hk : Kd.C Kd.string w AK lK.length lK) (hkc : lK.length ≤ cK) (hkl : lK.length ≤ 10000) (hp : places L id = p :: ps) :
    Calls Try.prog 43 #[.agg #[.slice A1 n1 c1, .slice A2 n2 c2, .slice AK lK.length cK, .slice A3 n3 c3, .slice A4 n4 c4], .pointer (some ⟨gr, 0, none⟩), .slice A lr.length c, .string id] w fun e w' => e = .returned (.tuple #[v50 (rstayP (memb lr id.data.toList) (memb lK) p ps).1, .bool (rstayP (memb lr id.data.toList) (memb lK) p ps).2]) ∧ Below w.heap.size w w' := by
  have HT := Aside0.mk h
  have HR := Aside0.mk hr
  have HK := Aside0.mk hk
  have HPL := Aside0.mk hp
  clear h hr hk hp
  go_enter Try.func43, Try.ntmps43
  go_upto_region 1 with (fail)
  have HB0 : Aside0 (Below w.heap.size w ((w.alloc (.cells #[.slice A1 n1 c1, .slice A2 n2 c2, .slice AK lK.length cK, .slice A3 n3 c3, .slice A4 n4 c4] 39)).alloc (.cells #[.string ⟨#[]⟩, .int .i64 0, .int .i64 0, .int .i64 0, .int .i64 0] 50))) := ⟨below_alloc (below_alloc (Below.refl _ _) _) _⟩
  have HKB : Aside0 (((w.alloc (.cells #[.slice A1 n1 c1, .slice A2 n2 c2, .slice AK lK.length cK, .slice A3 n3 c3, .slice A4 n4 c4] 39)).alloc (.cells #[.string ⟨#[]⟩, .int .i64 0, .int .i64 0, .int .i64 0, .int .i64 0] 50)).heap[w.heap.size]? = some (.cells #[.slice A1 n1 c1, .slice A2 n2 c2, .slice AK lK.length cK, .slice A3 n3 c3, .slice A4 n4 c4] 39 (0, 0))) := ⟨blk_below (MapKept.heap_alloc w _).1 (below_alloc (Below.refl _ _) _)⟩
  have HKZ : Aside0 (((w.alloc (.cells #[.slice A1 n1 c1, .slice A2 n2 c2, .slice AK lK.length cK, .slice A3 n3 c3, .slice A4 n4 c4] 39)).alloc (.cells #[.string ⟨#[]⟩, .int .i64 0, .int .i64 0, .int .i64 0, .int .i64 0] 50)).heap[w.heap.size + 1]? = some (.cells #[.string ⟨#[]⟩, .int .i64 0, .int .i64 0, .int .i64 0, .int .i64 0] 50 (0, 0))) := ⟨by have := (MapKept.heap_alloc (w.alloc (.cells #[.slice A1 n1 c1, .slice A2 n2 c2, .slice AK lK.length cK, .slice A3 n3 c3, .slice A4 n4 c4] 39)) (.cells #[.string ⟨#[]⟩, .int .i64 0, .int .i64 0, .int .i64 0, .int .i64 0] 50)).1; simpa using this⟩
  generalize ((w.alloc (.cells #[.slice A1 n1 c1, .slice A2 n2 c2, .slice AK lK.length cK, .slice A3 n3 c3, .slice A4 n4 c4] 39)).alloc (.cells #[.string ⟨#[]⟩, .int .i64 0, .int .i64 0, .int .i64 0, .int .i64 0] 50)) = W at HB0 HKB HKZ ⊢
  obtain ⟨g8, hg8⟩ : ∃ g8, g8 = w.heap.size + 1 := ⟨_, rfl⟩
  rw [← hg8] at HKZ ⊢
  have HG8 : Aside0 (w.heap.size ≤ g8) := ⟨by omega⟩
  clear hg8
  go_wp2_with (fail)
  refine (rplaces_calls base gr L id W (HT.out.below HB0.out) (by omega)).mono ?_
  rintro e w1 ⟨v, rfl, hR, hB⟩
  obtain ⟨pl, hpl⟩ : ∃ pl, pl = p :: ps := ⟨_, rfl⟩
  rw [HPL.out, ← hpl] at hR
  have HPE := Aside0.mk hpl
  obtain ⟨A5, c5, rfl, hle5, hC5⟩ := Kd.R_reads hR
  have hpl0 : 0 < pl.length := by rw [hpl]; simp
  have hpll : pl.length ≤ 10000 := by rw [hpl, ← HPL.out]; have := places_len L id; omega
  have HC5 := Aside0.mk hC5
  have HB1 := Aside0.mk (below_step HB0.out hB)
  have HKB1 := Aside0.mk (blk_below HKB.out hB)
  have HKZ1 := Aside0.mk (blk_below HKZ.out hB)
  clear hR hB hC5 hpl HB0 HKB HKZ
  go_wp2_with (fail)
  refine (within_calls id lr A c w1 (Kd.C_below HR.out HB1.out) hrc hrl).mono ?_
  rintro e w2 ⟨rfl, hB⟩
  have HC52 := Aside0.mk (Kd.C_below HC5.out hB)
  have HB2 := Aside0.mk (below_step HB1.out hB)
  have HKB2 := Aside0.mk (blk_below HKB1.out hB)
  have HKZ2 := Aside0.mk (blk_below HKZ1.out hB)
  clear hB HC5 HB1 HKB1 HKZ1
  have b2 : w2.cell? ⟨w.heap.size, 2, none⟩ = some (.slice AK lK.length cK) := (blk_cell HKB2.out 2).trans rfl
  cases hre : memb lr id.data.toList with
  | true =>
    have HRS : Aside0 (rstayP true (memb lK) p ps = (p, memb lK p.f0.data.toList)) := ⟨rfl⟩
    obtain ⟨ad5, hA5, x0, x1, x2, x3, x4⟩ := first50 (p := p) (ps := ps) (w := w2) (A := A5) (by rw [← HPE.out]; exact HC52.out)
    subst hA5
    have z0 : w2.cell? ⟨g8, 0, none⟩ = some (.string ⟨#[]⟩) := (blk_cell HKZ2.out 0).trans rfl
    have f0 := blk_frozen HKZ2.out 0
    have z1 : w2.cell? ⟨g8, 1, none⟩ = some (.int .i64 0) := (blk_cell HKZ2.out 1).trans rfl
    have f1 := blk_frozen HKZ2.out 1
    have z2 : w2.cell? ⟨g8, 2, none⟩ = some (.int .i64 0) := (blk_cell HKZ2.out 2).trans rfl
    have f2 := blk_frozen HKZ2.out 2
    have z3 : w2.cell? ⟨g8, 3, none⟩ = some (.int .i64 0) := (blk_cell HKZ2.out 3).trans rfl
    have f3 := blk_frozen HKZ2.out 3
    have z4 : w2.cell? ⟨g8, 4, none⟩ = some (.int .i64 0) := (blk_cell HKZ2.out 4).trans rfl
    have f4 := blk_frozen HKZ2.out 4
    go_wp2_with (fail)
    go_region_with (first | (go_at_call 45; (refine (within_calls p.f0 lK AK cK _ (Kd.C_below HK.out (by first | exact HB2.out | exact below_step HB2.out (below_drew (Below.refl _ _)) | exact pw_below_drewN HB2.out _)) hkc hkl).mono ?_); rintro e w3 ⟨rfl, hB⟩; have HB3 := Aside0.mk (below_step (by first | exact HB2.out | exact below_drew HB2.out | exact pw_below_drewN HB2.out _) hB); have HKZ3 := Aside0.mk (blk_below (by first | exact HKZ2.out | exact blk_drew HKZ2.out | exact blk_below HKZ2.out (pw_below_drewN (Below.refl _ _) _)) hB); have x0' : w3.cell? ad5 = some (.string p.f0) := pw_cell_below hB x0; have x1' : w3.cell? ⟨ad5.block, ad5.off + 1, none⟩ = some (.int .i64 p.f1) := pw_cell_below hB x1; have x2' : w3.cell? ⟨ad5.block, ad5.off + 2, none⟩ = some (.int .i64 p.f2) := pw_cell_below hB x2; have x3' : w3.cell? ⟨ad5.block, ad5.off + 3, none⟩ = some (.int .i64 p.f3) := pw_cell_below hB x3; have x4' : w3.cell? ⟨ad5.block, ad5.off + 4, none⟩ = some (.int .i64 p.f4) := pw_cell_below hB x4; have z0' : w3.cell? ⟨g8, 0, none⟩ = some (.string ⟨#[]⟩) := (blk_cell HKZ3.out 0).trans rfl; have f0' := blk_frozen HKZ3.out 0; have z1' : w3.cell? ⟨g8, 1, none⟩ = some (.int .i64 0) := (blk_cell HKZ3.out 1).trans rfl; have f1' := blk_frozen HKZ3.out 1; have z2' : w3.cell? ⟨g8, 2, none⟩ = some (.int .i64 0) := (blk_cell HKZ3.out 2).trans rfl; have f2' := blk_frozen HKZ3.out 2; have z3' : w3.cell? ⟨g8, 3, none⟩ = some (.int .i64 0) := (blk_cell HKZ3.out 3).trans rfl; have f3' := blk_frozen HKZ3.out 3; have z4' : w3.cell? ⟨g8, 4, none⟩ = some (.int .i64 0) := (blk_cell HKZ3.out 4).trans rfl; have f4' := blk_frozen HKZ3.out 4))
    all_goals
      go_wp2_with (fail)
      have hK := set5_blk HKZ3.out (.string p.f0) (.int .i64 p.f1) (.int .i64 p.f2) (.int .i64 p.f3) (.int .i64 p.f4)
      have hB9 := set5_below HB3.out HG8.out (.string p.f0) (.int .i64 p.f1) (.int .i64 p.f2) (.int .i64 p.f3) (.int .i64 p.f4)
      change bodyPost Try.prog Try.f43 _ _ _ (set5 w3 g8 (.string p.f0) (.int .i64 p.f1) (.int .i64 p.f2) (.int .i64 p.f3) (.int .i64 p.f4))
      generalize set5 w3 g8 (.string p.f0) (.int .i64 p.f1) (.int .i64 p.f2) (.int .i64 p.f3) (.int .i64 p.f4) = W9 at hK hB9 ⊢
      have c0 : W9.cell? ⟨g8, 0, none⟩ = some (.string p.f0) := (blk_cell hK 0).trans rfl
      have c1 : W9.cell? ⟨g8, 1, none⟩ = some (.int .i64 p.f1) := (blk_cell hK 1).trans rfl
      have c2 : W9.cell? ⟨g8, 2, none⟩ = some (.int .i64 p.f2) := (blk_cell hK 2).trans rfl
      have c3 : W9.cell? ⟨g8, 3, none⟩ = some (.int .i64 p.f3) := (blk_cell hK 3).trans rfl
      have c4 : W9.cell? ⟨g8, 4, none⟩ = some (.int .i64 p.f4) := (blk_cell hK 4).trans rfl
      exact bodyPost_ret (v := .tuple #[.agg #[.string p.f0, .int .i64 p.f1, .int .i64 p.f2, .int .i64 p.f3, .int .i64 p.f4], .bool (memb lK p.f0.data.toList)]) (by simp [results, Try.results43, go_sem, c0, c1, c2, c3, c4]) rfl ⟨(by first | (rw [HRS.out]; rfl) | (rw [hre, HRS.out]; rfl)), hB9⟩
  | false =>
    have HRS : Aside0 (rstayP false (memb lK) p ps = firstK (memb lK) pl) := ⟨by rw [HPE.out]; rfl⟩
    have HBW : Aside0 (Below w2.heap.size w2 w2) := ⟨Below.refl _ _⟩
    clear b2
    go_wp2_with (fail)
    go_loopw [11] (fun v11 wr => ∃ k : Nat, k ≤ pl.length ∧ v11 = .int .i64 k ∧ Aside0 (firstK (memb lK) (pl.drop k) = firstK (memb lK) pl) ∧ Aside0 (Below w2.heap.size w2 wr)) (fun v11 _ => pl.length - (intOf v11).toNat)
    case atStart => exact ⟨0, Nat.zero_le _, rfl, ⟨by rw [List.drop_zero]⟩, HBW⟩
    case round =>
      obtain ⟨k, hk, rfl, HE, HBR⟩ := hrel
      have HBA := Aside0.mk (below_step HB2.out HBR.out)
      have HKBR := Aside0.mk (blk_below HKB2.out HBR.out)
      have HKZR := Aside0.mk (blk_below HKZ2.out HBR.out)
      have b2 : wr.cell? ⟨w.heap.size, 2, none⟩ = some (.slice AK lK.length cK) := (blk_cell HKBR.out 2).trans rfl
      by_cases hlt : k < pl.length
      · obtain ⟨ad, q0, q1, q2, q3, q4, q5⟩ := at_T50 (Kd.C_below HC52.out HBR.out) (k : Int) (by omega) (by omega)
        have hd : rd_T50 pl (k : Int) = pl[k] := by unfold rd_T50; simp [List.getD_eq_getElem?_getD, List.getElem?_eq_getElem hlt]
        have HCS : Aside0 (firstK (memb lK) pl = if memb lK pl[k].f0.data.toList then (pl[k], true) else firstK (memb lK) (pl.drop (k + 1))) := ⟨by rw [← HE.out, List.drop_eq_getElem_cons hlt]; rfl⟩
        rw [hd] at q1 q2 q3 q4 q5
        rw [Int.toNat_natCast] at q1 q2 q3 q4 q5
        subst q0
        clear hd
        generalize pl[k] = r at q1 q2 q3 q4 q5 HCS
        have hml : k < maxLen := by unfold maxLen; omega
        go_wp2_with (fail)
        go_region_held3 (fun wq => wq.cell? (ad.add (k * 5)) = some (.string r.f0) ∧ wq.cell? ⟨w.heap.size, 2, none⟩ = some (.slice AK lK.length cK)) (first | assumption | exact ⟨q1, b2⟩ | exact ⟨pw_cell_below hB q1, pw_cell_below hB b2⟩) (first | (go_at_call 45; (with_reducible refine (within_calls r.f0 lK AK cK _ (Kd.C_below HK.out (below_step HBA.out (below_drew (Below.refl _ _)))) hkc hkl).mono ?_); rintro e w3 ⟨rfl, hB⟩; have HBX : Aside0 (Below wr.heap.size wr w3) := ⟨below_step (below_drew (Below.refl _ _)) hB⟩))
        have HBR3 := Aside0.mk (below_step HBR.out HBX.out)
        have HB3 := Aside0.mk (below_step HBA.out HBX.out)
        have HKZ3 := Aside0.mk (blk_below HKZR.out HBX.out)
        have r0 : w3.cell? (ad.add (k * 5)) = some (.string r.f0) := pw_cell_below HBX.out q1
        have r1 : w3.cell? ⟨(ad.add (k * 5)).block, (ad.add (k * 5)).off + 1, none⟩ = some (.int .i64 r.f1) := pw_cell_below HBX.out q2
        have r2 : w3.cell? ⟨(ad.add (k * 5)).block, (ad.add (k * 5)).off + 2, none⟩ = some (.int .i64 r.f2) := pw_cell_below HBX.out q3
        have r3 : w3.cell? ⟨(ad.add (k * 5)).block, (ad.add (k * 5)).off + 3, none⟩ = some (.int .i64 r.f3) := pw_cell_below HBX.out q4
        have r4 : w3.cell? ⟨(ad.add (k * 5)).block, (ad.add (k * 5)).off + 4, none⟩ = some (.int .i64 r.f4) := pw_cell_below HBX.out q5
        clear q1 q2 q3 q4 q5 b2 hB HBX
        cases hmk : memb lK r.f0.data.toList with
        | true =>
          have HC2 : Aside0 (firstK (memb lK) pl = (r, true)) := ⟨by rw [HCS.out, hmk]; rfl⟩
          have z0 : w3.cell? ⟨g8, 0, none⟩ = some (.string ⟨#[]⟩) := (blk_cell HKZ3.out 0).trans rfl
          have f0 := blk_frozen HKZ3.out 0
          have z1 : w3.cell? ⟨g8, 1, none⟩ = some (.int .i64 0) := (blk_cell HKZ3.out 1).trans rfl
          have f1 := blk_frozen HKZ3.out 1
          have z2 : w3.cell? ⟨g8, 2, none⟩ = some (.int .i64 0) := (blk_cell HKZ3.out 2).trans rfl
          have f2 := blk_frozen HKZ3.out 2
          have z3 : w3.cell? ⟨g8, 3, none⟩ = some (.int .i64 0) := (blk_cell HKZ3.out 3).trans rfl
          have f3 := blk_frozen HKZ3.out 3
          have z4 : w3.cell? ⟨g8, 4, none⟩ = some (.int .i64 0) := (blk_cell HKZ3.out 4).trans rfl
          have f4 := blk_frozen HKZ3.out 4
          go_wp2_with (fail)
          have hK := set5_blk HKZ3.out (.string r.f0) (.int .i64 r.f1) (.int .i64 r.f2) (.int .i64 r.f3) (.int .i64 r.f4)
          have hB9 := set5_below HB3.out HG8.out (.string r.f0) (.int .i64 r.f1) (.int .i64 r.f2) (.int .i64 r.f3) (.int .i64 r.f4)
          change bodyPost Try.prog Try.f43 _ _ _ (set5 w3 g8 (.string r.f0) (.int .i64 r.f1) (.int .i64 r.f2) (.int .i64 r.f3) (.int .i64 r.f4))
          generalize set5 w3 g8 (.string r.f0) (.int .i64 r.f1) (.int .i64 r.f2) (.int .i64 r.f3) (.int .i64 r.f4) = W9 at hK hB9 ⊢
          have c0 : W9.cell? ⟨g8, 0, none⟩ = some (.string r.f0) := (blk_cell hK 0).trans rfl
          have c1 : W9.cell? ⟨g8, 1, none⟩ = some (.int .i64 r.f1) := (blk_cell hK 1).trans rfl
          have c2 : W9.cell? ⟨g8, 2, none⟩ = some (.int .i64 r.f2) := (blk_cell hK 2).trans rfl
          have c3 : W9.cell? ⟨g8, 3, none⟩ = some (.int .i64 r.f3) := (blk_cell hK 3).trans rfl
          have c4 : W9.cell? ⟨g8, 4, none⟩ = some (.int .i64 r.f4) := (blk_cell hK 4).trans rfl
          exact bodyPost_ret (v := .tuple #[.agg #[.string r.f0, .int .i64 r.f1, .int .i64 r.f2, .int .i64 r.f3, .int .i64 r.f4], .bool true]) (by simp [results, Try.results43, go_sem, c0, c1, c2, c3, c4]) rfl ⟨(by first | (rw [HRS.out, HC2.out]; rfl) | (rw [hre, HRS.out, HC2.out]; rfl)), hB9⟩
        | false =>
          have HC2 : Aside0 (firstK (memb lK) (pl.drop (k + 1)) = firstK (memb lK) pl) := ⟨by rw [HCS.out, hmk]; rfl⟩
          go_wp2_with (fail)
          go_roundw
          case rel => exact ⟨k + 1, by omega, by go_num, HC2, HBR3⟩
          case measure => simp [intOf]; omega
      · obtain rfl : k = pl.length := by omega
        have HC2 : Aside0 (firstK (memb lK) pl = (z50, false)) := ⟨by rw [← HE.out, List.drop_length]; rfl⟩
        have z0 : wr.cell? ⟨g8, 0, none⟩ = some (.string ⟨#[]⟩) := (blk_cell HKZR.out 0).trans rfl
        have f0 := blk_frozen HKZR.out 0
        have z1 : wr.cell? ⟨g8, 1, none⟩ = some (.int .i64 0) := (blk_cell HKZR.out 1).trans rfl
        have f1 := blk_frozen HKZR.out 1
        have z2 : wr.cell? ⟨g8, 2, none⟩ = some (.int .i64 0) := (blk_cell HKZR.out 2).trans rfl
        have f2 := blk_frozen HKZR.out 2
        have z3 : wr.cell? ⟨g8, 3, none⟩ = some (.int .i64 0) := (blk_cell HKZR.out 3).trans rfl
        have f3 := blk_frozen HKZR.out 3
        have z4 : wr.cell? ⟨g8, 4, none⟩ = some (.int .i64 0) := (blk_cell HKZR.out 4).trans rfl
        have f4 := blk_frozen HKZR.out 4
        go_wp2_with (fail)
        have hK := set5_blk HKZR.out (.string ⟨#[]⟩) (.int .i64 0) (.int .i64 0) (.int .i64 0) (.int .i64 0)
        have hB9 := set5_below HBA.out HG8.out (.string ⟨#[]⟩) (.int .i64 0) (.int .i64 0) (.int .i64 0) (.int .i64 0)
        change bodyPost Try.prog Try.f43 _ _ _ (set5 wr g8 (.string ⟨#[]⟩) (.int .i64 0) (.int .i64 0) (.int .i64 0) (.int .i64 0))
        generalize set5 wr g8 (.string ⟨#[]⟩) (.int .i64 0) (.int .i64 0) (.int .i64 0) (.int .i64 0) = W9 at hK hB9 ⊢
        have c0 : W9.cell? ⟨g8, 0, none⟩ = some (.string ⟨#[]⟩) := (blk_cell hK 0).trans rfl
        have c1 : W9.cell? ⟨g8, 1, none⟩ = some (.int .i64 0) := (blk_cell hK 1).trans rfl
        have c2 : W9.cell? ⟨g8, 2, none⟩ = some (.int .i64 0) := (blk_cell hK 2).trans rfl
        have c3 : W9.cell? ⟨g8, 3, none⟩ = some (.int .i64 0) := (blk_cell hK 3).trans rfl
        have c4 : W9.cell? ⟨g8, 4, none⟩ = some (.int .i64 0) := (blk_cell hK 4).trans rfl
        exact bodyPost_ret (v := .tuple #[.agg #[.string ⟨#[]⟩, .int .i64 0, .int .i64 0, .int .i64 0, .int .i64 0], .bool false]) (by simp [results, Try.results43, go_sem, c0, c1, c2, c3, c4]) rfl ⟨(by first | (rw [HRS.out, HC2.out]; rfl) | (rw [hre, HRS.out, HC2.out]; rfl)), hB9⟩
end Go.Proofs.Ytoiedcnhojkpiaa.Q
/- append(v, x) in a region that draws its order: told ahead, as an equation. -/
namespace Go.Proofs.Ytoiedcnhojkpiaa.Q
open Go.RowKit Go.Maps Go.Proofs.YtoiedcnhojkpiaaW.PrintWords Go.Proofs.YtoiedcnhojkpiaaW.PrintLast Go.Proofs.YtoiedcnhojkpiaaW.PrintMore
/-- append, by another name: the walk does not lay it open. -/
def apA (ats : Array TypeId) (ty : TypeId) (xs : Array Value) : Sem Value := Builtin.append_ ats ty xs
theorem apA_eq (ats : Array TypeId) (ty : TypeId) (xs : Array Value) : Builtin.append_ ats ty xs = apA ats ty xs := rfl
theorem append_eq {α : Type} {d : Kd α} (flat : ∀ {W : World} {b : Nat} {ok : Nat → Prop} {x : α} {cs : List Value}, d.M W b ok x cs → ∀ (W' : World) (b' : Nat) (ok' : Nat → Prop), d.M W' b' ok' x cs) (t ty e : TypeId) (z : Value) (bytes : Nat)
    (ht : Try.prog.underlying t = some (.slice e)) (hinfo : (Try.prog.info? e).map (fun i => (i.zero, i.size, i.bytes)) = some (some z, d.sz, bytes)) (hz : z.cells.size = d.sz) (hs0 : 0 < d.sz) (hb0 : 0 < bytes)
    {w : World} {base : Nat} {v : Value} {xs : List α} (hR : Kd.R d e w base (fun _ => True) v xs) (p : α) (cs : List Value) (hp : d.M w base (fun _ => False) p cs) (hcs : cs.length = d.sz) (hone : ∀ u ∈ cs, u.oneCell' = true) (hbase : base ≤ w.heap.size) (hl : (xs.length + 1) * bytes ≤ 140737488355328) :
    ∃ v1 w1, (apA #[t, t] ty #[v, .slice (some ⟨w.heap.size, 0, none⟩) 1 1]).run Try.prog ((w.alloc (.cells cs.toArray e)).drew) = .ok v1 w1 ∧ Kd.R d e w1 base (fun _ => True) v1 (xs ++ [p]) ∧ w.grownBy w1 v.ownBlock ∧ (v1.ownBlock = v.ownBlock ∨ ∃ b, v1.ownBlock = some b ∧ w.heap.size ≤ b) := by
  have hb : Below w.heap.size w ((w.alloc (.cells cs.toArray e)).drew) := below_drew1 (below_alloc (Below.refl _ _) _)
  have hblk : ((w.alloc (.cells cs.toArray e)).drew).heap[w.heap.size]? = some (.cells cs.toArray e (0, 0)) := (MapKept.heap_alloc w _).1
  have hR2 := Kd.R_below hR hb
  have hbs := hb.size
  generalize (w.alloc (.cells cs.toArray e)).drew = W at hb hblk hR2 hbs ⊢
  obtain ⟨i0, hi, hzz⟩ := Option.map_eq_some_iff.1 hinfo
  simp only [Prod.mk.injEq] at hzz
  obtain ⟨hz0, hz1, hz2⟩ := hzz
  have hlen : xs.length + 1 ≤ 140737488355328 := Nat.le_trans (Nat.le_mul_of_pos_right _ hb0) hl
  obtain ⟨_, inner, hown, hr⟩ := hR2
  obtain ⟨v1, w1, hrun, h2, hg, _, hat⟩ := run_append_own_at (P := Try.prog) W base t ty e i0 z d.sz bytes ht hi hz0 hz1 hz2 hz hs0 v xs.length inner hown ⟨w.heap.size, 0, none⟩ 1 1 cs (by omega) (fun j u hu => by
    have h1 : (⟨w.heap.size, 0, none⟩ : Addr).add j = ⟨w.heap.size, j, none⟩ := by simp [Addr.add]; intro h; exact h.symm
    rw [h1]
    exact (blk_cell hblk j).trans (by simpa using hu)) hone (by simp only [maxLen]; omega) hl (by omega)
  refine ⟨v1, w1, hrun, ⟨fun _ _ => trivial, inner ++ cs, by rw [List.length_append]; exact h2, Reps.snoc (hr.imp_ (fun _ _ hq => flat hq _ _ _)) (flat hp _ _ _) hcs⟩, ⟨hg.os.trans hb.os, hg.tape.trans hb.tape, hg.output.trans hb.output, Nat.le_trans hbs hg.size, fun k hk hne => (hg.block k (by omega) hne).trans (hb.block k hk)⟩, ?_⟩
  · rcases hat with h | h
    · exact .inl h
    · exact .inr ⟨_, h, hbs⟩
theorem append9 {w : World} {base : Nat} {v : Value} {xs : List ByteArray} (ty : TypeId) (hR : Kd.R Kd.string 9 w base (fun _ => True) v xs) (p : ByteArray) (hbase : base ≤ w.heap.size) (hl : xs.length ≤ 100000) :
    ∃ v1 w1, (apA #[23, 23] ty #[v, .slice (some ⟨w.heap.size, 0, none⟩) 1 1]).run Try.prog ((w.alloc (.cells #[.string p] 9)).drew) = .ok v1 w1 ∧ Kd.R Kd.string 9 w1 base (fun _ => True) v1 (xs ++ [p]) ∧ w.grownBy w1 v.ownBlock ∧ (v1.ownBlock = v.ownBlock ∨ ∃ b, v1.ownBlock = some b ∧ w.heap.size ≤ b) :=
  append_eq (d := Kd.string) (fun h _ _ _ => h) 23 ty 9 _ 16 Try.underlying23 info9 rfl (by decide) (by decide) hR p [.string p] rfl rfl (by simp [Value.oneCell']) hbase (by omega)
theorem append52 {w : World} {base : Nat} {v : Value} {xs : List S52} (ty : TypeId) (hR : Kd.R k52 52 w base (fun _ => True) v xs) (p : S52) (hbase : base ≤ w.heap.size) (hl : xs.length ≤ 100000) :
    ∃ v1 w1, (apA #[22, 22] ty #[v, .slice (some ⟨w.heap.size, 0, none⟩) 1 1]).run Try.prog ((w.alloc (.cells #[.string p.f0, .string p.f1.f0, .int .i64 p.f1.f1, .int .i64 p.f1.f2, .int .i64 p.f1.f3, .int .i64 p.f1.f4] 52)).drew) = .ok v1 w1 ∧ Kd.R k52 52 w1 base (fun _ => True) v1 (xs ++ [p]) ∧ w.grownBy w1 v.ownBlock ∧ (v1.ownBlock = v.ownBlock ∨ ∃ b, v1.ownBlock = some b ∧ w.heap.size ≤ b) :=
  append_eq (d := k52) (fun h _ _ _ => flat_M52 (Kd.K_of_M _ h)) 22 ty 52 _ 64 Try.underlying22 info52 rfl (by decide) (by decide) hR p [.string p.f0, .string p.f1.f0, .int .i64 p.f1.f1, .int .i64 p.f1.f2, .int .i64 p.f1.f3, .int .i64 p.f1.f4] (k52_mkM _ _ _ p) rfl (by simp [Value.oneCell']) hbase (by omega)
end Go.Proofs.Ytoiedcnhojkpiaa.Q
