/- Of the proofs about sweep: several texts, joined. -/
import Derived.Test.YtoiedcnhojkpiaaMG
import Derived.Test.YtoiedcnhojkpiaaMA
namespace Go.Proofs.Ytoiedcnhojkpiaa.Q
open Go.RowKit Go.Maps Go.Proofs.YtoiedcnhojkpiaaW.PrintWords Go.Proofs.YtoiedcnhojkpiaaW.PrintLast Go.Proofs.YtoiedcnhojkpiaaW.PrintMore
theorem places_take (l : List S52) (id : ByteArray) (k : Nat) (h : k < l.length) : places (l.take (k + 1)) id = places (l.take k) id ++ (if l[k].f0 = id then [l[k].f1] else []) := by
  unfold places
  rw [List.take_succ_eq_append_getElem h, List.filter_append, List.map_append]
  congr 1
  by_cases hf : l[k].f0 = id <;> simp [hf]
theorem places_len (l : List S52) (id : ByteArray) : (places l id).length ≤ l.length := by
  unfold places
  rw [List.length_map]
  exact List.length_filter_le _ _
set_option maxHeartbeats 8000000 in
set_option maxRecDepth 100000 in
theorem rplaces_calls (base gr : Nat) (L : List S52) (id : ByteArray) (w : World) (h : RTab w base gr L) (hl : L.length ≤ 10000) :
    Calls Try.prog 68 #[.pointer (some ⟨gr, 0, none⟩), .string id] w fun e w' => ∃ v, e = .returned v ∧ Kd.R k50 50 w' w.heap.size (fun _ => True) v (places L id) ∧ Below w.heap.size w w' := by
  obtain ⟨v, hblk, hR⟩ := h
  obtain ⟨A, c, rfl, hle, hC⟩ := Kd.R_reads hR
  have HT := Aside0.mk hblk
  have HC := Aside0.mk hC
  have HB0 := Aside0.mk (Below.refl w.heap.size w)
  clear hblk hR hC
  go_enter Try.func68, Try.ntmps68
  go_wp2_with (fail)
  go_loopw [5, 6] (fun v5 v6 wr => ∃ k : Nat, k ≤ L.length ∧ v6 = .int .i64 k ∧ Aside0 (Kd.R k50 50 wr w.heap.size (fun _ => True) v5 (places (L.take k) id)) ∧ Aside0 (Below w.heap.size w wr)) (fun _ v6 _ => L.length - (intOf v6).toNat)
  case atStart => exact ⟨0, Nat.zero_le _, rfl, ⟨Kd.R_nil k50 50 _ _ _⟩, HB0⟩
  case round =>
    clear HB0
    obtain ⟨k, hk, rfl, HO, HB⟩ := hrel
    have t0 : wr.cell? ⟨gr, 0, none⟩ = some (.slice A L.length c) := (blk_cell (blk_below HT.out HB.out) 0).trans rfl
    by_cases hlt : k < L.length
    · obtain ⟨ad, y, rfl, hy, h0, h1, h2, h3, h4, h5⟩ := at52 (Kd.C_below HC.out HB.out) k hlt
      have hy2 : L[k] = y := (List.getElem?_eq_some_iff.1 hy).2
      have HP := Aside0.mk (places_take L id k hlt)
      rw [hy2] at HP
      have HLN : Aside0 ((places (L.take k) id).length ≤ 10000) := ⟨by have := places_len (L.take k) id; have := List.length_take_le k L; omega⟩
      clear hy hy2
      by_cases he : y.f0 = id
      · have q1 : (y.f0.toList == id.toList) = true := by rw [he]; simp
        rw [if_pos he] at HP
        clear he
        go_wp2_with (first | ((with_reducible refine gate_builtin (b := .append) (xs := #[.tmp 26, .tmp 35]) rfl ?_); at_builtin; refine Kd.R_append k50 (w0 := w) w.heap.size ?hg (.tmp 26) (.tmp 35) 88 50 (.agg #[.string ⟨#[]⟩, .int .i64 0, .int .i64 0, .int .i64 0, .int .i64 0]) 48 ?ho Try.underlying88 info50 rfl (by decide) (by omega) u5 ((places (L.take k) id)) (y.f1) [.string y.f1.f0, .int .i64 y.f1.f1, .int .i64 y.f1.f2, .int .i64 y.f1.f3, .int .i64 y.f1.f4] (fun _ => True) (fun _ => False) ?hs ?hx ?aP (fun _ hk => hk.elim) (fun _ _ => trivial) ?aO ?aB ?aS ?aL ?_; (case hg => rfl); (case ho => rfl); (case hs => rfl); (case hx => rfl); (case aP => exact k50_mkM _ _ _ (y.f1)); (case aB => exact HB.out); (case aO => exact HO.out); (case aS => exact HB.out.size); (case aL => have := HLN.out; omega); intro v9 w9 ho hb hg hat; have HO9 := Aside0.mk ho; have HB9 := Aside0.mk hb; clear ho hb hg hat))
        go_roundw
        case rel => exact ⟨k + 1, by omega, by go_num, ⟨by rw [HP.out]; exact HO9.out⟩, HB9⟩
        case measure => simp [intOf]; omega
      · have q1 : (y.f0.toList == id.toList) = false := beq_eq_false_iff_ne.2 fun e => he (eq_of_toList e)
        rw [if_neg he, List.append_nil] at HP
        clear he
        go_wp2_with (fail)
        go_roundw
        case rel => exact ⟨k + 1, by omega, by go_num, ⟨by rw [HP.out]; exact HO.out⟩, HB⟩
        case measure => simp [intOf]; omega
    · obtain rfl : k = L.length := by omega
      go_wp2_with (fail)
      go_ret
      exact ⟨_, rfl, by have := HO.out; rwa [List.take_length] at this, HB.out⟩
set_option maxHeartbeats 4000000 in
set_option maxRecDepth 100000 in
theorem rget_calls (base g : Nat) (L : List S52) (id : ByteArray) (w : World) (h : RTab w base g L) (hl : L.length ≤ 10000) :
    Calls Try.prog 44 #[.pointer (some ⟨g, 0, none⟩), .string id] w fun e w' => e = .returned (.tuple #[.agg #[.string (getP L id).1.f0, .int .i64 (getP L id).1.f1, .int .i64 (getP L id).1.f2, .int .i64 (getP L id).1.f3, .int .i64 (getP L id).1.f4], .bool (getP L id).2]) ∧ Below w.heap.size w w' := by
  have HT := Aside0.mk h
  have HLL := Aside0.mk hl
  clear h hl
  unfold getP
  have hpl := fun W hW => rplaces_calls base g L id W hW HLL.out
  generalize places L id = ps at hpl ⊢
  cases ps with
  | nil =>
    go_enter Try.func44, Try.ntmps44
    go_wp2_with (first | (go_at_call 68; refine (hpl _ (HT.out.below (below_alloc (Below.refl _ _) _))).mono ?_; rintro e w1 ⟨v, rfl, hR, hB⟩; obtain ⟨A, c, rfl, hle, hC⟩ := Kd.R_reads hR; have HB1 := Aside0.mk (below_step ((Below.refl _ _).alloc (Nat.le_refl _) _) hB); have HBK : Aside0 (w1.heap[w.heap.size]? = some (.cells #[.string ⟨#[]⟩, .int .i64 0, .int .i64 0, .int .i64 0, .int .i64 0] 50 (0, 0))) := ⟨blk_below (MapKept.heap_alloc w _).1 hB⟩; have hz0 : w1.cell? ⟨w.heap.size, 0, none⟩ = some (.string ⟨#[]⟩) := (blk_cell HBK.out 0).trans rfl; have hf0 := blk_frozen HBK.out 0; have hz1 : w1.cell? ⟨w.heap.size, 1, none⟩ = some (.int .i64 0) := (blk_cell HBK.out 1).trans rfl; have hf1 := blk_frozen HBK.out 1; have hz2 : w1.cell? ⟨w.heap.size, 2, none⟩ = some (.int .i64 0) := (blk_cell HBK.out 2).trans rfl; have hf2 := blk_frozen HBK.out 2; have hz3 : w1.cell? ⟨w.heap.size, 3, none⟩ = some (.int .i64 0) := (blk_cell HBK.out 3).trans rfl; have hf3 := blk_frozen HBK.out 3; have hz4 : w1.cell? ⟨w.heap.size, 4, none⟩ = some (.int .i64 0) := (blk_cell HBK.out 4).trans rfl; have hf4 := blk_frozen HBK.out 4; have HC := Aside0.mk hC; clear hR hB hC hle))
    have hK := set5_blk HBK.out (.string ⟨#[]⟩) (.int .i64 0) (.int .i64 0) (.int .i64 0) (.int .i64 0)
    have hB := set5_below HB1.out (Nat.le_refl _) (.string ⟨#[]⟩) (.int .i64 0) (.int .i64 0) (.int .i64 0) (.int .i64 0)
    change bodyPost Try.prog Try.f44 _ _ _ (set5 w1 w.heap.size (.string ⟨#[]⟩) (.int .i64 0) (.int .i64 0) (.int .i64 0) (.int .i64 0))
    generalize set5 w1 w.heap.size (.string ⟨#[]⟩) (.int .i64 0) (.int .i64 0) (.int .i64 0) (.int .i64 0) = W9 at hK hB ⊢
    have c0 : W9.cell? ⟨w.heap.size, 0, none⟩ = some (.string ⟨#[]⟩) := (blk_cell hK 0).trans rfl
    have c1 : W9.cell? ⟨w.heap.size, 1, none⟩ = some (.int .i64 0) := (blk_cell hK 1).trans rfl
    have c2 : W9.cell? ⟨w.heap.size, 2, none⟩ = some (.int .i64 0) := (blk_cell hK 2).trans rfl
    have c3 : W9.cell? ⟨w.heap.size, 3, none⟩ = some (.int .i64 0) := (blk_cell hK 3).trans rfl
    have c4 : W9.cell? ⟨w.heap.size, 4, none⟩ = some (.int .i64 0) := (blk_cell hK 4).trans rfl
    exact bodyPost_ret (v := .tuple #[.agg #[.string ⟨#[]⟩, .int .i64 0, .int .i64 0, .int .i64 0, .int .i64 0], .bool false]) (by simp [results, Try.results44, go_sem, c0, c1, c2, c3, c4]) rfl ⟨rfl, hB⟩
  | cons p ps =>
    go_enter Try.func44, Try.ntmps44
    go_wp2_with (fail)
    refine (hpl _ (HT.out.below (below_alloc (Below.refl _ _) _))).mono ?_
    rintro e w1 ⟨v, rfl, hR, hB⟩
    obtain ⟨A, c, rfl, hle, hC⟩ := Kd.R_reads hR
    have HB1 := Aside0.mk (below_step ((Below.refl _ _).alloc (Nat.le_refl _) _) hB)
    have HBK : Aside0 (w1.heap[w.heap.size]? = some (.cells #[.string ⟨#[]⟩, .int .i64 0, .int .i64 0, .int .i64 0, .int .i64 0] 50 (0, 0))) := ⟨blk_below (MapKept.heap_alloc w _).1 hB⟩
    have hz0 : w1.cell? ⟨w.heap.size, 0, none⟩ = some (.string ⟨#[]⟩) := (blk_cell HBK.out 0).trans rfl
    have hf0 := blk_frozen HBK.out 0
    have hz1 : w1.cell? ⟨w.heap.size, 1, none⟩ = some (.int .i64 0) := (blk_cell HBK.out 1).trans rfl
    have hf1 := blk_frozen HBK.out 1
    have hz2 : w1.cell? ⟨w.heap.size, 2, none⟩ = some (.int .i64 0) := (blk_cell HBK.out 2).trans rfl
    have hf2 := blk_frozen HBK.out 2
    have hz3 : w1.cell? ⟨w.heap.size, 3, none⟩ = some (.int .i64 0) := (blk_cell HBK.out 3).trans rfl
    have hf3 := blk_frozen HBK.out 3
    have hz4 : w1.cell? ⟨w.heap.size, 4, none⟩ = some (.int .i64 0) := (blk_cell HBK.out 4).trans rfl
    have hf4 := blk_frozen HBK.out 4
    obtain ⟨ad, q0, q1, q2, q3, q4, q5⟩ := first50 hC
    subst q0
    have hn0 : 0 < (p :: ps).length := by simp
    generalize (p :: ps).length = n at hn0 hle ⊢
    have e0 : ((n : Int) == 0) = false := beq_eq_false_iff_ne.2 (by omega)
    clear hR hB hC hle
    go_wp2
    have hK := set5_blk HBK.out (.string p.f0) (.int .i64 p.f1) (.int .i64 p.f2) (.int .i64 p.f3) (.int .i64 p.f4)
    have hB := set5_below HB1.out (Nat.le_refl _) (.string p.f0) (.int .i64 p.f1) (.int .i64 p.f2) (.int .i64 p.f3) (.int .i64 p.f4)
    change bodyPost Try.prog Try.f44 _ _ _ (set5 w1 w.heap.size (.string p.f0) (.int .i64 p.f1) (.int .i64 p.f2) (.int .i64 p.f3) (.int .i64 p.f4))
    generalize set5 w1 w.heap.size (.string p.f0) (.int .i64 p.f1) (.int .i64 p.f2) (.int .i64 p.f3) (.int .i64 p.f4) = W9 at hK hB ⊢
    have c0 : W9.cell? ⟨w.heap.size, 0, none⟩ = some (.string p.f0) := (blk_cell hK 0).trans rfl
    have c1 : W9.cell? ⟨w.heap.size, 1, none⟩ = some (.int .i64 p.f1) := (blk_cell hK 1).trans rfl
    have c2 : W9.cell? ⟨w.heap.size, 2, none⟩ = some (.int .i64 p.f2) := (blk_cell hK 2).trans rfl
    have c3 : W9.cell? ⟨w.heap.size, 3, none⟩ = some (.int .i64 p.f3) := (blk_cell hK 3).trans rfl
    have c4 : W9.cell? ⟨w.heap.size, 4, none⟩ = some (.int .i64 p.f4) := (blk_cell hK 4).trans rfl
    exact bodyPost_ret (v := .tuple #[.agg #[.string p.f0, .int .i64 p.f1, .int .i64 p.f2, .int .i64 p.f3, .int .i64 p.f4], .bool true]) (by simp [results, Try.results44, go_sem, c0, c1, c2, c3, c4]) rfl ⟨rfl, hB⟩
end Go.Proofs.Ytoiedcnhojkpiaa.Q
/- The reference's Ids, walked. -/
namespace Go.Proofs.Ytoiedcnhojkpiaa.Q
open Go.RowKit Go.Maps Go.Proofs.YtoiedcnhojkpiaaW.PrintWords Go.Proofs.YtoiedcnhojkpiaaW.PrintLast Go.Proofs.YtoiedcnhojkpiaaW.PrintMore
theorem idsOf_last (l : List S52) (k : Nat) (h : k < l.length) : (idsOf (l.take (k + 1))).getLast? = some l[k].f0 := by
  rw [idsOf_take l k h]
  unfold idStep
  split
  · assumption
  · simp
set_option maxHeartbeats 8000000 in
set_option maxRecDepth 100000 in
theorem rids_calls (base gr : Nat) (L : List S52) (w : World) (h : RTab w base gr L) (hl : L.length ≤ 10000) :
    Calls Try.prog 42 #[.pointer (some ⟨gr, 0, none⟩)] w fun e w' => ∃ v, e = .returned v ∧ Kd.R Kd.string 9 w' w.heap.size (fun _ => True) v (idsOf L) ∧ Below w.heap.size w w' := by
  obtain ⟨v, hblk, hR⟩ := h
  obtain ⟨A, c, rfl, hle, hC⟩ := Kd.R_reads hR
  have HT := Aside0.mk hblk
  have HC := Aside0.mk hC
  have HB0 := Aside0.mk (Below.refl w.heap.size w)
  clear hblk hR hC
  go_enter Try.func42, Try.ntmps42
  go_wp2_with (fail)
  go_loopw [3, 4] (fun v3 v4 wr => ∃ k : Nat, k ≤ L.length ∧ v4 = .int .i64 k ∧ Aside0 (Kd.R Kd.string 9 wr w.heap.size (fun _ => True) v3 (idsOf (L.take k))) ∧ Aside0 (Below w.heap.size w wr)) (fun _ v4 _ => L.length - (intOf v4).toNat)
  case atStart => exact ⟨0, Nat.zero_le _, rfl, ⟨Kd.R_nil Kd.string 9 _ _ _⟩, HB0⟩
  case round =>
    clear HB0
    obtain ⟨k, hk, rfl, HO, HB⟩ := hrel
    have t0 : wr.cell? ⟨gr, 0, none⟩ = some (.slice A L.length c) := (blk_cell (blk_below HT.out HB.out) 0).trans rfl
    by_cases hlt : k < L.length
    · obtain ⟨ad, y, rfl, hy, h0, _, _, _, _, _⟩ := at52 (Kd.C_below HC.out HB.out) k hlt
      have hy2 : L[k] = y := (List.getElem?_eq_some_iff.1 hy).2
      have HP := Aside0.mk (idsOf_take L k hlt)
      rw [hy2] at HP
      have HLN : Aside0 ((idsOf (L.take k)).length ≤ 10000) := ⟨by have := idsOf_len (L.take k); have := List.length_take_le k L; omega⟩
      clear hy hy2
      cases k with
      | zero =>
        have HS2 : Aside0 (idStep (idsOf (L.take 0)) y = idsOf (L.take 0) ++ [y.f0]) := ⟨by simp [idsOf, idStep]⟩
        go_wp2_with (fail)
        go_quiet (fail)
        have HB2 := Aside0.mk (pw_below_drewN HB.out nq)
        have HO2 := Aside0.mk (Kd.R_drewN HO.out nq)
        have t2 : (wr.drewN nq).cell? ⟨gr, 0, none⟩ = some (.slice (some ad) L.length c) := (blk_cell (blk_below HT.out HB2.out) 0).trans rfl
        have y2 : (wr.drewN nq).cell? (ad.add (0 * 6)) = some (.string y.f0) := pw_cell_below (pw_below_drewN (Below.refl _ _) nq) h0
        clear t0 h0
        generalize wr.drewN nq = W2 at HB2 HO2 t2 y2 ⊢
        have y3 : W2.cell? ad = some (.string y.f0) := by have := y2; rwa [Nat.zero_mul, show ad.add 0 = ad from by simp [Addr.add]] at this
        go_wp2_with (first | ((with_reducible refine gate_builtin (b := .append) (xs := #[.tmp 36, .tmp 45]) rfl ?_); at_builtin; refine Kd.R_append Kd.string (w0 := w) w.heap.size ?hg (.tmp 36) (.tmp 45) 23 9 (.string ⟨#[]⟩) 16 ?ho Try.underlying23 info9 rfl (by decide) (by omega) u3 ((idsOf (L.take 0))) (y.f0) [.string y.f0] (fun _ => True) (fun _ => False) ?hs ?hx ?aP (fun _ hk => hk.elim) (fun _ _ => trivial) ?aO ?aB ?aS ?aL ?_; (case hg => rfl); (case ho => rfl); (case hs => rfl); (case hx => rfl); (case aP => exact rfl); (case aB => exact HB2.out); (case aO => exact HO2.out); (case aS => exact HB2.out.size); (case aL => have := HLN.out; omega); intro v9 w9 ho hb hg hat; have HO9 := Aside0.mk ho; have HB9 := Aside0.mk hb; clear ho hb hg hat))
        go_roundw
        case rel => exact ⟨0 + 1, by omega, by go_num, ⟨by rw [HP.out, HS2.out]; exact HO9.out⟩, HB9⟩
        case measure => simp [intOf]; omega
      | succ m =>
        obtain ⟨ad', z, e, hz, z0, _, _, _, _, _⟩ := at52 (Kd.C_below HC.out HB.out) m (by omega)
        injection e with e
        subst e
        have hz2 : L[m] = z := (List.getElem?_eq_some_iff.1 hz).2
        have hla := idsOf_last L m (by omega)
        rw [hz2] at hla
        have HLA := Aside0.mk hla
        have hm5 : m ≤ 10000 := by omega
        have e1 : ((m : Int) + 1 == 0) = false := beq_eq_false_iff_ne.2 (by omega)
        have e2 : ((m + 1 : Nat) : Int) = (m : Int) + 1 := by omega
        have wm : IntKind.i64.wrap (m : Int) = (m : Int) := by rw [IntKind.wrap_i64]; omega
        have d1 : decide ((m : Int) + 1 < (L.length : Int)) = true := decide_eq_true (by omega)
        have d2 : decide (m + 1 < L.length) = true := decide_eq_true hlt
        clear hz hz2 hla
        by_cases he : z.f0 = y.f0
        · have HS2 : Aside0 (idStep (idsOf (L.take (m + 1))) y = idsOf (L.take (m + 1))) := ⟨by unfold idStep; rw [if_pos (by rw [HLA.out, he])]⟩
          have q1 : (y.f0.toList == z.f0.toList) = true := by rw [he]; simp
          clear he
          go_wp2_with (fail)
          go_quiet (fail)
          have HB2 := Aside0.mk (pw_below_drewN HB.out nq)
          have HO2 := Aside0.mk (Kd.R_drewN HO.out nq)
          go_wp2_with (fail)
          go_roundw
          case rel => exact ⟨m + 1 + 1, by omega, by go_num, ⟨by rw [HP.out, HS2.out]; exact HO2.out⟩, HB2⟩
          case measure => simp [intOf]; omega
        · have HS2 : Aside0 (idStep (idsOf (L.take (m + 1))) y = idsOf (L.take (m + 1)) ++ [y.f0]) := ⟨by unfold idStep; rw [if_neg (by rw [HLA.out]; intro e; injection e with e; exact he e)]⟩
          have q1 : (y.f0.toList == z.f0.toList) = false := beq_eq_false_iff_ne.2 fun e => he (eq_of_toList e).symm
          clear he
          go_wp2_with (fail)
          go_quiet (fail)
          have HB2 := Aside0.mk (pw_below_drewN HB.out nq)
          have HO2 := Aside0.mk (Kd.R_drewN HO.out nq)
          have t2 : (wr.drewN nq).cell? ⟨gr, 0, none⟩ = some (.slice (some ad) L.length c) := (blk_cell (blk_below HT.out HB2.out) 0).trans rfl
          have y2 : (wr.drewN nq).cell? (ad.add ((m + 1) * 6)) = some (.string y.f0) := pw_cell_below (pw_below_drewN (Below.refl _ _) nq) h0
          clear t0 h0
          generalize wr.drewN nq = W2 at HB2 HO2 t2 y2 ⊢
          skip
          go_wp2_with (first | ((with_reducible refine gate_builtin (b := .append) (xs := #[.tmp 36, .tmp 45]) rfl ?_); at_builtin; refine Kd.R_append Kd.string (w0 := w) w.heap.size ?hg (.tmp 36) (.tmp 45) 23 9 (.string ⟨#[]⟩) 16 ?ho Try.underlying23 info9 rfl (by decide) (by omega) u3 ((idsOf (L.take (m + 1)))) (y.f0) [.string y.f0] (fun _ => True) (fun _ => False) ?hs ?hx ?aP (fun _ hk => hk.elim) (fun _ _ => trivial) ?aO ?aB ?aS ?aL ?_; (case hg => rfl); (case ho => rfl); (case hs => rfl); (case hx => rfl); (case aP => exact rfl); (case aB => exact HB2.out); (case aO => exact HO2.out); (case aS => exact HB2.out.size); (case aL => have := HLN.out; omega); intro v9 w9 ho hb hg hat; have HO9 := Aside0.mk ho; have HB9 := Aside0.mk hb; clear ho hb hg hat))
          go_roundw
          case rel => exact ⟨(m + 1) + 1, by omega, by go_num, ⟨by rw [HP.out, HS2.out]; exact HO9.out⟩, HB9⟩
          case measure => simp [intOf]; omega
    · obtain rfl : k = L.length := by omega
      go_wp2_with (fail)
      go_ret
      exact ⟨_, rfl, by have := HO.out; rwa [List.take_length] at this, HB.out⟩
end Go.Proofs.Ytoiedcnhojkpiaa.Q
/- The reference's Packs, walked. -/
namespace Go.Proofs.Ytoiedcnhojkpiaa.Q
open Go.RowKit Go.Maps Go.Proofs.YtoiedcnhojkpiaaW.PrintWords Go.Proofs.YtoiedcnhojkpiaaW.PrintLast Go.Proofs.YtoiedcnhojkpiaaW.PrintMore
theorem bl_total {a b : ByteArray} (h : Op.bytesLess a.toList b.toList = false) (hne : a ≠ b) : Op.bytesLess b.toList a.toList = true := by
  have h1 : ¬ cmpS a b < 0 := fun hh => by rw [(cmpS_neg a b).1 hh] at h; cases h
  have h2 : cmpS a b ≠ 0 := fun hh => hne ((cmpS_zero a b).1 hh)
  exact (cmpS_neg b a).1 (by rw [cmpS_flip a b]; omega)
/-- A text put where it belongs. -/
theorem ins_rising {o : List ByteArray} {p : ByteArray} {j : Nat} (hr : Rising o) (hj : j ≤ o.length) (h1 : ∀ t s, t < j → o[t]? = some s → Op.bytesLess s.toList p.toList = true) (h2 : ∀ s, o[j]? = some s → Op.bytesLess s.toList p.toList = false ∧ s ≠ p) :
    Rising (o.take j ++ p :: o.drop j) ∧ ∀ s, s ∈ o.take j ++ p :: o.drop j ↔ s ∈ o ∨ s = p := by
  have hm : ∀ s, s ∈ o.take j ++ p :: o.drop j ↔ s ∈ o ∨ s = p := fun s => by
    conv => rhs; rw [← List.take_append_drop j o]
    simp only [List.mem_append, List.mem_cons]
    constructor
    · rintro (h | h | h)
      · exact .inl (.inl h)
      · exact .inr h
      · exact .inl (.inr h)
    · rintro ((h | h) | h)
      · exact .inl h
      · exact .inr (.inr h)
      · exact .inr (.inl h)
  have ht : ∀ s ∈ o.take j, Op.bytesLess s.toList p.toList = true := fun s hs => by
    obtain ⟨t, ht, rfl⟩ := List.getElem_of_mem hs
    have htj : t < j := by have := List.length_take_le j o; rw [List.length_take] at ht; omega
    rw [List.getElem_take]
    exact h1 t _ htj (List.getElem?_eq_getElem (by omega))
  have hd : ∀ s ∈ o.drop j, Op.bytesLess p.toList s.toList = true := fun s hs => by
    obtain ⟨t, ht, rfl⟩ := List.getElem_of_mem hs
    rw [List.length_drop] at ht
    rw [List.getElem_drop]
    have hjl : j < o.length := by omega
    obtain ⟨h3, h4⟩ := h2 _ (List.getElem?_eq_getElem hjl)
    have h5 := bl_total h3 h4
    rcases Nat.eq_zero_or_pos t with h6 | h6
    · subst h6; exact h5
    · exact bl_trans _ _ _ h5 (List.pairwise_iff_getElem.1 hr j (j + t) hjl (by omega) (by omega))
  refine ⟨?_, hm⟩
  have hsp : Rising (o.take j ++ o.drop j) := by rw [List.take_append_drop]; exact hr
  obtain ⟨p1, p2, p3⟩ := List.pairwise_append.1 hsp
  refine List.pairwise_append.2 ⟨p1, List.pairwise_cons.2 ⟨hd, p2⟩, fun a ha b hb => ?_⟩
  rcases List.mem_cons.1 hb with rfl | hb
  · exact ht a ha
  · exact p3 a ha b hb
theorem drop9 {w : World} {ad : Addr} {L : List ByteArray} {i : Nat} (h : Kd.C Kd.string w (some ad) L.length L) (hi : i < L.length) : Kd.C Kd.string w (some (ad.add i)) (L.length - i) (L.drop i) := by
  have := Kd.C_drop (c := i + 1 + L.length) h (Nat.le_of_lt hi) (by omega)
  rw [if_neg (by omega), List.length_drop] at this
  have h1 : Kd.string.sz = 1 := rfl
  simpa [h1] using this
theorem dropE9 {w : World} {A : Option Addr} {L : List ByteArray} {m : Nat} (h : L = []) (hm : m = 0) : Kd.C Kd.string w A m L := by
  subst h hm
  exact ⟨rfl, Nat.zero_le _, fun h => absurd h (Nat.lt_irrefl _)⟩
set_option maxHeartbeats 8000000 in
set_option maxRecDepth 100000 in
theorem rpacks_calls (base gr : Nat) (L : List S52) (w : World) (h : RTab w base gr L) (hl : L.length ≤ 10000) :
    Calls Try.prog 39 #[.pointer (some ⟨gr, 0, none⟩)] w fun e w' => ∃ v rs, e = .returned v ∧ Kd.R Kd.string 9 w' w.heap.size (fun _ => True) v rs ∧ Rising rs ∧ (∀ s, s ∈ rs ↔ ∃ x ∈ L, x.f1.f0 = s) ∧ rs.length ≤ L.length ∧ Below w.heap.size w w' := by
  obtain ⟨v, hblk, hR⟩ := h
  obtain ⟨A, c, rfl, hle, hC⟩ := Kd.R_reads hR
  have HT := Aside0.mk hblk
  have HC := Aside0.mk hC
  have HB0 := Aside0.mk (Below.refl w.heap.size w)
  clear hblk hR hC
  go_enter Try.func39, Try.ntmps39
  go_wp2_with (fail)
  go_loopw [3, 4] (fun v3 v4 wr => ∃ k : Nat, k ≤ L.length ∧ v4 = .int .i64 k ∧ ∃ o, Aside0 (Kd.R Kd.string 9 wr w.heap.size (fun _ => True) v3 o) ∧ Aside0 (Rising o) ∧ Aside0 (∀ s, s ∈ o ↔ ∃ x ∈ L.take k, x.f1.f0 = s) ∧ Aside0 (o.length ≤ k) ∧ Aside0 (Below w.heap.size w wr)) (fun _ v4 _ => L.length - (intOf v4).toNat)
  case atStart => exact ⟨0, Nat.zero_le _, rfl, [], ⟨Kd.R_nil Kd.string 9 _ _ _⟩, ⟨List.Pairwise.nil⟩, ⟨fun s => by simp⟩, ⟨Nat.le_refl _⟩, HB0⟩
  case round =>
    clear HB0
    obtain ⟨k, hk, rfl, o, HO, HRI, HME, HLE, HB⟩ := hrel
    obtain ⟨W, hW⟩ : ∃ W, W = wr := ⟨_, rfl⟩
    subst hW
    have t0 : W.cell? ⟨gr, 0, none⟩ = some (.slice A L.length c) := (blk_cell (blk_below HT.out HB.out) 0).trans rfl
    by_cases hlt : k < L.length
    · obtain ⟨ad, y, rfl, hy, _, h1, _, _, _, _⟩ := at52 (Kd.C_below HC.out HB.out) k hlt
      have hy2 : L[k] = y := (List.getElem?_eq_some_iff.1 hy).2
      have HY : Aside0 (∀ s, (∃ x ∈ L.take (k + 1), x.f1.f0 = s) ↔ (∃ x ∈ L.take k, x.f1.f0 = s) ∨ s = y.f1.f0) := ⟨fun s => by
        rw [List.take_succ_eq_append_getElem hlt, hy2]
        constructor
        · rintro ⟨x, hx, rfl⟩
          rcases List.mem_append.1 hx with h | h
          · exact .inl ⟨x, h, rfl⟩
          · rw [List.mem_singleton.1 h]; exact .inr rfl
        · rintro (⟨x, hx, rfl⟩ | rfl)
          · exact ⟨x, List.mem_append_left _ hx, rfl⟩
          · exact ⟨y, by simp, rfl⟩⟩
      have hol : o.length ≤ 10000 := by have := HLE.out; omega
      obtain ⟨A3, c3, rfl, hle3, hC3⟩ := Kd.R_reads HO.out
      have HC3 := Aside0.mk hC3
      clear hy hy2 hC3
      generalize y.f1.f0 = p at h1 HY
      go_wp2_with (fail)
      go_loopw [6] (fun v6 w2 => ∃ j : Nat, j ≤ o.length ∧ v6 = .int .i64 j ∧ Aside0 (∀ t s, t < j → o[t]? = some s → Op.bytesLess s.toList p.toList = true) ∧ w2 = W) (fun v6 _ => o.length - (intOf v6).toNat)
      case atStart => exact ⟨0, Nat.zero_le _, rfl, ⟨fun t s ht => absurd ht (Nat.not_lt_zero _)⟩, rfl⟩
      case round =>
        obtain ⟨j, hj, rfl, HJ, rfl⟩ := hrel
        have HOC : Aside0 (o.length < maxLen) := ⟨by unfold maxLen; omega⟩
        by_cases hjl : j < o.length
        · obtain ⟨ad3, e3, s0⟩ := Kd.at_string HC3.out (j : Int) (by omega) (by omega)
          subst e3
          have hd : rdOf ByteArray.empty o (j : Int) = o[j] := by unfold rdOf; simp [List.getD_eq_getElem?_getD, List.getElem?_eq_getElem hjl]
          rw [hd, Int.toNat_natCast] at s0
          have HSJ : Aside0 (o[j]? = some o[j]) := ⟨List.getElem?_eq_getElem hjl⟩
          clear hd
          generalize o[j] = s at s0 HSJ
          by_cases hb : Op.bytesLess s.toList p.toList = true
          · have HJ2 : Aside0 (∀ t z, t < j + 1 → o[t]? = some z → Op.bytesLess z.toList p.toList = true) := ⟨fun t z ht hz => by
              by_cases hti : t = j
              · subst hti
                rw [HSJ.out] at hz
                injection hz with hz
                rw [← hz]
                exact hb
              · exact HJ.out t z (by omega) hz⟩
            go_wp2_with (fail)
            go_roundw
            case rel => exact ⟨j + 1, by omega, by go_num, HJ2, trivial⟩
            case measure => simp [intOf]; omega
          · have hb2 : Op.bytesLess s.toList p.toList = false := eq_false_of_ne_true hb
            clear hb
            by_cases he : s = p
            · have q1 : (s.toList == p.toList) = true := by rw [he]; simp
              have HPO : Aside0 (p ∈ o) := ⟨by rw [← he]; exact List.mem_of_getElem? HSJ.out⟩
              clear he
              go_wp2_with (fail)
              go_roundw
              case rel => exact ⟨k + 1, by omega, by go_num, o, HO, HRI, ⟨fun z => by rw [HY.out, ← HME.out]; exact ⟨.inl, fun h => by rcases h with h | h; exact h; rw [h]; exact HPO.out⟩⟩, ⟨by have := HLE.out; omega⟩, HB⟩
              case measure => simp [intOf]; omega
            · have q1 : (s.toList == p.toList) = false := beq_eq_false_iff_ne.2 fun e => he (eq_of_toList e)
              have HINS := Aside0.mk (ins_rising HRI.out hj HJ.out (fun z hz => by rw [HSJ.out] at hz; injection hz with hz; rw [← hz]; exact ⟨hb2, he⟩))
              clear he
              have HC1 : Aside0 (Kd.C Kd.string wr (some ad3) j (o.take j)) := ⟨by have := Kd.C_take HC3.out (m := j) (by omega); rwa [List.length_take, Nat.min_eq_left (by omega)] at this⟩
              have hic : j ≤ c3 := by omega
              go_wp2_with (first | ((with_reducible refine gate_builtin (b := .append) (xs := #[.tmp 52, .tmp 55]) rfl ?_); at_builtin; refine Kd.R_append_rows Kd.string (Rr := Kd.K Kd.string wr) (w0 := wr) wr.heap.size ?hg (.tmp 52) (.tmp 55) 23 9 (.string ⟨#[]⟩) 16 ?ho Try.underlying23 info9 rfl (by decide) (by omega) (.slice none 0 0) [] (o.take j) (some ad3) j c3 (fun _ => True) (fun _ => False) ?hs ?hx ?aO ?aR ?aK (fun _ hk => hk.elim) (fun _ _ => trivial) ?aB ?aS ?aL ?_; (case hg => rfl); (case ho => rfl); (case hs => rfl); (case hx => rfl); (case aO => exact (Kd.R_nil Kd.string 9 _ _ _)); (case aR => exact HC1.out); (case aK => exact fun x cs h => flat_M9 h); (case aB => exact (Below.refl _ _)); (case aS => exact (Nat.le_refl _)); (case aL => simp; omega); intro v6 w6 ho hb hg hat; have HO6 := Aside0.mk ho; have HB6 := Aside0.mk hb; clear ho hb hg hat) | ((with_reducible refine gate_builtin (b := .append) (xs := #[.tmp 57, .tmp 59]) rfl ?_); at_builtin; refine Kd.R_append Kd.string (w0 := wr) wr.heap.size ?hg (.tmp 57) (.tmp 59) 23 9 (.string ⟨#[]⟩) 16 ?ho Try.underlying23 info9 rfl (by decide) (by omega) v6 (([] ++ o.take j)) (p) [.string p] (fun _ => True) (fun _ => False) ?hs ?hx ?aP (fun _ hk => hk.elim) (fun _ _ => trivial) ?aO ?aB ?aS ?aL ?_; (case hg => rfl); (case ho => rfl); (case hs => rfl); (case hx => rfl); (case aP => exact rfl); (case aB => exact HB6.out); (case aO => exact HO6.out); (case aS => exact HB6.out.size); (case aL => have := List.length_take_le j o; simp; omega); intro v9 w9 ho hb hg hat; have HO9 := Aside0.mk ho; have HB9 := Aside0.mk hb; clear ho hb hg hat) | ((with_reducible refine gate_builtin (b := .append) (xs := #[.tmp 61, .tmp 64]) rfl ?_); at_builtin; refine Kd.R_append_rows Kd.string (Rr := Kd.K Kd.string w9) (w0 := wr) wr.heap.size ?hg (.tmp 61) (.tmp 64) 23 9 (.string ⟨#[]⟩) 16 ?ho Try.underlying23 info9 rfl (by decide) (by omega) v9 ([] ++ o.take j ++ [p]) (o.drop j) ?A1 ?m1 ?c1 (fun _ => True) (fun _ => False) ?hs ?hx ?aO ?aR ?aK (fun _ hk => hk.elim) (fun _ _ => trivial) ?aB ?aS ?aL ?_; (case hg => rfl); (case ho => rfl); (case hs => rfl); (case hx => rfl); (case aO => exact HO9.out); (case aR => exact (Kd.C_below (drop9 HC3.out (by omega)) HB9.out)); (case aK => exact fun x cs h => flat_M9 h); (case aB => exact HB9.out); (case aS => exact HB9.out.size); (case aL => simp; omega); intro v8 w8 ho hb hg hat; have HO8 := Aside0.mk ho; have HB8 := Aside0.mk hb; clear ho hb hg hat))
              all_goals go_roundw
              all_goals first
                | exact ⟨k + 1, by omega, by go_num, o.take j ++ p :: o.drop j, ⟨by have := Kd.R_lower HO8.out HB.out.size; simpa using this⟩, ⟨HINS.out.1⟩, ⟨fun z => by rw [HINS.out.2, HY.out, ← HME.out]⟩, ⟨by have := HLE.out; simp; omega⟩, ⟨below_step HB.out HB8.out⟩⟩
                | (simp [intOf]; omega)
        · obtain rfl : j = o.length := by omega
          have HINS := Aside0.mk (ins_rising HRI.out hj HJ.out (fun z hz => by have := (List.getElem?_eq_some_iff.1 hz).1; omega))
          have d1 : decide ((o.length : Int) < (o.length : Int)) = false := decide_eq_false (by omega)
          have HC1 : Aside0 (Kd.C Kd.string wr (A3) o.length (o.take o.length)) := ⟨by have := Kd.C_take HC3.out (m := o.length) (by omega); rwa [List.length_take, Nat.min_eq_left (by omega)] at this⟩
          have hic : o.length ≤ c3 := by omega
          go_wp2_with (first | ((with_reducible refine gate_builtin (b := .append) (xs := #[.tmp 52, .tmp 55]) rfl ?_); at_builtin; refine Kd.R_append_rows Kd.string (Rr := Kd.K Kd.string wr) (w0 := wr) wr.heap.size ?hg (.tmp 52) (.tmp 55) 23 9 (.string ⟨#[]⟩) 16 ?ho Try.underlying23 info9 rfl (by decide) (by omega) (.slice none 0 0) [] (o.take o.length) (A3) o.length c3 (fun _ => True) (fun _ => False) ?hs ?hx ?aO ?aR ?aK (fun _ hk => hk.elim) (fun _ _ => trivial) ?aB ?aS ?aL ?_; (case hg => rfl); (case ho => rfl); (case hs => rfl); (case hx => rfl); (case aO => exact (Kd.R_nil Kd.string 9 _ _ _)); (case aR => exact HC1.out); (case aK => exact fun x cs h => flat_M9 h); (case aB => exact (Below.refl _ _)); (case aS => exact (Nat.le_refl _)); (case aL => simp; omega); intro v6 w6 ho hb hg hat; have HO6 := Aside0.mk ho; have HB6 := Aside0.mk hb; clear ho hb hg hat) | ((with_reducible refine gate_builtin (b := .append) (xs := #[.tmp 57, .tmp 59]) rfl ?_); at_builtin; refine Kd.R_append Kd.string (w0 := wr) wr.heap.size ?hg (.tmp 57) (.tmp 59) 23 9 (.string ⟨#[]⟩) 16 ?ho Try.underlying23 info9 rfl (by decide) (by omega) v6 (([] ++ o.take o.length)) (p) [.string p] (fun _ => True) (fun _ => False) ?hs ?hx ?aP (fun _ hk => hk.elim) (fun _ _ => trivial) ?aO ?aB ?aS ?aL ?_; (case hg => rfl); (case ho => rfl); (case hs => rfl); (case hx => rfl); (case aP => exact rfl); (case aB => exact HB6.out); (case aO => exact HO6.out); (case aS => exact HB6.out.size); (case aL => have := List.length_take_le o.length o; simp; omega); intro v9 w9 ho hb hg hat; have HO9 := Aside0.mk ho; have HB9 := Aside0.mk hb; clear ho hb hg hat) | ((with_reducible refine gate_builtin (b := .append) (xs := #[.tmp 61, .tmp 64]) rfl ?_); at_builtin; refine Kd.R_append_rows Kd.string (Rr := Kd.K Kd.string w9) (w0 := wr) wr.heap.size ?hg (.tmp 61) (.tmp 64) 23 9 (.string ⟨#[]⟩) 16 ?ho Try.underlying23 info9 rfl (by decide) (by omega) v9 ([] ++ o.take o.length ++ [p]) (o.drop o.length) ?A1b ?m1b ?c1b (fun _ => True) (fun _ => False) ?hs ?hx ?aO ?aR ?aK (fun _ hk => hk.elim) (fun _ _ => trivial) ?aB ?aS ?aL ?_; (case hg => rfl); (case ho => rfl); (case hs => rfl); (case hx => rfl); (case aO => exact HO9.out); (case aR => exact (dropE9 (by simp) (by simp))); (case aK => exact fun x cs h => flat_M9 h); (case aB => exact HB9.out); (case aS => exact HB9.out.size); (case aL => simp; omega); intro v8 w8 ho hb hg hat; have HO8 := Aside0.mk ho; have HB8 := Aside0.mk hb; clear ho hb hg hat))
          all_goals go_roundw
          all_goals first
            | exact ⟨k + 1, by omega, by go_num, o.take o.length ++ p :: o.drop o.length, ⟨by have := Kd.R_lower HO8.out HB.out.size; simpa using this⟩, ⟨HINS.out.1⟩, ⟨fun z => by rw [HINS.out.2, HY.out, ← HME.out]⟩, ⟨by have := HLE.out; simp; omega⟩, ⟨below_step HB.out HB8.out⟩⟩
            | (simp [intOf]; omega)
    · obtain rfl : k = L.length := by omega
      go_wp2_with (fail)
      go_ret
      exact ⟨_, o, rfl, HO.out, HRI.out, by have := HME.out; rwa [List.take_length] at this, HLE.out, HB.out⟩
end Go.Proofs.Ytoiedcnhojkpiaa.Q
-- Made by wip/qprint.sh (a patched copy of the kit's print program) out of the translation. Lean checks it.
namespace Go.Proofs.Ytoiedcnhojkpiaa.Q
open Go.RowKit Go.Proofs.YtoiedcnhojkpiaaW.PrintWords Go.Proofs.YtoiedcnhojkpiaaW.PrintLast Go.Proofs.YtoiedcnhojkpiaaW.PrintMore
attribute [local go_sem] max2_int min2_int max_two min_two max_three min_three max_four min_four   -- for this text's walks alone
set_option linter.unusedVariables false
set_option linter.unusedSimpArgs false

/-! ### garretref29_rising: function 40 -/
def garretref29_rising.l0 : Nat → List ByteArray → ByteArray → Int → Option (List ByteArray)
  | 0, _, _, _ => none
  | k + 1, x0, x1, x5 => if x5 < (x0.length : Int) then (if 0 ≤ x5 then (if (Op.bytesLess ((rdOf ByteArray.empty x0 x5).toList) x1.toList) = true then (garretref29_rising.l0 k x0 x1 (wrap64 (x5 + 1))) else (if (rdOf ByteArray.empty x0 x5).toList = x1.toList then (some x0) else (if x5 ≤ (x0.length : Int) then ((some (x0.take (x5 : Int).toNat : List ByteArray)).bind fun y339 => (if ([] : List ByteArray).length + y339.length < 8796093022208 then ((some (([] : List ByteArray) ++ y339 : List ByteArray)).bind fun y343 => (if y343.length < 8796093022208 then ((some (y343 ++ [x1] : List ByteArray)).bind fun y346 => ((some (x0.drop (x5 : Int).toNat : List ByteArray)).bind fun y349 => (if y346.length + y349.length < 8796093022208 then (some (y346 ++ y349)) else (none)))) else (none))) else (none))) else (none)))) else (none)) else (if 0 ≤ x5 then (if x5 ≤ (x0.length : Int) then ((some (x0.take (x5 : Int).toNat : List ByteArray)).bind fun y356 => (if ([] : List ByteArray).length + y356.length < 8796093022208 then ((some (([] : List ByteArray) ++ y356 : List ByteArray)).bind fun y360 => (if y360.length < 8796093022208 then ((some (y360 ++ [x1] : List ByteArray)).bind fun y363 => ((some (x0.drop (x5 : Int).toNat : List ByteArray)).bind fun y366 => (if y363.length + y366.length < 8796093022208 then (some (y363 ++ y366)) else (none)))) else (none))) else (none))) else (none)) else (none))
def garretref29_rising.f (k : Nat) (l0 : List ByteArray) (a1 : ByteArray) : Option (List ByteArray) := garretref29_rising.l0 k l0 a1 0
theorem garretref29_rising.mono_l : ∀ k, (∀ y0 y1 y2, LeO (garretref29_rising.l0 k y0 y1 y2) (garretref29_rising.l0 (k + 1) y0 y1 y2))
  | 0 => fun _ _ _ r h => by simp [garretref29_rising.l0] at h
  | k + 1 => by
    have ih0 := garretref29_rising.mono_l k
    · intro y0 y1 y2
      unfold garretref29_rising.l0
      repeat' first
      | (with_reducible exact ih0 _ _ _)
      | (with_reducible exact LeO.refl _)
      | (with_reducible exact LeO.none _)
      | (with_reducible refine LeO.ite ?_ ?_)
      | (with_reducible refine LeO.bind ?_ (fun _ => ?_))
      | exact ih0 _ _ _
      | exact LeO.none _
      | refine LeO.ite ?_ ?_
      | refine LeO.bind ?_ (fun _ => ?_)
theorem garretref29_rising.mono : ∀ a0 a1 k, LeO (garretref29_rising.f k a0 a1) (garretref29_rising.f (k + 1) a0 a1) := by
  intro a0 a1 k
  have ih0 := garretref29_rising.mono_l k
  unfold garretref29_rising.f
  repeat' first
      | (with_reducible exact ih0 _ _ _)
      | (with_reducible exact LeO.refl _)
      | (with_reducible exact LeO.none _)
      | (with_reducible refine LeO.ite ?_ ?_)
      | (with_reducible refine LeO.bind ?_ (fun _ => ?_))
      | exact ih0 _ _ _
      | exact LeO.none _
      | refine LeO.ite ?_ ?_
      | refine LeO.bind ?_ (fun _ => ?_)
set_option maxHeartbeats 8000000 in
set_option maxRecDepth 100000 in
theorem garretref29_rising.calls (k : Nat) (P0_ : Nat → Prop) (u9000_ : Value) (l0 : List ByteArray) (a1 : ByteArray) (r : List ByteArray) (w0 w : World) (hB : Below w0.heap.size w0 w) (ho0 : Kd.R Kd.string 9 w w0.heap.size P0_ u9000_ l0) (h : garretref29_rising.f k l0 a1 = some r) :
    Calls Try.prog 40 #[u9000_, .string a1] w fun e w' => ∃ v0_ : Value, e = .returned (v0_) ∧ Kd.R Kd.string 9 w' w0.heap.size (fun k_ => (P0_ k_ ∨ w.heap.size ≤ k_)) v0_ r ∧ Below w0.heap.size w0 w' ∧ Kept w w' (fun k_ => P0_ k_) := by
  have HO0 := Aside0.mk (show Kd.R Kd.string 9 w w0.heap.size (fun k_ => (P0_ k_ ∨ w.heap.size ≤ k_)) u9000_ l0 from Kd.R_mono ho0 (fun k_ hk => (.inl hk)))
  have HK := Aside0.mk (Kept.refl w (fun k_ => P0_ k_))
  have HW0 := Aside0.mk hB.size
  have HB := Aside0.mk hB
  clear hB
  have H : (garretref29_rising.l0 k l0 a1 0) = some r := h
  clear h
  have H' := Aside0.mk H
  clear H
  go_enter Try.func40, Try.ntmps40
  go_wp2
  go_loopg [5] k (fun kq v5 w' => ∃ (x5_1 : Int), v5 = .int .i64 x5_1 ∧ Aside0 (garretref29_rising.l0 kq l0 a1 x5_1 = some r) ∧ Aside0 (kq ≤ k) ∧ Aside0 (Kd.R Kd.string 9 w' w0.heap.size (fun k_ => (P0_ k_ ∨ w.heap.size ≤ k_)) u9000_ l0) ∧ Aside0 (Kept w w' (fun k_ => P0_ k_)) ∧ Aside0 (Below w0.heap.size w0 w'))
  case atStart => exact ⟨(0), (by first | rfl | (simp; done) | (simp [*]; done)), H', ⟨Nat.le_refl _⟩, ⟨by (with_reducible repeat (first | apply Kd.R_alloc | apply Kd.R_drewN | apply Kd.R_drew)); exact HO0.out⟩, ⟨by repeat (first | (with_reducible first | exact HK.out | apply Kept.alloc | apply Kept.drewN | apply Kept.drew) | exact HK.out)⟩, ⟨by repeat (first | (with_reducible first | exact HB.out | apply below_alloc | apply pw_below_drewN | apply below_drew1) | exact HB.out)⟩⟩
  case round =>
    clear H'
    try clear p2
    obtain ⟨x5_1, rfl, HA, HK1, HO_0, HK, HB⟩ := hrel
    cases gk with
    | zero => exact absurd HA.out (by simp [garretref29_rising.l0])
    | succ k1 =>
      have H := HA.out
      clear HA
      simp only [garretref29_rising.l0] at H
      by_cases c3 : x5_1 < (l0.length : Int)
      · rw [if_pos c3] at H
        have c3b0 : decide (x5_1 < (l0.length : Int)) = true := decide_eq_true c3
        clear c3
        by_cases c4 : 0 ≤ x5_1
        · rw [if_pos c4] at H
          have c4b0 : decide (0 ≤ x5_1) = true := decide_eq_true c4
          clear c4
          by_cases c5 : (Op.bytesLess ((rdOf ByteArray.empty l0 x5_1).toList) a1.toList) = true
          · rw [if_pos c5] at H
            have c5b0 : (Op.bytesLess ((rdOf ByteArray.empty l0 x5_1).toList) a1.toList) = true := c5
            clear c5
            have H' := Aside0.mk H
            clear H
            obtain ⟨Ao6, co6, eo6⟩ := Kd.R_slice HO_0.out
            subst eo6
            have p337 : 0 ≤ (x5_1 : Int) := of_decide_eq_true (by first | (with_reducible assumption) | assumption)
            have q337 : x5_1 < (l0.length : Int) := of_decide_eq_true (by first | (with_reducible assumption) | assumption)
            obtain ⟨ad337, e337, hx337_0⟩ := Kd.at_string (Kd.R_reads' HO_0.out).2.2 x5_1 p337 q337
            cases e337
            replace p337 := eq_true p337
            replace q337 := eq_true q337
            go_wp2
            go_roundg k1
            case measure => have := HK1.out; omega
            case rel => exact ⟨(wrap64 (x5_1 + 1)), (by first | rfl | (simp; done) | (simp [*]; done)), H', ⟨by have := HK1.out; omega⟩, ⟨by (with_reducible repeat (first | apply Kd.R_alloc | apply Kd.R_drewN | apply Kd.R_drew)); exact HO_0.out⟩, ⟨by repeat (first | (with_reducible first | exact HK.out | apply Kept.alloc | apply Kept.drewN | apply Kept.drew) | exact HK.out)⟩, ⟨by repeat (first | (with_reducible first | exact HB.out | apply below_alloc | apply pw_below_drewN | apply below_drew1) | exact HB.out)⟩⟩
          · rw [if_neg c5] at H
            have c5b0 : (Op.bytesLess ((rdOf ByteArray.empty l0 x5_1).toList) a1.toList) = false := by simpa using c5
            clear c5
            by_cases c7 : (rdOf ByteArray.empty l0 x5_1).toList = a1.toList
            · rw [if_pos c7] at H
              have c7b0 : ((rdOf ByteArray.empty l0 x5_1).toList == a1.toList) = true := beq_iff_eq.mpr c7
              have c7b1 : ((rdOf ByteArray.empty l0 x5_1).toList != a1.toList) = false := bne_eq_false_iff_eq.mpr c7
              clear c7
              obtain rfl := Option.some.inj H
              obtain ⟨Ao8, co8, eo8⟩ := Kd.R_slice HO_0.out
              subst eo8
              have p337 : 0 ≤ (x5_1 : Int) := of_decide_eq_true (by first | (with_reducible assumption) | assumption)
              have q337 : x5_1 < (l0.length : Int) := of_decide_eq_true (by first | (with_reducible assumption) | assumption)
              obtain ⟨ad337, e337, hx337_0⟩ := Kd.at_string (Kd.R_reads' HO_0.out).2.2 x5_1 p337 q337
              cases e337
              replace p337 := eq_true p337
              replace q337 := eq_true q337
              have p338 : 0 ≤ (x5_1 : Int) := of_decide_eq_true (by first | (with_reducible assumption) | assumption)
              have q338 : x5_1 < (l0.length : Int) := of_decide_eq_true (by first | (with_reducible assumption) | assumption)
              obtain ⟨ad338, e338, hx338_0⟩ := Kd.at_string (Kd.R_reads' HO_0.out).2.2 x5_1 p338 q338
              obtain rfl : ad337 = ad338 := (by injection e338)
              replace p338 := eq_true p338
              replace q338 := eq_true q338
              go_wp2
              go_ret
              exact ⟨_, by first | rfl | (simp [errW_none, errW_some] <;> rfl) | (simp [*, errW_none, errW_some] <;> rfl), by (with_reducible repeat (first | apply Kd.R_alloc | apply Kd.R_drewN | apply Kd.R_drew)); exact HO_0.out, by repeat (first | (with_reducible first | exact HB.out | apply below_alloc | apply pw_below_drewN | apply below_drew1) | exact HB.out), by repeat (first | (with_reducible first | exact HK.out | apply Kept.alloc | apply Kept.drewN | apply Kept.drew) | exact HK.out)⟩
            · rw [if_neg c7] at H
              have c7b0 : ((rdOf ByteArray.empty l0 x5_1).toList == a1.toList) = false := beq_eq_false_iff_ne.mpr c7
              have c7b1 : ((rdOf ByteArray.empty l0 x5_1).toList != a1.toList) = true := bne_iff_ne.mpr c7
              have c9b0 := eq_true (of_decide_eq_true (by first | (with_reducible assumption) | assumption) : 0 ≤ x5_1)
              by_cases c10 : x5_1 ≤ (l0.length : Int)
              · rw [if_pos c10] at H
                have c10b0 := eq_true c10
                have c10b1 : decide (x5_1 ≤ (l0.length : Int)) = true := decide_eq_true c10
                clear c10
                obtain ⟨y339, hy339⟩ : ∃ y_ : List ByteArray, y_ = (l0.take (x5_1 : Int).toNat) := ⟨_, rfl⟩
                replace H : (if ([] : List ByteArray).length + y339.length < 8796093022208 then ((some (([] : List ByteArray) ++ y339 : List ByteArray)).bind fun y343 => (if y343.length < 8796093022208 then ((some (y343 ++ [a1] : List ByteArray)).bind fun y346 => ((some (l0.drop (x5_1 : Int).toNat : List ByteArray)).bind fun y349 => (if y346.length + y349.length < 8796093022208 then (some (y346 ++ y349)) else (none)))) else (none))) else (none)) = some r := by first | (rw [hy339]; with_reducible exact H) | (have H2_ := (Option.bind_some _ _).symm.trans H; rw [hy339]; with_reducible exact H2_) | (have H2_ := (Option.bind_some _ _).symm.trans H; with_reducible exact H2_) | with_reducible exact H | (rw [hy339]; exact H) | exact H
                have Ny339 := Aside0.mk hy339
                clear hy339
                by_cases c11 : ([] : List ByteArray).length + y339.length < 8796093022208
                · rw [if_pos c11] at H
                  have LMc11 := Aside0.mk c11
                  clear c11
                  obtain ⟨y343, hy343⟩ : ∃ y_ : List ByteArray, y_ = (([] : List ByteArray) ++ y339) := ⟨_, rfl⟩
                  replace H : (if y343.length < 8796093022208 then ((some (y343 ++ [a1] : List ByteArray)).bind fun y346 => ((some (l0.drop (x5_1 : Int).toNat : List ByteArray)).bind fun y349 => (if y346.length + y349.length < 8796093022208 then (some (y346 ++ y349)) else (none)))) else (none)) = some r := by first | (rw [hy343]; with_reducible exact H) | (have H2_ := (Option.bind_some _ _).symm.trans H; rw [hy343]; with_reducible exact H2_) | (have H2_ := (Option.bind_some _ _).symm.trans H; with_reducible exact H2_) | with_reducible exact H | (rw [hy343]; exact H) | exact H
                  have Ny343 := Aside0.mk hy343
                  clear hy343
                  by_cases c12 : y343.length < 8796093022208
                  · rw [if_pos c12] at H
                    have LMc12 := Aside0.mk c12
                    clear c12
                    obtain ⟨y346, hy346⟩ : ∃ y_ : List ByteArray, y_ = (y343 ++ [a1]) := ⟨_, rfl⟩
                    replace H : ((some (l0.drop (x5_1 : Int).toNat : List ByteArray)).bind fun y349 => (if y346.length + y349.length < 8796093022208 then (some (y346 ++ y349)) else (none))) = some r := by first | (rw [hy346]; with_reducible exact H) | (have H2_ := (Option.bind_some _ _).symm.trans H; rw [hy346]; with_reducible exact H2_) | (have H2_ := (Option.bind_some _ _).symm.trans H; with_reducible exact H2_) | with_reducible exact H | (rw [hy346]; exact H) | exact H
                    have Ny346 := Aside0.mk hy346
                    clear hy346
                    have c13b0 := eq_true (of_decide_eq_true (by first | (with_reducible assumption) | assumption) : 0 ≤ x5_1)
                    have c14b0 := eq_true (of_decide_eq_true (by first | (with_reducible assumption) | assumption) : x5_1 ≤ (l0.length : Int))
                    obtain ⟨y349, hy349⟩ : ∃ y_ : List ByteArray, y_ = (l0.drop (x5_1 : Int).toNat) := ⟨_, rfl⟩
                    replace H : (if y346.length + y349.length < 8796093022208 then (some (y346 ++ y349)) else (none)) = some r := by first | (rw [hy349]; with_reducible exact H) | (have H2_ := (Option.bind_some _ _).symm.trans H; rw [hy349]; with_reducible exact H2_) | (have H2_ := (Option.bind_some _ _).symm.trans H; with_reducible exact H2_) | with_reducible exact H | (rw [hy349]; exact H) | exact H
                    have Ny349 := Aside0.mk hy349
                    clear hy349
                    by_cases c15 : y346.length + y349.length < 8796093022208
                    · rw [if_pos c15] at H
                      have LMc15 := Aside0.mk c15
                      clear c15
                      obtain ⟨y353, hy353⟩ : ∃ y_ : List ByteArray, y_ = (y346 ++ y349) := ⟨_, rfl⟩
                      replace H : (some y353) = some r := by first | (rw [hy353]; with_reducible exact H) | (have H2_ := (Option.bind_some _ _).symm.trans H; rw [hy353]; with_reducible exact H2_) | (have H2_ := (Option.bind_some _ _).symm.trans H; with_reducible exact H2_) | with_reducible exact H | (rw [hy353]; exact H) | exact H
                      have Ny353 := Aside0.mk hy353
                      clear hy353
                      obtain rfl := Option.some.inj H
                      obtain ⟨Ao16, co16, eo16⟩ := Kd.R_slice HO_0.out
                      subst eo16
                      have p337 : 0 ≤ (x5_1 : Int) := of_decide_eq_true (by first | (with_reducible assumption) | assumption)
                      have q337 : x5_1 < (l0.length : Int) := of_decide_eq_true (by first | (with_reducible assumption) | assumption)
                      obtain ⟨ad337, e337, hx337_0⟩ := Kd.at_string (Kd.R_reads' HO_0.out).2.2 x5_1 p337 q337
                      cases e337
                      replace p337 := eq_true p337
                      replace q337 := eq_true q337
                      have p338 : 0 ≤ (x5_1 : Int) := of_decide_eq_true (by first | (with_reducible assumption) | assumption)
                      have q338 : x5_1 < (l0.length : Int) := of_decide_eq_true (by first | (with_reducible assumption) | assumption)
                      obtain ⟨ad338, e338, hx338_0⟩ := Kd.at_string (Kd.R_reads' HO_0.out).2.2 x5_1 p338 q338
                      obtain rfl : ad337 = ad338 := (by injection e338)
                      replace p338 := eq_true p338
                      replace q338 := eq_true q338
                      have q17 : (x5_1 : Int) ≤ ((l0.length : Int) : Int) := of_decide_eq_true (by first | (with_reducible assumption) | assumption)
                      obtain ⟨i017, hi017, _, hsz17, _⟩ := info_parts info9
                      have hroom17 : l0.length ≤ co16 := (Kd.R_reads' HO_0.out).2.1
                      have hC17 : Kd.C Kd.string _ (some ad337) l0.length l0 := (Kd.R_reads' HO_0.out).2.2
                      have hcut17 := cut_to (P := Try.prog) 23 9 .i64 Try.underlying23 hi017 (some ad337) l0.length co16 x5_1 (of_decide_eq_true (by first | (with_reducible assumption) | assumption)) q17 hroom17
                      have hr17 := Kd.C_take (m := (x5_1 : Int).toNat) hC17 (by omega)
                      have hy17 : y339.length = (x5_1 : Int).toNat := (by rw [Ny339.out, List.length_take]; omega)
                      rw [← Ny339.out] at hr17
                      rw [← hy17] at hcut17
                      have HR342 := Aside0.mk hr17
                      have HC342 := Aside0.mk (show y339.length ≤ co16 from by omega)
                      clear hr17 hC17 hroom17 hi017 hsz17
                      have KY17 := Aside0.mk hy17
                      clear hy17
                      have KL17 := Aside0.mk (show (x5_1 : Int).toNat ≤ l0.length from by omega)
                      replace q17 := eq_true q17
                      go_wp2_with (first | ((with_reducible refine gate_builtin (b := .append) (xs := #[.tmp 34, .tmp 37]) rfl ?_); at_builtin; refine Kd.R_append_rows Kd.string (w0 := w0) w0.heap.size rfl (.tmp 34) (.tmp 37) 23 9 (.string ⟨#[]⟩) 16 rfl Try.underlying23 info9 rfl (by decide) (by omega) (.slice none 0 0) ([] : List ByteArray) y339 _ _ _ (fun k_ => (P0_ k_ ∨ w.heap.size ≤ k_) ∧ some k_ ≠ (.slice (some ad337) l0.length co16 : Value).ownBlock) (fun _ => False) rfl rfl ?aO ?aR (fun _ _ h => h) (fun _ h => h.elim) ?aF ?aB ?aS ?aL ?_; (case aR => repeat (first | exact (by repeat (first | (with_reducible exact HR342.out) | (with_reducible refine Kd.C_alloc ?_ _) | (with_reducible refine Kd.C_drewN ?_ _) | (with_reducible refine Kd.C_drew ?_) | exact HR342.out)) | (with_reducible refine Kd.C_alloc ?_ _) | (with_reducible refine Kd.C_drewN ?_ _) | (with_reducible refine Kd.C_drew ?_))); (case aB => exact (by repeat (first | (with_reducible first | exact HB.out | apply below_alloc | apply pw_below_drewN | apply below_drew1) | exact HB.out))); (case aF => exact (fun k_ hk => ⟨(.inr (Nat.le_trans (by first | exact HK.out.1 | exact (show Kept w _ (fun k_ => P0_ k_) from by repeat (first | (with_reducible first | exact HK.out | apply Kept.alloc | apply Kept.drewN | apply Kept.drew) | exact HK.out)).1) hk)), Kd.fresh' (Kd.R_lt (by (with_reducible repeat (first | apply Kd.R_alloc | apply Kd.R_drewN | apply Kd.R_drew)); exact HO_0.out)) k_ hk⟩)); (case aO => exact ((Kd.R_nil _ _ _ _ (fun k_ => (P0_ k_ ∨ w.heap.size ≤ k_) ∧ some k_ ≠ (.slice (some ad337) l0.length co16 : Value).ownBlock)))); (case aS => exact (below_size (by repeat (first | (with_reducible first | exact HB.out | apply below_alloc | apply pw_below_drewN | apply below_drew1) | exact HB.out)))); (case aL => have := LMc11.out; omega); intro v344 w18 ho hb hg hat; rw [← Ny343.out] at ho; have n0_ := Aside0.mk (Kd.R_after (Kd.R_apart_nil (by (with_reducible repeat (first | apply Kd.R_alloc | apply Kd.R_drewN | apply Kd.R_drew)); exact HO_0.out)) hg hat); have n1_ := Aside0.mk (hb); have n2_ := Aside0.mk (Kept.of_grown (S := (fun k_ => P0_ k_)) hg (by repeat (first | (with_reducible first | exact HK.out | apply Kept.alloc | apply Kept.drewN | apply Kept.drew) | exact HK.out)) (fun k_ e_ => by simp [Value.ownBlock] at e_)); have n3_ := Aside0.mk ((show Kd.C Kd.string w18 (some ad337) y339.length y339 from by rw [Ny339.out]; exact Kd.C_take (m := (x5_1 : Int).toNat) ((Kd.R_reads' (Kd.R_after (Kd.R_apart_nil (by (with_reducible repeat (first | apply Kd.R_alloc | apply Kd.R_drewN | apply Kd.R_drew)); exact HO_0.out)) hg hat)).2.2) KL17.out)); have n4_ := Aside0.mk (ho); clear HO_0; clear HB; clear HK; clear HR342; have HO_0 := n0_; have HB := n1_; have HK := n2_; have HR342 := n3_; have HO345 := n4_; clear n0_ n1_ n2_ n3_ n4_; clear ho hb hg hat) | ((with_reducible refine gate_builtin (b := .append) (xs := #[.tmp 39, .tmp 41]) rfl ?_); at_builtin; refine Kd.R_append Kd.string (w0 := w0) w0.heap.size rfl (.tmp 39) (.tmp 41) 23 9 (.string ⟨#[]⟩) 16 rfl Try.underlying23 info9 rfl (by decide) (by omega) v344 y343 a1 [.string a1] (fun k_ => (P0_ k_ ∨ w.heap.size ≤ k_) ∧ some k_ ≠ (.slice (some ad337) l0.length co16 : Value).ownBlock) (fun _ => False) rfl rfl ?aP (fun _ hk => hk.elim) ?aF ?aO ?aB ?aS ?aL ?_; (case aP => exact rfl); (case aB => exact (by repeat (first | (with_reducible first | exact HB.out | apply below_alloc | apply pw_below_drewN | apply below_drew1) | exact HB.out))); (case aF => exact (fun k_ hk => ⟨(.inr (Nat.le_trans (by first | exact HK.out.1 | exact (show Kept w _ (fun k_ => P0_ k_) from by repeat (first | (with_reducible first | exact HK.out | apply Kept.alloc | apply Kept.drewN | apply Kept.drew) | exact HK.out)).1) hk)), Kd.fresh' (Kd.R_lt (by (with_reducible repeat (first | apply Kd.R_alloc | apply Kd.R_drewN | apply Kd.R_drew)); exact HO_0.out)) k_ hk⟩)); (case aO => exact (by (with_reducible repeat (first | apply Kd.R_alloc | apply Kd.R_drewN | apply Kd.R_drew)); exact HO345.out)); (case aS => exact (below_size (by repeat (first | (with_reducible first | exact HB.out | apply below_alloc | apply pw_below_drewN | apply below_drew1) | exact HB.out)))); (case aL => have := LMc12.out; omega); intro v347 w19 ho hb hg hat; rw [← Ny346.out] at ho; have n0_ := Aside0.mk (Kd.R_after (ok := (fun k_ => (P0_ k_ ∨ w.heap.size ≤ k_))) (by (with_reducible repeat (first | apply Kd.R_alloc | apply Kd.R_drewN | apply Kd.R_drew)); exact HO_0.out) hg hat); have n1_ := Aside0.mk (hb); have n2_ := Aside0.mk (Kept.of_grown (S := (fun k_ => P0_ k_)) hg (by repeat (first | (with_reducible first | exact HK.out | apply Kept.alloc | apply Kept.drewN | apply Kept.drew) | exact HK.out)) (fun k_ e_ => (HO345.out.1 k_ e_).1)); have n3_ := Aside0.mk ((show Kd.C Kd.string w19 (some ad337) y339.length y339 from by rw [Ny339.out]; exact Kd.C_take (m := (x5_1 : Int).toNat) ((Kd.R_reads' (Kd.R_after (ok := (fun k_ => (P0_ k_ ∨ w.heap.size ≤ k_))) (by (with_reducible repeat (first | apply Kd.R_alloc | apply Kd.R_drewN | apply Kd.R_drew)); exact HO_0.out) hg hat)).2.2) KL17.out)); have n4_ := Aside0.mk (ho); clear HO_0; clear HB; clear HK; clear HR342; clear HO345; have HO_0 := n0_; have HB := n1_; have HK := n2_; have HR342 := n3_; have HO348 := n4_; clear n0_ n1_ n2_ n3_ n4_; clear ho hb hg hat; have q20 : (x5_1 : Int) ≤ ((l0.length : Int) : Int) := of_decide_eq_true (by first | (with_reducible assumption) | assumption); obtain ⟨i020, hi020, _, hsz20, _⟩ := info_parts info9; have hroom20 : l0.length ≤ co16 := (Kd.R_reads' HO_0.out).2.1; have hC20 : Kd.C Kd.string _ (some ad337) l0.length l0 := (Kd.R_reads' HO_0.out).2.2; have q020 : (0 : Int) ≤ (x5_1 : Int) := of_decide_eq_true (by first | (with_reducible assumption) | assumption); have hcut20 := cut_from (P := Try.prog) 23 9 .i64 Try.underlying23 hi020 1 hsz20 (some ad337) l0.length co16 x5_1 q020 q20; have hr20 := Kd.C_drop (m := (x5_1 : Int).toNat) (c := co16) hC20 (by omega) hroom20; obtain ⟨A20, hA20⟩ : ∃ A1, A1 = (if co16 = (x5_1 : Int).toNat then (some ad337) else ((some ad337) : Option Addr).map (·.add ((x5_1 : Int).toNat * 1))) := ⟨_, rfl⟩; obtain ⟨c20, hc20⟩ : ∃ c1, c1 = co16 - (x5_1 : Int).toNat := ⟨_, rfl⟩; have hy20 : y349.length = l0.length - (x5_1 : Int).toNat := (by rw [Ny349.out, List.length_drop] <;> omega); rw [show (l0).drop (x5_1 : Int).toNat = y349 from Ny349.out.symm] at hr20; replace hr20 : Kd.C Kd.string _ A20 y349.length y349 := (by rw [hA20]; exact hr20); rw [← hy20, ← hA20, ← hc20] at hcut20; have HR352 := Aside0.mk hr20; have HC352 := Aside0.mk (show y349.length ≤ c20 from by rw [hy20, hc20]; exact Nat.sub_le_sub_right hroom20 _); clear hr20 hC20 hroom20 hi020 hsz20 hc20; have KY20 := Aside0.mk hy20; have KA20 := Aside0.mk hA20; clear hy20 hA20; have KL20 := Aside0.mk (show (x5_1 : Int).toNat ≤ l0.length from by omega); replace q20 := eq_true q20) | ((with_reducible refine gate_builtin (b := .append) (xs := #[.tmp 43, .tmp 46]) rfl ?_); at_builtin; refine Kd.R_append_rows Kd.string (w0 := w0) w0.heap.size rfl (.tmp 43) (.tmp 46) 23 9 (.string ⟨#[]⟩) 16 rfl Try.underlying23 info9 rfl (by decide) (by omega) v347 y346 y349 _ _ _ (fun k_ => (P0_ k_ ∨ w.heap.size ≤ k_) ∧ some k_ ≠ (.slice (some ad337) l0.length co16 : Value).ownBlock) (fun _ => False) rfl rfl ?aO ?aR (fun _ _ h => h) (fun _ h => h.elim) ?aF ?aB ?aS ?aL ?_; (case aR => repeat (first | exact (by repeat (first | (with_reducible exact HR352.out) | (with_reducible refine Kd.C_alloc ?_ _) | (with_reducible refine Kd.C_drewN ?_ _) | (with_reducible refine Kd.C_drew ?_) | exact HR352.out)) | (with_reducible refine Kd.C_alloc ?_ _) | (with_reducible refine Kd.C_drewN ?_ _) | (with_reducible refine Kd.C_drew ?_))); (case aB => exact (by repeat (first | (with_reducible first | exact HB.out | apply below_alloc | apply pw_below_drewN | apply below_drew1) | exact HB.out))); (case aF => exact (fun k_ hk => ⟨(.inr (Nat.le_trans (by first | exact HK.out.1 | exact (show Kept w _ (fun k_ => P0_ k_) from by repeat (first | (with_reducible first | exact HK.out | apply Kept.alloc | apply Kept.drewN | apply Kept.drew) | exact HK.out)).1) hk)), Kd.fresh' (Kd.R_lt (by (with_reducible repeat (first | apply Kd.R_alloc | apply Kd.R_drewN | apply Kd.R_drew)); exact HO_0.out)) k_ hk⟩)); (case aO => exact (by (with_reducible repeat (first | apply Kd.R_alloc | apply Kd.R_drewN | apply Kd.R_drew)); exact HO348.out)); (case aS => exact (below_size (by repeat (first | (with_reducible first | exact HB.out | apply below_alloc | apply pw_below_drewN | apply below_drew1) | exact HB.out)))); (case aL => have := LMc15.out; omega); intro v354 w21 ho hb hg hat; rw [← Ny353.out] at ho; have n0_ := Aside0.mk (Kd.R_after (ok := (fun k_ => (P0_ k_ ∨ w.heap.size ≤ k_))) (by (with_reducible repeat (first | apply Kd.R_alloc | apply Kd.R_drewN | apply Kd.R_drew)); exact HO_0.out) hg hat); have n1_ := Aside0.mk (hb); have n2_ := Aside0.mk (Kept.of_grown (S := (fun k_ => P0_ k_)) hg (by repeat (first | (with_reducible first | exact HK.out | apply Kept.alloc | apply Kept.drewN | apply Kept.drew) | exact HK.out)) (fun k_ e_ => (HO348.out.1 k_ e_).1)); have n3_ := Aside0.mk ((show Kd.C Kd.string w21 (some ad337) y339.length y339 from by rw [Ny339.out]; exact Kd.C_take (m := (x5_1 : Int).toNat) ((Kd.R_reads' (Kd.R_after (ok := (fun k_ => (P0_ k_ ∨ w.heap.size ≤ k_))) (by (with_reducible repeat (first | apply Kd.R_alloc | apply Kd.R_drewN | apply Kd.R_drew)); exact HO_0.out) hg hat)).2.2) KL17.out)); have n4_ := Aside0.mk ((show Kd.C Kd.string w21 A20 y349.length y349 from by rw [Ny349.out, KA20.out]; exact Kd.C_drop (m := (x5_1 : Int).toNat) (c := co16) ((Kd.R_reads' (Kd.R_after (ok := (fun k_ => (P0_ k_ ∨ w.heap.size ≤ k_))) (by (with_reducible repeat (first | apply Kd.R_alloc | apply Kd.R_drewN | apply Kd.R_drew)); exact HO_0.out) hg hat)).2.2) KL20.out ((Kd.R_reads' (Kd.R_after (ok := (fun k_ => (P0_ k_ ∨ w.heap.size ≤ k_))) (by (with_reducible repeat (first | apply Kd.R_alloc | apply Kd.R_drewN | apply Kd.R_drew)); exact HO_0.out) hg hat)).2.1))); have n5_ := Aside0.mk (ho); clear HO_0; clear HB; clear HK; clear HR342; clear HR352; clear HO348; have HO_0 := n0_; have HB := n1_; have HK := n2_; have HR342 := n3_; have HR352 := n4_; have HO355 := n5_; clear n0_ n1_ n2_ n3_ n4_ n5_; clear ho hb hg hat))
                      go_ret
                      exact ⟨_, by first | rfl | (simp [errW_none, errW_some] <;> rfl) | (simp [*, errW_none, errW_some] <;> rfl), by (with_reducible repeat (first | apply Kd.R_alloc | apply Kd.R_drewN | apply Kd.R_drew)); exact Kd.R_mono HO355.out (fun _ hk => hk.1), by repeat (first | (with_reducible first | exact HB.out | apply below_alloc | apply pw_below_drewN | apply below_drew1) | exact HB.out), by repeat (first | (with_reducible first | exact HK.out | apply Kept.alloc | apply Kept.drewN | apply Kept.drew) | exact HK.out)⟩
                    · rw [if_neg c15] at H
                      exact absurd H (by simp)
                  · rw [if_neg c12] at H
                    exact absurd H (by simp)
                · rw [if_neg c11] at H
                  exact absurd H (by simp)
              · rw [if_neg c10] at H
                exact absurd H (by simp)
        · rw [if_neg c4] at H
          exact absurd H (by simp)
      · rw [if_neg c3] at H
        have c3b0 : decide (x5_1 < (l0.length : Int)) = false := decide_eq_false c3
        clear c3
        by_cases c22 : 0 ≤ x5_1
        · rw [if_pos c22] at H
          have c22b0 := eq_true c22
          have c22b1 : decide (0 ≤ x5_1) = true := decide_eq_true c22
          clear c22
          by_cases c23 : x5_1 ≤ (l0.length : Int)
          · rw [if_pos c23] at H
            have c23b0 := eq_true c23
            have c23b1 : decide (x5_1 ≤ (l0.length : Int)) = true := decide_eq_true c23
            clear c23
            obtain ⟨y356, hy356⟩ : ∃ y_ : List ByteArray, y_ = (l0.take (x5_1 : Int).toNat) := ⟨_, rfl⟩
            replace H : (if ([] : List ByteArray).length + y356.length < 8796093022208 then ((some (([] : List ByteArray) ++ y356 : List ByteArray)).bind fun y360 => (if y360.length < 8796093022208 then ((some (y360 ++ [a1] : List ByteArray)).bind fun y363 => ((some (l0.drop (x5_1 : Int).toNat : List ByteArray)).bind fun y366 => (if y363.length + y366.length < 8796093022208 then (some (y363 ++ y366)) else (none)))) else (none))) else (none)) = some r := by first | (rw [hy356]; with_reducible exact H) | (have H2_ := (Option.bind_some _ _).symm.trans H; rw [hy356]; with_reducible exact H2_) | (have H2_ := (Option.bind_some _ _).symm.trans H; with_reducible exact H2_) | with_reducible exact H | (rw [hy356]; exact H) | exact H
            have Ny356 := Aside0.mk hy356
            clear hy356
            by_cases c24 : ([] : List ByteArray).length + y356.length < 8796093022208
            · rw [if_pos c24] at H
              have LMc24 := Aside0.mk c24
              clear c24
              obtain ⟨y360, hy360⟩ : ∃ y_ : List ByteArray, y_ = (([] : List ByteArray) ++ y356) := ⟨_, rfl⟩
              replace H : (if y360.length < 8796093022208 then ((some (y360 ++ [a1] : List ByteArray)).bind fun y363 => ((some (l0.drop (x5_1 : Int).toNat : List ByteArray)).bind fun y366 => (if y363.length + y366.length < 8796093022208 then (some (y363 ++ y366)) else (none)))) else (none)) = some r := by first | (rw [hy360]; with_reducible exact H) | (have H2_ := (Option.bind_some _ _).symm.trans H; rw [hy360]; with_reducible exact H2_) | (have H2_ := (Option.bind_some _ _).symm.trans H; with_reducible exact H2_) | with_reducible exact H | (rw [hy360]; exact H) | exact H
              have Ny360 := Aside0.mk hy360
              clear hy360
              by_cases c25 : y360.length < 8796093022208
              · rw [if_pos c25] at H
                have LMc25 := Aside0.mk c25
                clear c25
                obtain ⟨y363, hy363⟩ : ∃ y_ : List ByteArray, y_ = (y360 ++ [a1]) := ⟨_, rfl⟩
                replace H : ((some (l0.drop (x5_1 : Int).toNat : List ByteArray)).bind fun y366 => (if y363.length + y366.length < 8796093022208 then (some (y363 ++ y366)) else (none))) = some r := by first | (rw [hy363]; with_reducible exact H) | (have H2_ := (Option.bind_some _ _).symm.trans H; rw [hy363]; with_reducible exact H2_) | (have H2_ := (Option.bind_some _ _).symm.trans H; with_reducible exact H2_) | with_reducible exact H | (rw [hy363]; exact H) | exact H
                have Ny363 := Aside0.mk hy363
                clear hy363
                have c26b0 := eq_true (of_decide_eq_true (by first | (with_reducible assumption) | assumption) : 0 ≤ x5_1)
                have c27b0 := eq_true (of_decide_eq_true (by first | (with_reducible assumption) | assumption) : x5_1 ≤ (l0.length : Int))
                obtain ⟨y366, hy366⟩ : ∃ y_ : List ByteArray, y_ = (l0.drop (x5_1 : Int).toNat) := ⟨_, rfl⟩
                replace H : (if y363.length + y366.length < 8796093022208 then (some (y363 ++ y366)) else (none)) = some r := by first | (rw [hy366]; with_reducible exact H) | (have H2_ := (Option.bind_some _ _).symm.trans H; rw [hy366]; with_reducible exact H2_) | (have H2_ := (Option.bind_some _ _).symm.trans H; with_reducible exact H2_) | with_reducible exact H | (rw [hy366]; exact H) | exact H
                have Ny366 := Aside0.mk hy366
                clear hy366
                by_cases c28 : y363.length + y366.length < 8796093022208
                · rw [if_pos c28] at H
                  have LMc28 := Aside0.mk c28
                  clear c28
                  obtain ⟨y370, hy370⟩ : ∃ y_ : List ByteArray, y_ = (y363 ++ y366) := ⟨_, rfl⟩
                  replace H : (some y370) = some r := by first | (rw [hy370]; with_reducible exact H) | (have H2_ := (Option.bind_some _ _).symm.trans H; rw [hy370]; with_reducible exact H2_) | (have H2_ := (Option.bind_some _ _).symm.trans H; with_reducible exact H2_) | with_reducible exact H | (rw [hy370]; exact H) | exact H
                  have Ny370 := Aside0.mk hy370
                  clear hy370
                  obtain rfl := Option.some.inj H
                  obtain ⟨Ao29, co29, eo29⟩ := Kd.R_slice HO_0.out
                  subst eo29
                  have q30 : (x5_1 : Int) ≤ ((l0.length : Int) : Int) := of_decide_eq_true (by first | (with_reducible assumption) | assumption)
                  obtain ⟨i030, hi030, _, hsz30, _⟩ := info_parts info9
                  have hroom30 : l0.length ≤ co29 := (Kd.R_reads' HO_0.out).2.1
                  have hC30 : Kd.C Kd.string _ Ao29 l0.length l0 := (Kd.R_reads' HO_0.out).2.2
                  have hcut30 := cut_to (P := Try.prog) 23 9 .i64 Try.underlying23 hi030 Ao29 l0.length co29 x5_1 (of_decide_eq_true (by first | (with_reducible assumption) | assumption)) q30 hroom30
                  have hr30 := Kd.C_take (m := (x5_1 : Int).toNat) hC30 (by omega)
                  have hy30 : y356.length = (x5_1 : Int).toNat := (by rw [Ny356.out, List.length_take]; omega)
                  rw [← Ny356.out] at hr30
                  rw [← hy30] at hcut30
                  have HR359 := Aside0.mk hr30
                  have HC359 := Aside0.mk (show y356.length ≤ co29 from by omega)
                  clear hr30 hC30 hroom30 hi030 hsz30
                  have KY30 := Aside0.mk hy30
                  clear hy30
                  have KL30 := Aside0.mk (show (x5_1 : Int).toNat ≤ l0.length from by omega)
                  replace q30 := eq_true q30
                  go_wp2_with (first | ((with_reducible refine gate_builtin (b := .append) (xs := #[.tmp 34, .tmp 37]) rfl ?_); at_builtin; refine Kd.R_append_rows Kd.string (w0 := w0) w0.heap.size rfl (.tmp 34) (.tmp 37) 23 9 (.string ⟨#[]⟩) 16 rfl Try.underlying23 info9 rfl (by decide) (by omega) (.slice none 0 0) ([] : List ByteArray) y356 _ _ _ (fun k_ => (P0_ k_ ∨ w.heap.size ≤ k_) ∧ some k_ ≠ (.slice Ao29 l0.length co29 : Value).ownBlock) (fun _ => False) rfl rfl ?aO ?aR (fun _ _ h => h) (fun _ h => h.elim) ?aF ?aB ?aS ?aL ?_; (case aR => repeat (first | exact (by repeat (first | (with_reducible exact HR359.out) | (with_reducible refine Kd.C_alloc ?_ _) | (with_reducible refine Kd.C_drewN ?_ _) | (with_reducible refine Kd.C_drew ?_) | exact HR359.out)) | (with_reducible refine Kd.C_alloc ?_ _) | (with_reducible refine Kd.C_drewN ?_ _) | (with_reducible refine Kd.C_drew ?_))); (case aB => exact (by repeat (first | (with_reducible first | exact HB.out | apply below_alloc | apply pw_below_drewN | apply below_drew1) | exact HB.out))); (case aF => exact (fun k_ hk => ⟨(.inr (Nat.le_trans (by first | exact HK.out.1 | exact (show Kept w _ (fun k_ => P0_ k_) from by repeat (first | (with_reducible first | exact HK.out | apply Kept.alloc | apply Kept.drewN | apply Kept.drew) | exact HK.out)).1) hk)), Kd.fresh' (Kd.R_lt (by (with_reducible repeat (first | apply Kd.R_alloc | apply Kd.R_drewN | apply Kd.R_drew)); exact HO_0.out)) k_ hk⟩)); (case aO => exact ((Kd.R_nil _ _ _ _ (fun k_ => (P0_ k_ ∨ w.heap.size ≤ k_) ∧ some k_ ≠ (.slice Ao29 l0.length co29 : Value).ownBlock)))); (case aS => exact (below_size (by repeat (first | (with_reducible first | exact HB.out | apply below_alloc | apply pw_below_drewN | apply below_drew1) | exact HB.out)))); (case aL => have := LMc24.out; omega); intro v361 w31 ho hb hg hat; rw [← Ny360.out] at ho; have n0_ := Aside0.mk (Kd.R_after (Kd.R_apart_nil (by (with_reducible repeat (first | apply Kd.R_alloc | apply Kd.R_drewN | apply Kd.R_drew)); exact HO_0.out)) hg hat); have n1_ := Aside0.mk (hb); have n2_ := Aside0.mk (Kept.of_grown (S := (fun k_ => P0_ k_)) hg (by repeat (first | (with_reducible first | exact HK.out | apply Kept.alloc | apply Kept.drewN | apply Kept.drew) | exact HK.out)) (fun k_ e_ => by simp [Value.ownBlock] at e_)); have n3_ := Aside0.mk ((show Kd.C Kd.string w31 Ao29 y356.length y356 from by rw [Ny356.out]; exact Kd.C_take (m := (x5_1 : Int).toNat) ((Kd.R_reads' (Kd.R_after (Kd.R_apart_nil (by (with_reducible repeat (first | apply Kd.R_alloc | apply Kd.R_drewN | apply Kd.R_drew)); exact HO_0.out)) hg hat)).2.2) KL30.out)); have n4_ := Aside0.mk (ho); clear HO_0; clear HB; clear HK; clear HR359; have HO_0 := n0_; have HB := n1_; have HK := n2_; have HR359 := n3_; have HO362 := n4_; clear n0_ n1_ n2_ n3_ n4_; clear ho hb hg hat) | ((with_reducible refine gate_builtin (b := .append) (xs := #[.tmp 39, .tmp 41]) rfl ?_); at_builtin; refine Kd.R_append Kd.string (w0 := w0) w0.heap.size rfl (.tmp 39) (.tmp 41) 23 9 (.string ⟨#[]⟩) 16 rfl Try.underlying23 info9 rfl (by decide) (by omega) v361 y360 a1 [.string a1] (fun k_ => (P0_ k_ ∨ w.heap.size ≤ k_) ∧ some k_ ≠ (.slice Ao29 l0.length co29 : Value).ownBlock) (fun _ => False) rfl rfl ?aP (fun _ hk => hk.elim) ?aF ?aO ?aB ?aS ?aL ?_; (case aP => exact rfl); (case aB => exact (by repeat (first | (with_reducible first | exact HB.out | apply below_alloc | apply pw_below_drewN | apply below_drew1) | exact HB.out))); (case aF => exact (fun k_ hk => ⟨(.inr (Nat.le_trans (by first | exact HK.out.1 | exact (show Kept w _ (fun k_ => P0_ k_) from by repeat (first | (with_reducible first | exact HK.out | apply Kept.alloc | apply Kept.drewN | apply Kept.drew) | exact HK.out)).1) hk)), Kd.fresh' (Kd.R_lt (by (with_reducible repeat (first | apply Kd.R_alloc | apply Kd.R_drewN | apply Kd.R_drew)); exact HO_0.out)) k_ hk⟩)); (case aO => exact (by (with_reducible repeat (first | apply Kd.R_alloc | apply Kd.R_drewN | apply Kd.R_drew)); exact HO362.out)); (case aS => exact (below_size (by repeat (first | (with_reducible first | exact HB.out | apply below_alloc | apply pw_below_drewN | apply below_drew1) | exact HB.out)))); (case aL => have := LMc25.out; omega); intro v364 w32 ho hb hg hat; rw [← Ny363.out] at ho; have n0_ := Aside0.mk (Kd.R_after (ok := (fun k_ => (P0_ k_ ∨ w.heap.size ≤ k_))) (by (with_reducible repeat (first | apply Kd.R_alloc | apply Kd.R_drewN | apply Kd.R_drew)); exact HO_0.out) hg hat); have n1_ := Aside0.mk (hb); have n2_ := Aside0.mk (Kept.of_grown (S := (fun k_ => P0_ k_)) hg (by repeat (first | (with_reducible first | exact HK.out | apply Kept.alloc | apply Kept.drewN | apply Kept.drew) | exact HK.out)) (fun k_ e_ => (HO362.out.1 k_ e_).1)); have n3_ := Aside0.mk ((show Kd.C Kd.string w32 Ao29 y356.length y356 from by rw [Ny356.out]; exact Kd.C_take (m := (x5_1 : Int).toNat) ((Kd.R_reads' (Kd.R_after (ok := (fun k_ => (P0_ k_ ∨ w.heap.size ≤ k_))) (by (with_reducible repeat (first | apply Kd.R_alloc | apply Kd.R_drewN | apply Kd.R_drew)); exact HO_0.out) hg hat)).2.2) KL30.out)); have n4_ := Aside0.mk (ho); clear HO_0; clear HB; clear HK; clear HR359; clear HO362; have HO_0 := n0_; have HB := n1_; have HK := n2_; have HR359 := n3_; have HO365 := n4_; clear n0_ n1_ n2_ n3_ n4_; clear ho hb hg hat; have q33 : (x5_1 : Int) ≤ ((l0.length : Int) : Int) := of_decide_eq_true (by first | (with_reducible assumption) | assumption); obtain ⟨i033, hi033, _, hsz33, _⟩ := info_parts info9; have hroom33 : l0.length ≤ co29 := (Kd.R_reads' HO_0.out).2.1; have hC33 : Kd.C Kd.string _ Ao29 l0.length l0 := (Kd.R_reads' HO_0.out).2.2; have q033 : (0 : Int) ≤ (x5_1 : Int) := of_decide_eq_true (by first | (with_reducible assumption) | assumption); have hcut33 := cut_from (P := Try.prog) 23 9 .i64 Try.underlying23 hi033 1 hsz33 Ao29 l0.length co29 x5_1 q033 q33; have hr33 := Kd.C_drop (m := (x5_1 : Int).toNat) (c := co29) hC33 (by omega) hroom33; obtain ⟨A33, hA33⟩ : ∃ A1, A1 = (if co29 = (x5_1 : Int).toNat then Ao29 else (Ao29 : Option Addr).map (·.add ((x5_1 : Int).toNat * 1))) := ⟨_, rfl⟩; obtain ⟨c33, hc33⟩ : ∃ c1, c1 = co29 - (x5_1 : Int).toNat := ⟨_, rfl⟩; have hy33 : y366.length = l0.length - (x5_1 : Int).toNat := (by rw [Ny366.out, List.length_drop] <;> omega); rw [show (l0).drop (x5_1 : Int).toNat = y366 from Ny366.out.symm] at hr33; replace hr33 : Kd.C Kd.string _ A33 y366.length y366 := (by rw [hA33]; exact hr33); rw [← hy33, ← hA33, ← hc33] at hcut33; have HR369 := Aside0.mk hr33; have HC369 := Aside0.mk (show y366.length ≤ c33 from by rw [hy33, hc33]; exact Nat.sub_le_sub_right hroom33 _); clear hr33 hC33 hroom33 hi033 hsz33 hc33; have KY33 := Aside0.mk hy33; have KA33 := Aside0.mk hA33; clear hy33 hA33; have KL33 := Aside0.mk (show (x5_1 : Int).toNat ≤ l0.length from by omega); replace q33 := eq_true q33) | ((with_reducible refine gate_builtin (b := .append) (xs := #[.tmp 43, .tmp 46]) rfl ?_); at_builtin; refine Kd.R_append_rows Kd.string (w0 := w0) w0.heap.size rfl (.tmp 43) (.tmp 46) 23 9 (.string ⟨#[]⟩) 16 rfl Try.underlying23 info9 rfl (by decide) (by omega) v364 y363 y366 _ _ _ (fun k_ => (P0_ k_ ∨ w.heap.size ≤ k_) ∧ some k_ ≠ (.slice Ao29 l0.length co29 : Value).ownBlock) (fun _ => False) rfl rfl ?aO ?aR (fun _ _ h => h) (fun _ h => h.elim) ?aF ?aB ?aS ?aL ?_; (case aR => repeat (first | exact (by repeat (first | (with_reducible exact HR369.out) | (with_reducible refine Kd.C_alloc ?_ _) | (with_reducible refine Kd.C_drewN ?_ _) | (with_reducible refine Kd.C_drew ?_) | exact HR369.out)) | (with_reducible refine Kd.C_alloc ?_ _) | (with_reducible refine Kd.C_drewN ?_ _) | (with_reducible refine Kd.C_drew ?_))); (case aB => exact (by repeat (first | (with_reducible first | exact HB.out | apply below_alloc | apply pw_below_drewN | apply below_drew1) | exact HB.out))); (case aF => exact (fun k_ hk => ⟨(.inr (Nat.le_trans (by first | exact HK.out.1 | exact (show Kept w _ (fun k_ => P0_ k_) from by repeat (first | (with_reducible first | exact HK.out | apply Kept.alloc | apply Kept.drewN | apply Kept.drew) | exact HK.out)).1) hk)), Kd.fresh' (Kd.R_lt (by (with_reducible repeat (first | apply Kd.R_alloc | apply Kd.R_drewN | apply Kd.R_drew)); exact HO_0.out)) k_ hk⟩)); (case aO => exact (by (with_reducible repeat (first | apply Kd.R_alloc | apply Kd.R_drewN | apply Kd.R_drew)); exact HO365.out)); (case aS => exact (below_size (by repeat (first | (with_reducible first | exact HB.out | apply below_alloc | apply pw_below_drewN | apply below_drew1) | exact HB.out)))); (case aL => have := LMc28.out; omega); intro v371 w34 ho hb hg hat; rw [← Ny370.out] at ho; have n0_ := Aside0.mk (Kd.R_after (ok := (fun k_ => (P0_ k_ ∨ w.heap.size ≤ k_))) (by (with_reducible repeat (first | apply Kd.R_alloc | apply Kd.R_drewN | apply Kd.R_drew)); exact HO_0.out) hg hat); have n1_ := Aside0.mk (hb); have n2_ := Aside0.mk (Kept.of_grown (S := (fun k_ => P0_ k_)) hg (by repeat (first | (with_reducible first | exact HK.out | apply Kept.alloc | apply Kept.drewN | apply Kept.drew) | exact HK.out)) (fun k_ e_ => (HO365.out.1 k_ e_).1)); have n3_ := Aside0.mk ((show Kd.C Kd.string w34 Ao29 y356.length y356 from by rw [Ny356.out]; exact Kd.C_take (m := (x5_1 : Int).toNat) ((Kd.R_reads' (Kd.R_after (ok := (fun k_ => (P0_ k_ ∨ w.heap.size ≤ k_))) (by (with_reducible repeat (first | apply Kd.R_alloc | apply Kd.R_drewN | apply Kd.R_drew)); exact HO_0.out) hg hat)).2.2) KL30.out)); have n4_ := Aside0.mk ((show Kd.C Kd.string w34 A33 y366.length y366 from by rw [Ny366.out, KA33.out]; exact Kd.C_drop (m := (x5_1 : Int).toNat) (c := co29) ((Kd.R_reads' (Kd.R_after (ok := (fun k_ => (P0_ k_ ∨ w.heap.size ≤ k_))) (by (with_reducible repeat (first | apply Kd.R_alloc | apply Kd.R_drewN | apply Kd.R_drew)); exact HO_0.out) hg hat)).2.2) KL33.out ((Kd.R_reads' (Kd.R_after (ok := (fun k_ => (P0_ k_ ∨ w.heap.size ≤ k_))) (by (with_reducible repeat (first | apply Kd.R_alloc | apply Kd.R_drewN | apply Kd.R_drew)); exact HO_0.out) hg hat)).2.1))); have n5_ := Aside0.mk (ho); clear HO_0; clear HB; clear HK; clear HR359; clear HR369; clear HO365; have HO_0 := n0_; have HB := n1_; have HK := n2_; have HR359 := n3_; have HR369 := n4_; have HO372 := n5_; clear n0_ n1_ n2_ n3_ n4_ n5_; clear ho hb hg hat))
                  go_ret
                  exact ⟨_, by first | rfl | (simp [errW_none, errW_some] <;> rfl) | (simp [*, errW_none, errW_some] <;> rfl), by (with_reducible repeat (first | apply Kd.R_alloc | apply Kd.R_drewN | apply Kd.R_drew)); exact Kd.R_mono HO372.out (fun _ hk => hk.1), by repeat (first | (with_reducible first | exact HB.out | apply below_alloc | apply pw_below_drewN | apply below_drew1) | exact HB.out), by repeat (first | (with_reducible first | exact HK.out | apply Kept.alloc | apply Kept.drewN | apply Kept.drew) | exact HK.out)⟩
                · rw [if_neg c28] at H
                  exact absurd H (by simp)
              · rw [if_neg c25] at H
                exact absurd H (by simp)
            · rw [if_neg c24] at H
              exact absurd H (by simp)
          · rw [if_neg c23] at H
            exact absurd H (by simp)
        · rw [if_neg c22] at H
          exact absurd H (by simp)

end Go.Proofs.Ytoiedcnhojkpiaa.Q
-- Made by wip/qprint.sh (a patched copy of the kit's print program) out of the translation. Lean checks it.
namespace Go.Proofs.Ytoiedcnhojkpiaa.Q
open Go.RowKit Go.Proofs.YtoiedcnhojkpiaaW.PrintWords Go.Proofs.YtoiedcnhojkpiaaW.PrintLast Go.Proofs.YtoiedcnhojkpiaaW.PrintMore
attribute [local go_sem] max2_int min2_int max_two min_two max_three min_three max_four min_four   -- for this text's walks alone
set_option linter.unusedVariables false
set_option linter.unusedSimpArgs false

/-! ### garretref29_within: function 45 -/
def garretref29_within.l0 : Nat → ByteArray → List ByteArray → Int → Option (Bool)
  | 0, _, _, _ => none
  | k + 1, x0, x1, x5 => if x5 < (x1.length : Int) then (if 0 ≤ x5 then (if (rdOf ByteArray.empty x1 x5).toList = x0.toList then (some true) else (garretref29_within.l0 k x0 x1 (wrap64 (x5 + 1)))) else (none)) else (some false)
def garretref29_within.f (k : Nat) (a0 : ByteArray) (l1 : List ByteArray) : Option (Bool) := garretref29_within.l0 k a0 l1 0
theorem garretref29_within.mono_l : ∀ k, (∀ y0 y1 y2, LeO (garretref29_within.l0 k y0 y1 y2) (garretref29_within.l0 (k + 1) y0 y1 y2))
  | 0 => fun _ _ _ r h => by simp [garretref29_within.l0] at h
  | k + 1 => by
    have ih0 := garretref29_within.mono_l k
    · intro y0 y1 y2
      unfold garretref29_within.l0
      repeat' first
      | (with_reducible exact ih0 _ _ _)
      | (with_reducible exact LeO.refl _)
      | (with_reducible exact LeO.none _)
      | (with_reducible refine LeO.ite ?_ ?_)
      | (with_reducible refine LeO.bind ?_ (fun _ => ?_))
      | exact ih0 _ _ _
      | exact LeO.none _
      | refine LeO.ite ?_ ?_
      | refine LeO.bind ?_ (fun _ => ?_)
theorem garretref29_within.mono : ∀ a0 a1 k, LeO (garretref29_within.f k a0 a1) (garretref29_within.f (k + 1) a0 a1) := by
  intro a0 a1 k
  have ih0 := garretref29_within.mono_l k
  unfold garretref29_within.f
  repeat' first
      | (with_reducible exact ih0 _ _ _)
      | (with_reducible exact LeO.refl _)
      | (with_reducible exact LeO.none _)
      | (with_reducible refine LeO.ite ?_ ?_)
      | (with_reducible refine LeO.bind ?_ (fun _ => ?_))
      | exact ih0 _ _ _
      | exact LeO.none _
      | refine LeO.ite ?_ ?_
      | refine LeO.bind ?_ (fun _ => ?_)
set_option maxHeartbeats 8000000 in
set_option maxRecDepth 100000 in
theorem garretref29_within.calls (k : Nat) (a0 : ByteArray) (A1 : Option Addr) (c1 : Nat) (l1 : List ByteArray) (r : Bool) (w : World) (hr1 : Kd.C Kd.string w A1 l1.length l1) (hc1 : l1.length ≤ c1) (h : garretref29_within.f k a0 l1 = some r) :
    Calls Try.prog 45 #[.string a0, .slice A1 l1.length c1] w fun e w' => e = .returned (.bool r) ∧ Drawn0 w w' := by
  have HR1 := Aside0.mk hr1
  have HC1 := Aside0.mk hc1
  clear hr1 hc1
  have H : (garretref29_within.l0 k a0 l1 0) = some r := h
  clear h
  have H' := Aside0.mk H
  clear H
  go_enter Try.func45, Try.ntmps45
  go_wp2
  go_loopg [5] k (fun kq v5 w' => ∃ (x5_1 : Int), v5 = .int .i64 x5_1 ∧ Aside0 (garretref29_within.l0 kq a0 l1 x5_1 = some r) ∧ Aside0 (kq ≤ k) ∧ Drawn0 w w')
  case atStart => exact ⟨(0), (by first | rfl | (simp; done) | (simp [*]; done)), H', ⟨Nat.le_refl _⟩, by repeat (first | exact Drawn0.refl _ | apply Drawn0.step)⟩
  case round =>
    clear H'
    try clear c1
    try clear p2
    obtain ⟨x5_1, rfl, HA, HK1, ⟨m1, rfl⟩⟩ := hrel
    cases gk with
    | zero => exact absurd HA.out (by simp [garretref29_within.l0])
    | succ k1 =>
      have H := HA.out
      clear HA
      simp only [garretref29_within.l0] at H
      by_cases c3 : x5_1 < (l1.length : Int)
      · rw [if_pos c3] at H
        have c3b0 : decide (x5_1 < (l1.length : Int)) = true := decide_eq_true c3
        clear c3
        by_cases c4 : 0 ≤ x5_1
        · rw [if_pos c4] at H
          have c4b0 : decide (0 ≤ x5_1) = true := decide_eq_true c4
          clear c4
          by_cases c5 : (rdOf ByteArray.empty l1 x5_1).toList = a0.toList
          · rw [if_pos c5] at H
            have c5b0 : ((rdOf ByteArray.empty l1 x5_1).toList == a0.toList) = true := beq_iff_eq.mpr c5
            have c5b1 : ((rdOf ByteArray.empty l1 x5_1).toList != a0.toList) = false := bne_eq_false_iff_eq.mpr c5
            clear c5
            obtain rfl := Option.some.inj H
            have p379 : 0 ≤ (x5_1 : Int) := of_decide_eq_true (by first | (with_reducible assumption) | assumption)
            have q379 : x5_1 < (l1.length : Int) := of_decide_eq_true (by first | (with_reducible assumption) | assumption)
            obtain ⟨ad379, e379, hx379_0⟩ := Kd.at_string HR1.out x5_1 p379 q379
            cases e379
            replace p379 := eq_true p379
            replace q379 := eq_true q379
            go_wp2
            go_ret
            exact ⟨by first | rfl | (simp; done) | (simp [*]; done), by repeat (first | exact Drawn0.refl _ | apply Drawn0.step)⟩
          · rw [if_neg c5] at H
            have c5b0 : ((rdOf ByteArray.empty l1 x5_1).toList == a0.toList) = false := beq_eq_false_iff_ne.mpr c5
            have c5b1 : ((rdOf ByteArray.empty l1 x5_1).toList != a0.toList) = true := bne_iff_ne.mpr c5
            have H' := Aside0.mk H
            clear H
            have p379 : 0 ≤ (x5_1 : Int) := of_decide_eq_true (by first | (with_reducible assumption) | assumption)
            have q379 : x5_1 < (l1.length : Int) := of_decide_eq_true (by first | (with_reducible assumption) | assumption)
            obtain ⟨ad379, e379, hx379_0⟩ := Kd.at_string HR1.out x5_1 p379 q379
            cases e379
            replace p379 := eq_true p379
            replace q379 := eq_true q379
            go_wp2
            go_roundg k1
            case measure => have := HK1.out; omega
            case rel => exact ⟨(wrap64 (x5_1 + 1)), (by first | rfl | (simp; done) | (simp [*]; done)), H', ⟨by have := HK1.out; omega⟩, by repeat (first | exact Drawn0.refl _ | apply Drawn0.step)⟩
        · rw [if_neg c4] at H
          exact absurd H (by simp)
      · rw [if_neg c3] at H
        have c3b0 : decide (x5_1 < (l1.length : Int)) = false := decide_eq_false c3
        clear c3
        obtain rfl := Option.some.inj H
        go_wp2
        go_ret
        exact ⟨by first | rfl | (simp; done) | (simp [*]; done), by repeat (first | exact Drawn0.refl _ | apply Drawn0.step)⟩

end Go.Proofs.Ytoiedcnhojkpiaa.Q
/- The reference's within and rising: what they are. -/
namespace Go.Proofs.Ytoiedcnhojkpiaa.Q
open Go.RowKit Go.Maps Go.Proofs.YtoiedcnhojkpiaaW.PrintWords Go.Proofs.YtoiedcnhojkpiaaW.PrintLast Go.Proofs.YtoiedcnhojkpiaaW.PrintMore
theorem rd9_get {l : List ByteArray} {i : Nat} (h : i < l.length) : rdOf ByteArray.empty l (i : Int) = l[i] := by unfold rdOf; simp [List.getD_eq_getElem?_getD, List.getElem?_eq_getElem h]
theorem wrap64_nat {i : Nat} (h : i < 100000) : wrap64 ((i : Int) + 1) = ((i + 1 : Nat) : Int) := by unfold wrap64; omega
theorem within_l (s : ByteArray) (l : List ByteArray) (hl : l.length ≤ 10000) : ∀ (d i : Nat), i + d = l.length → garretref29_within.l0 (d + 1) s l (i : Int) = some (memb (l.drop i) s.data.toList)
  | 0, i, h => by
    rw [garretref29_within.l0, if_neg (by omega), List.drop_eq_nil_of_le (by omega)]
    rfl
  | d + 1, i, h => by
    have hi : i < l.length := by omega
    rw [garretref29_within.l0, if_pos (by omega), if_pos (by omega), rd9_get hi, wrap64_nat (by omega), within_l s l hl d (i + 1) (by omega), show l.drop i = l[i] :: l.drop (i + 1) from List.drop_eq_getElem_cons hi]
    by_cases he : l[i].toList = s.toList
    · rw [if_pos he]
      have h2 : l[i] = s := eq_of_toList he
      simp [memb, h2]
    · rw [if_neg he]
      have h2 : (s.data.toList == l[i].data.toList) = false := beq_eq_false_iff_ne.2 fun e => he (by rw [toList_data, toList_data, e])
      unfold memb
      rw [List.any_cons, h2, Bool.false_or]
theorem within_calls (s : ByteArray) (l : List ByteArray) (A : Option Addr) (c : Nat) (w : World) (hr : Kd.C Kd.string w A l.length l) (hc : l.length ≤ c) (hl : l.length ≤ 10000) :
    Calls Try.prog 45 #[.string s, .slice A l.length c] w fun e w' => e = .returned (.bool (memb l s.data.toList)) ∧ Below w.heap.size w w' :=
  (garretref29_within.calls (l.length + 1) s A c l _ w hr hc (by unfold garretref29_within.f; have := within_l s l hl l.length 0 (by omega); simpa using this)).mono fun _ _ h => ⟨h.1, by obtain ⟨n, hn⟩ := h.2; rw [hn]; exact pw_below_drewN (Below.refl _ _) n⟩
theorem rising_l (o : List ByteArray) (p : ByteArray) (hr : Rising o) (hl : o.length ≤ 10000) : ∀ (d i : Nat), i + d = o.length → (∀ t s, t < i → o[t]? = some s → Op.bytesLess s.toList p.toList = true) → ∃ rs, garretref29_rising.l0 (d + 1) o p (i : Int) = some rs ∧ Rising rs ∧ (∀ s, s ∈ rs ↔ s ∈ o ∨ s = p) ∧ rs.length ≤ o.length + 1
  | 0, i, h, hb => by
    have hi : i = o.length := by omega
    subst hi
    have hI := ins_rising hr (Nat.le_refl _) hb (fun s hs => by have := (List.getElem?_eq_some_iff.1 hs).1; omega)
    refine ⟨_, ?_, hI.1, hI.2, by simp⟩
    rw [garretref29_rising.l0, if_neg (by omega), if_pos (by omega), if_pos (by omega)]
    simp
    omega
  | d + 1, i, h, hb => by
    have hi : i < o.length := by omega
    rw [garretref29_rising.l0, if_pos (by omega), if_pos (by omega), rd9_get hi, wrap64_nat (by omega)]
    by_cases h1 : Op.bytesLess o[i].toList p.toList = true
    · rw [if_pos h1]
      exact rising_l o p hr hl d (i + 1) (by omega) fun t s ht hs => by
        by_cases hti : t = i
        · subst hti
          rw [List.getElem?_eq_getElem hi] at hs
          injection hs with hs
          rw [← hs]
          exact h1
        · exact hb t s (by omega) hs
    · rw [if_neg h1]
      by_cases he : o[i].toList = p.toList
      · rw [if_pos he]
        have h2 : o[i] = p := eq_of_toList he
        refine ⟨o, rfl, hr, fun s => ⟨.inl, fun hs => ?_⟩, by omega⟩
        rcases hs with hs | rfl
        · exact hs
        · rw [← h2]; exact List.getElem_mem hi
      · rw [if_neg he]
        have hI := ins_rising hr (Nat.le_of_lt hi) hb (fun s hs => by
          rw [List.getElem?_eq_getElem hi] at hs
          injection hs with hs
          rw [← hs]
          exact ⟨eq_false_of_ne_true h1, fun e => he (by rw [e])⟩)
        refine ⟨_, ?_, hI.1, hI.2, by simp; omega⟩
        rw [if_pos (by omega)]
        have ht : ((i : Int)).toNat = i := by omega
        simp [ht]
        omega
theorem rising40_calls (o : List ByteArray) (p : ByteArray) (v : Value) (w0 w : World) (hB : Below w0.heap.size w0 w) (h : Kd.R Kd.string 9 w w0.heap.size (fun _ => True) v o) (hr : Rising o) (hl : o.length ≤ 10000) :
    Calls Try.prog 40 #[v, .string p] w fun e w' => ∃ (v' : Value) (rs : List ByteArray), e = .returned v' ∧ Kd.R Kd.string 9 w' w0.heap.size (fun _ => True) v' rs ∧ Rising rs ∧ (∀ s, s ∈ rs ↔ s ∈ o ∨ s = p) ∧ rs.length ≤ o.length + 1 ∧ Below w0.heap.size w0 w' := by
  obtain ⟨rs, h1, h2, h3, h4⟩ := rising_l o p hr hl o.length 0 (by omega) (fun t s ht => absurd ht (Nat.not_lt_zero _))
  exact (garretref29_rising.calls (o.length + 1) (fun _ => True) v o p rs w0 w hB h h1).mono fun _ _ ⟨v', e, hR, hB', _⟩ => ⟨v', rs, e, Kd.R_mono hR (fun _ _ => trivial), h2, h3, h4, hB'⟩
end Go.Proofs.Ytoiedcnhojkpiaa.Q
