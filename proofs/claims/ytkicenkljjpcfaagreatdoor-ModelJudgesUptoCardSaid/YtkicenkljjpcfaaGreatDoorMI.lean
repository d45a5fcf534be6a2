/- Of the proof about model: several texts, joined. -/
import Derived.Test.YtkicenkljjpcfaaGreatDoorMH
import Derived.Test.YtkicenkljjpcfaaGreatDoorMD
import Derived.Test.YtkicenkljjpcfaaGreatDoorMA
import Derived.Test.YtkicenkljjpcfaaGreatDoorME
import Derived.Test.YtkicenkljjpcfaaGreatDoorShelf
import Derived.Maps.OwnSet
import Derived.Maps.Ext
import Derived.Maps.RangeWalk
import Derived.StringKeys
import Derived.Sort.KeysCollected
import Derived.Test.YtkicenkljjpcfaaGreatDoorMB
set_option linter.unusedVariables false
set_option linter.unusedSimpArgs false
set_option linter.unusedSimpArgs false
namespace Go.Proofs.YtkicenkljjpcfaaGreatDoor.Q
open Go.RowKit Go.Shelf Go.Proofs.YtkicenkljjpcfaaGreatDoorW.PrintWords Go.Proofs.YtkicenkljjpcfaaGreatDoorW.PrintLast Go.Proofs.YtkicenkljjpcfaaGreatDoorW.PrintMore
theorem idlen_eq (x : ByteArray) : (!(!false && ((x.size : Int) != 32))) = ((x.size : Int) == 32) := by
  cases h : ((x.size : Int) == 32) <;> simp [bne, h]
theorem isId_calls (x : ByteArray) (w : World) : Calls Tryz.prog 36 #[.string x] w fun e w' => e = .returned (.bool ((x.size : Int) == 32)) ∧ Below w.heap.size w w' := by
  refine (sha_IsId.calls x _ w (by unfold sha_IsId.f; rfl)).mono ?_
  rintro e w' ⟨rfl, h⟩
  exact ⟨rfl, h.below⟩
set_option maxHeartbeats 8000000 in
set_option maxRecDepth 100000 in
theorem yes_calls (A : Option Addr) (c : Nat) (n : Int) (l : List Sp) (s : Sp) (w : World) : Calls Tryz.prog 32 #[.agg #[.slice A l.length c, .int .i64 n], aggS s] w fun e' w' => e' = .returned (.bool true) ∧ Below w.heap.size w w' := by
  go_enter Tryz.func32, Tryz.ntmps32
  go_wp2_with (fail)
  go_ret
  exact ⟨rfl, below_alloc (below_alloc (Below.refl _ _) _) _⟩
set_option maxHeartbeats 8000000 in
set_option maxRecDepth 100000 in
theorem pright_calls (A : Option Addr) (c : Nat) (n : Int) (l : List Sp) (s : Sp) (w : World) (h : CS w A l) (hl : l.length ≤ 10000) (hs : ∀ s ∈ l, LenS s) (hr : RdS w s) (hls : LenS s) :
    Calls Tryz.prog 16 #[.agg #[.slice A l.length c, .int .i64 n], aggS s] w fun e' w' => e' = .returned (.bool (!(wrongP l s))) ∧ Below w.heap.size w w' := by
  have HC := Aside0.mk h
  have HL := Aside0.mk hs
  have HR := Aside0.mk hr
  have HLS := Aside0.mk hls
  have HB0 : Aside0 (Below w.heap.size w ((w.alloc (.cells #[.slice A l.length c, .int .i64 n] 47)).alloc (.cells #[.int .i64 s.c.kind, .slice s.c.eA s.c.eN s.c.eC, .int .i64 s.c.time, .string s.c.host, .string s.c.parent, .slice s.c.iA s.c.iN s.c.iC, .string s.c.path, .slice s.c.uA s.c.uN s.c.uC, .int .i64 s.c.percent, .bool s.c.rd, .int .i64 s.r.code, .string s.r.id, .int .i64 s.r.n, .slice s.r.jA s.r.jN s.r.jC, .slice s.r.tA s.r.tN s.r.tC, .slice s.r.fA s.r.fN s.r.fC, .slice s.r.sA s.r.sN s.r.sC, .int .i64 s.b, .int .i64 s.e, .bool s.op] 51))) := ⟨below_alloc (below_alloc (Below.refl _ _) _) _⟩
  have K0H : Aside0 (HistAt ((w.alloc (.cells #[.slice A l.length c, .int .i64 n] 47)).alloc (.cells #[.int .i64 s.c.kind, .slice s.c.eA s.c.eN s.c.eC, .int .i64 s.c.time, .string s.c.host, .string s.c.parent, .slice s.c.iA s.c.iN s.c.iC, .string s.c.path, .slice s.c.uA s.c.uN s.c.uC, .int .i64 s.c.percent, .bool s.c.rd, .int .i64 s.r.code, .string s.r.id, .int .i64 s.r.n, .slice s.r.jA s.r.jN s.r.jC, .slice s.r.tA s.r.tN s.r.tC, .slice s.r.fA s.r.fN s.r.fC, .slice s.r.sA s.r.sN s.r.sC, .int .i64 s.b, .int .i64 s.e, .bool s.op] 51)) w.heap.size A c l n) := ⟨blk_old (blk_new rfl)⟩
  have K0S : Aside0 (((w.alloc (.cells #[.slice A l.length c, .int .i64 n] 47)).alloc (.cells #[.int .i64 s.c.kind, .slice s.c.eA s.c.eN s.c.eC, .int .i64 s.c.time, .string s.c.host, .string s.c.parent, .slice s.c.iA s.c.iN s.c.iC, .string s.c.path, .slice s.c.uA s.c.uN s.c.uC, .int .i64 s.c.percent, .bool s.c.rd, .int .i64 s.r.code, .string s.r.id, .int .i64 s.r.n, .slice s.r.jA s.r.jN s.r.jC, .slice s.r.tA s.r.tN s.r.tC, .slice s.r.fA s.r.fN s.r.fC, .slice s.r.sA s.r.sN s.r.sC, .int .i64 s.b, .int .i64 s.e, .bool s.op] 51)).heap[w.heap.size + 1]? = some (.cells (encS s).toArray 51 (0, 0))) := ⟨blk_new (by simp)⟩
  clear h hs hr hls
  go_enter Tryz.func16, Tryz.ntmps16
  go_upto_region 1 with (fail)
  generalize ((w.alloc (.cells #[.slice A l.length c, .int .i64 n] 47)).alloc (.cells #[.int .i64 s.c.kind, .slice s.c.eA s.c.eN s.c.eC, .int .i64 s.c.time, .string s.c.host, .string s.c.parent, .slice s.c.iA s.c.iN s.c.iC, .string s.c.path, .slice s.c.uA s.c.uN s.c.uC, .int .i64 s.c.percent, .bool s.c.rd, .int .i64 s.r.code, .string s.r.id, .int .i64 s.r.n, .slice s.r.jA s.r.jN s.r.jC, .slice s.r.tA s.r.tN s.r.tC, .slice s.r.fA s.r.fN s.r.fC, .slice s.r.sA s.r.sN s.r.sC, .int .i64 s.b, .int .i64 s.e, .bool s.op] 51)) = W0 at HB0 K0H K0S ⊢
  generalize w.heap.size + 1 = gs at K0S ⊢
  obtain ⟨g, hg⟩ : ∃ g, g = w.heap.size := ⟨_, rfl⟩
  rw [← hg] at K0H ⊢
  clear hg
  have z0 : W0.cell? ⟨g, 0, none⟩ = some (.slice A l.length c) := (blk_cell K0H.out 0).trans rfl
  have z1 : W0.cell? ⟨g, 1, none⟩ = some (.int .i64 n) := (blk_cell K0H.out 1).trans rfl
  have m0 : W0.cell? ⟨gs, 0, none⟩ = some (.int .i64 s.c.kind) := (blk_cell K0S.out 0).trans rfl
  have m10 : W0.cell? ⟨gs, 10, none⟩ = some (.int .i64 s.r.code) := (blk_cell K0S.out 10).trans rfl
  have m11 : W0.cell? ⟨gs, 11, none⟩ = some (.string s.r.id) := (blk_cell K0S.out 11).trans rfl
  have m19 : W0.cell? ⟨gs, 19, none⟩ = some (.bool s.op) := (blk_cell K0S.out 19).trans rfl
  cases ho : s.op with
  | true =>
    rw [ho] at m19
    have HO := Aside0.mk ho
    clear ho
    go_wp2_with (((with_reducible refine gate_dst (N := 51) rfl ?_); refine wpList_load_any (by rfl) 51 (.tmp 3) rfl ⟨gs, 0, none⟩ rfl (encS s) _ (cells_blk K0S.out) Tryz.underlying51 rfl s51 ?_))
    refine (yes_calls A c n l s _).mono ?_
    rintro e1 w1 ⟨rfl, hB⟩
    have HB1 := Aside0.mk (below_step HB0.out hB)
    clear hB
    go_wp2_with (fail)
    go_ret
    exact ⟨by rw [wrongP_eq, HO.out]; rfl, HB1.out⟩
  | false =>
    rw [ho] at m19
    have HO := Aside0.mk ho
    have ho0 : s.op = false := ho
    clear ho
    by_cases hk : s.c.kind = 3
    · by_cases hc : s.r.code = 0
      · have a2 : (s.c.kind == 2) = false := beq_eq_false_iff_ne.2 (by omega)
        have a3 : (s.c.kind == 3) = true := beq_iff_eq.2 hk
        have a4 : (s.c.kind == 4) = false := beq_eq_false_iff_ne.2 (by omega)
        have b0 : (s.r.code == 0) = true := beq_iff_eq.2 hc
        have b5 : (s.r.code == 5) = false := beq_eq_false_iff_ne.2 (by omega)
        have HW : Aside0 (wrongI l s = restoredP l s) := ⟨by unfold wrongI; rw [a3, b0]; rfl⟩
        clear hk hc
        go_wp2_with (((with_reducible refine gate_dst (N := 51) rfl ?_); refine wpList_load_any (by rfl) 51 (.tmp 3) rfl ⟨gs, 0, none⟩ rfl (encS s) _ (cells_blk K0S.out) Tryz.underlying51 rfl s51 ?_))
        refine (prestored_calls A c n l s _ (HC.out.below HB0.out) hl HL.out (HR.out.below HB0.out) HLS.out).mono ?_
        rintro e1 w1 ⟨rfl, hB⟩
        have HB1 := Aside0.mk (below_step HB0.out hB)
        clear hB
        go_wp2_with (fail)
        go_ret
        exact ⟨by rw [wrongP_eq, HO.out, HW.out]; rfl, HB1.out⟩
      · by_cases hc5 : s.r.code = 5
        · have a2 : (s.c.kind == 2) = false := beq_eq_false_iff_ne.2 (by omega)
          have a3 : (s.c.kind == 3) = true := beq_iff_eq.2 hk
          have a4 : (s.c.kind == 4) = false := beq_eq_false_iff_ne.2 (by omega)
          have b0 : (s.r.code == 0) = false := beq_eq_false_iff_ne.2 (by omega)
          have b5 : (s.r.code == 5) = true := beq_iff_eq.2 hc5
          have HW : Aside0 (wrongI l s = missedP l s) := ⟨by unfold wrongI; rw [a3, b0, b5]; rfl⟩
          clear hk hc hc5
          go_wp2_with (((with_reducible refine gate_dst (N := 51) rfl ?_); refine wpList_load_any (by rfl) 51 (.tmp 3) rfl ⟨gs, 0, none⟩ rfl (encS s) _ (cells_blk K0S.out) Tryz.underlying51 rfl s51 ?_))
          refine (pmissed_calls A c n l s _ (HC.out.below HB0.out) hl HL.out (HR.out.below HB0.out) HLS.out).mono ?_
          rintro e1 w1 ⟨rfl, hB⟩
          have HB1 := Aside0.mk (below_step HB0.out hB)
          clear hB
          go_wp2_with (fail)
          go_ret
          exact ⟨by rw [wrongP_eq, HO.out, HW.out]; rfl, HB1.out⟩
        · have a2 : (s.c.kind == 2) = false := beq_eq_false_iff_ne.2 (by omega)
          have a3 : (s.c.kind == 3) = true := beq_iff_eq.2 hk
          have a4 : (s.c.kind == 4) = false := beq_eq_false_iff_ne.2 (by omega)
          have b0 : (s.r.code == 0) = false := beq_eq_false_iff_ne.2 (by omega)
          have b5 : (s.r.code == 5) = false := beq_eq_false_iff_ne.2 (by omega)
          have HW : Aside0 (wrongI l s = false) := ⟨by unfold wrongI; rw [a3, b0, b5]; rfl⟩
          clear hk hc hc5
          go_wp2_with (((with_reducible refine gate_dst (N := 43) rfl ?_); refine wpList_load_any (by rfl) 51 (.tmp 3) rfl ⟨gs, 0, none⟩ rfl (encS s) _ (cells_blk K0S.out) Tryz.underlying51 rfl s51 ?_))
          refine (makes_calls s _).mono ?_
          rintro e2 w2 ⟨rfl, hB⟩
          have HMK : Aside0 (makesP s = false) := ⟨by unfold makesP; rw [a2]; rfl⟩
          have HB2 := Aside0.mk (below_step HB0.out hB)
          have K2H := Aside0.mk (blk_below K0H.out hB)
          have K2S := Aside0.mk (blk_below K0S.out hB)
          clear hB HB0 K0H K0S z0 z1 m0 m10 m11 m19
          rw [HMK.out]
          have K0S := K2S
          have HB0 := HB2
          have z0 : w2.cell? ⟨g, 0, none⟩ = some (.slice A l.length c) := (blk_cell K2H.out 0).trans rfl
          have z1 : w2.cell? ⟨g, 1, none⟩ = some (.int .i64 n) := (blk_cell K2H.out 1).trans rfl
          have m11 : w2.cell? ⟨gs, 11, none⟩ = some (.string s.r.id) := (blk_cell K2S.out 11).trans rfl
          clear K2S HB2
          go_wp2_with (((with_reducible refine gate_dst (N := 51) rfl ?_); refine wpList_load_any (by rfl) 51 (.tmp 3) rfl ⟨gs, 0, none⟩ rfl (encS s) _ (cells_blk K0S.out) Tryz.underlying51 rfl s51 ?_))
          refine (yes_calls A c n l s _).mono ?_
          rintro e1 w1 ⟨rfl, hB⟩
          have HB1 := Aside0.mk (below_step HB0.out hB)
          clear hB
          go_wp2_with (fail)
          go_ret
          exact ⟨by rw [wrongP_eq, HO.out, HW.out]; rfl, HB1.out⟩
    · by_cases hk4 : s.c.kind = 4
      · by_cases hc : s.r.code = 0
        · have a2 : (s.c.kind == 2) = false := beq_eq_false_iff_ne.2 (by omega)
          have a3 : (s.c.kind == 3) = false := beq_eq_false_iff_ne.2 (by omega)
          have a4 : (s.c.kind == 4) = true := beq_iff_eq.2 hk4
          have b0 : (s.r.code == 0) = true := beq_iff_eq.2 hc
          have b5 : (s.r.code == 5) = false := beq_eq_false_iff_ne.2 (by omega)
          have HW : Aside0 (wrongI l s = listedP l s) := ⟨by unfold wrongI; rw [a3, a4, b0]; rfl⟩
          clear hk hk4 hc
          go_wp2_with (((with_reducible refine gate_dst (N := 51) rfl ?_); refine wpList_load_any (by rfl) 51 (.tmp 3) rfl ⟨gs, 0, none⟩ rfl (encS s) _ (cells_blk K0S.out) Tryz.underlying51 rfl s51 ?_))
          refine (plisted_calls A c n l s _ (HC.out.below HB0.out) hl HL.out (HR.out.below HB0.out) HLS.out).mono ?_
          rintro e1 w1 ⟨rfl, hB⟩
          have HB1 := Aside0.mk (below_step HB0.out hB)
          clear hB
          go_wp2_with (fail)
          go_ret
          exact ⟨by rw [wrongP_eq, HO.out, HW.out]; rfl, HB1.out⟩
        · have a2 : (s.c.kind == 2) = false := beq_eq_false_iff_ne.2 (by omega)
          have a3 : (s.c.kind == 3) = false := beq_eq_false_iff_ne.2 (by omega)
          have a4 : (s.c.kind == 4) = true := beq_iff_eq.2 hk4
          have b0 : (s.r.code == 0) = false := beq_eq_false_iff_ne.2 hc
          have HW : Aside0 (wrongI l s = false) := ⟨by unfold wrongI; rw [a3, a4, b0]; rfl⟩
          clear hk hk4 hc
          go_wp2_with (((with_reducible refine gate_dst (N := 43) rfl ?_); refine wpList_load_any (by rfl) 51 (.tmp 3) rfl ⟨gs, 0, none⟩ rfl (encS s) _ (cells_blk K0S.out) Tryz.underlying51 rfl s51 ?_))
          refine (makes_calls s _).mono ?_
          rintro e2 w2 ⟨rfl, hB⟩
          have HMK : Aside0 (makesP s = false) := ⟨by unfold makesP; rw [a2]; rfl⟩
          have HB2 := Aside0.mk (below_step HB0.out hB)
          have K2H := Aside0.mk (blk_below K0H.out hB)
          have K2S := Aside0.mk (blk_below K0S.out hB)
          clear hB HB0 K0H K0S z0 z1 m0 m10 m11 m19
          rw [HMK.out]
          have K0S := K2S
          have HB0 := HB2
          have z0 : w2.cell? ⟨g, 0, none⟩ = some (.slice A l.length c) := (blk_cell K2H.out 0).trans rfl
          have z1 : w2.cell? ⟨g, 1, none⟩ = some (.int .i64 n) := (blk_cell K2H.out 1).trans rfl
          have m11 : w2.cell? ⟨gs, 11, none⟩ = some (.string s.r.id) := (blk_cell K2S.out 11).trans rfl
          clear K2S HB2
          go_wp2_with (((with_reducible refine gate_dst (N := 51) rfl ?_); refine wpList_load_any (by rfl) 51 (.tmp 3) rfl ⟨gs, 0, none⟩ rfl (encS s) _ (cells_blk K0S.out) Tryz.underlying51 rfl s51 ?_))
          refine (yes_calls A c n l s _).mono ?_
          rintro e1 w1 ⟨rfl, hB⟩
          have HB1 := Aside0.mk (below_step HB0.out hB)
          clear hB
          go_wp2_with (fail)
          go_ret
          exact ⟨by rw [wrongP_eq, HO.out, HW.out]; rfl, HB1.out⟩
      · by_cases hk2 : s.c.kind = 2
        · by_cases hc : s.r.code = 0
          · have a2 : (s.c.kind == 2) = true := beq_iff_eq.2 hk2
            have a3 : (s.c.kind == 3) = false := beq_eq_false_iff_ne.2 (by omega)
            have a4 : (s.c.kind == 4) = false := beq_eq_false_iff_ne.2 (by omega)
            have b0 : (s.r.code == 0) = true := beq_iff_eq.2 hc
            have b5 : (s.r.code == 5) = false := beq_eq_false_iff_ne.2 (by omega)
            have HW : Aside0 (wrongI l s = ((s.r.id.size : Int) != 32)) := ⟨by unfold wrongI; rw [a3, a4, a2, b0]; rfl⟩
            clear hk hk4 hk2 hc
            go_wp2_with (((with_reducible refine gate_dst (N := 43) rfl ?_); refine wpList_load_any (by rfl) 51 (.tmp 3) rfl ⟨gs, 0, none⟩ rfl (encS s) _ (cells_blk K0S.out) Tryz.underlying51 rfl s51 ?_))
            refine (makes_calls s _).mono ?_
            rintro e2 w2 ⟨rfl, hB⟩
            have HMK : Aside0 (makesP s = true) := ⟨by unfold makesP; rw [a2, ho0, b0]; rfl⟩
            have HB2 := Aside0.mk (below_step HB0.out hB)
            have K2H := Aside0.mk (blk_below K0H.out hB)
            have K2S := Aside0.mk (blk_below K0S.out hB)
            clear hB HB0 K0H K0S z0 z1 m0 m10 m11 m19
            rw [HMK.out]
            have K0S := K2S
            have HB0 := HB2
            have z0 : w2.cell? ⟨g, 0, none⟩ = some (.slice A l.length c) := (blk_cell K2H.out 0).trans rfl
            have z1 : w2.cell? ⟨g, 1, none⟩ = some (.int .i64 n) := (blk_cell K2H.out 1).trans rfl
            have m11 : w2.cell? ⟨gs, 11, none⟩ = some (.string s.r.id) := (blk_cell K2S.out 11).trans rfl
            clear K2S HB2
            go_wp2_with (fail)
            refine (isId_calls s.r.id _).mono ?_
            rintro e3 w3 ⟨rfl, hB⟩
            have HB3 := Aside0.mk (below_step HB0.out hB)
            clear hB
            go_wp2_with (fail)
            go_ret
            exact ⟨by rw [wrongP_eq, HO.out, HW.out, idlen_eq]; rfl, HB3.out⟩
          · have a2 : (s.c.kind == 2) = true := beq_iff_eq.2 hk2
            have a3 : (s.c.kind == 3) = false := beq_eq_false_iff_ne.2 (by omega)
            have a4 : (s.c.kind == 4) = false := beq_eq_false_iff_ne.2 (by omega)
            have b0 : (s.r.code == 0) = false := beq_eq_false_iff_ne.2 hc
            have HW : Aside0 (wrongI l s = false) := ⟨by unfold wrongI; rw [a3, a4, a2, b0]; rfl⟩
            clear hk hk4 hk2 hc
            go_wp2_with (((with_reducible refine gate_dst (N := 43) rfl ?_); refine wpList_load_any (by rfl) 51 (.tmp 3) rfl ⟨gs, 0, none⟩ rfl (encS s) _ (cells_blk K0S.out) Tryz.underlying51 rfl s51 ?_))
            refine (makes_calls s _).mono ?_
            rintro e2 w2 ⟨rfl, hB⟩
            have HMK : Aside0 (makesP s = false) := ⟨by unfold makesP; rw [a2, ho0, b0]; rfl⟩
            have HB2 := Aside0.mk (below_step HB0.out hB)
            have K2H := Aside0.mk (blk_below K0H.out hB)
            have K2S := Aside0.mk (blk_below K0S.out hB)
            clear hB HB0 K0H K0S z0 z1 m0 m10 m11 m19
            rw [HMK.out]
            have K0S := K2S
            have HB0 := HB2
            have z0 : w2.cell? ⟨g, 0, none⟩ = some (.slice A l.length c) := (blk_cell K2H.out 0).trans rfl
            have z1 : w2.cell? ⟨g, 1, none⟩ = some (.int .i64 n) := (blk_cell K2H.out 1).trans rfl
            have m11 : w2.cell? ⟨gs, 11, none⟩ = some (.string s.r.id) := (blk_cell K2S.out 11).trans rfl
            clear K2S HB2
            go_wp2_with (((with_reducible refine gate_dst (N := 51) rfl ?_); refine wpList_load_any (by rfl) 51 (.tmp 3) rfl ⟨gs, 0, none⟩ rfl (encS s) _ (cells_blk K0S.out) Tryz.underlying51 rfl s51 ?_))
            refine (yes_calls A c n l s _).mono ?_
            rintro e1 w1 ⟨rfl, hB⟩
            have HB1 := Aside0.mk (below_step HB0.out hB)
            clear hB
            go_wp2_with (fail)
            go_ret
            exact ⟨by rw [wrongP_eq, HO.out, HW.out]; rfl, HB1.out⟩
        · have a2 : (s.c.kind == 2) = false := beq_eq_false_iff_ne.2 (by omega)
          have a3 : (s.c.kind == 3) = false := beq_eq_false_iff_ne.2 (by omega)
          have a4 : (s.c.kind == 4) = false := beq_eq_false_iff_ne.2 (by omega)
          have HW : Aside0 (wrongI l s = false) := ⟨by unfold wrongI; rw [a3, a4, a2]; rfl⟩
          clear hk hk4 hk2
          go_wp2_with (((with_reducible refine gate_dst (N := 43) rfl ?_); refine wpList_load_any (by rfl) 51 (.tmp 3) rfl ⟨gs, 0, none⟩ rfl (encS s) _ (cells_blk K0S.out) Tryz.underlying51 rfl s51 ?_))
          refine (makes_calls s _).mono ?_
          rintro e2 w2 ⟨rfl, hB⟩
          have HMK : Aside0 (makesP s = false) := ⟨by unfold makesP; rw [a2]; rfl⟩
          have HB2 := Aside0.mk (below_step HB0.out hB)
          have K2H := Aside0.mk (blk_below K0H.out hB)
          have K2S := Aside0.mk (blk_below K0S.out hB)
          clear hB HB0 K0H K0S z0 z1 m0 m10 m11 m19
          rw [HMK.out]
          have K0S := K2S
          have HB0 := HB2
          have z0 : w2.cell? ⟨g, 0, none⟩ = some (.slice A l.length c) := (blk_cell K2H.out 0).trans rfl
          have z1 : w2.cell? ⟨g, 1, none⟩ = some (.int .i64 n) := (blk_cell K2H.out 1).trans rfl
          have m11 : w2.cell? ⟨gs, 11, none⟩ = some (.string s.r.id) := (blk_cell K2S.out 11).trans rfl
          clear K2S HB2
          go_wp2_with (((with_reducible refine gate_dst (N := 51) rfl ?_); refine wpList_load_any (by rfl) 51 (.tmp 3) rfl ⟨gs, 0, none⟩ rfl (encS s) _ (cells_blk K0S.out) Tryz.underlying51 rfl s51 ?_))
          refine (yes_calls A c n l s _).mono ?_
          rintro e1 w1 ⟨rfl, hB⟩
          have HB1 := Aside0.mk (below_step HB0.out hB)
          clear hB
          go_wp2_with (fail)
          go_ret
          exact ⟨by rw [wrongP_eq, HO.out, HW.out]; rfl, HB1.out⟩
end Go.Proofs.YtkicenkljjpcfaaGreatDoor.Q
/- Sets of texts (map[string]bool) and their members in order; the map of jobs (map[int]int). -/
namespace Go.Proofs.YtkicenkljjpcfaaGreatDoor.Q
open Go.RowKit Go.Maps Go.Sort Go.Proofs.YtkicenkljjpcfaaGreatDoorW.PrintWords Go.Proofs.YtkicenkljjpcfaaGreatDoorW.PrintLast Go.Proofs.YtkicenkljjpcfaaGreatDoorW.PrintMore
theorem eq_of_data {a b : ByteArray} (h : a.data.toList = b.data.toList) : a = b := eq_of_toList (by rw [toList_data, toList_data]; exact h)
theorem law9 : Keyed Tryz.prog 9 := string_keyed Tryz.underlying9
theorem zero4 (w : World) : (zeroValue 4).run Tryz.prog w = .ok (.bool false) w := by kernel_rfl
theorem bool_inv {v : Value} {c : Bool} {ps : List MemPlace} (h : plainElem (H := Unit) Tryz.prog 4 v = some (.lit (.bool c), ps)) : v = .bool c := by
  simp only [plainElem, Tryz.underlying4] at h
  cases v <;> simp at h
  rw [h.1]
/-- Block b is a set of at most n texts, just those of p. -/
def SetAt (w : World) (b n : Nat) (p : List UInt8 → Bool) : Prop :=
  ∃ D : DataW Unit, w.ownsMap Tryz.prog 9 (plainElem Tryz.prog 4) b n D ∧ (∀ x, Maps.has D (.string x) = p x) ∧ ∀ k z, Maps.has D k = true → D.atKey k z = .lit (.bool true)
theorem SetAt.made (w : World) : SetAt (w.alloc (.map #[] 0)) w.heap.size 0 (fun _ => false) :=
  ⟨_, World.ownsMap_made w _ _ _, fun _ => rfl, fun _ _ h => by cases h⟩
theorem SetAt.lt {w : World} {b n : Nat} {p : List UInt8 → Bool} (h : SetAt w b n p) : b < w.heap.size := h.choose_spec.1.lt
theorem SetAt.kept {w w' : World} {b n : Nat} {p : List UInt8 → Bool} {row : Option Nat} (h : SetAt w b n p) (hg : w.grownBy w' row) (hne : some b ≠ row) : SetAt w' b n p := by
  obtain ⟨D, h1, h2⟩ := h
  exact ⟨D, h1.kept hg hne, h2⟩
theorem SetAt.below {w w' : World} {b n : Nat} {p : List UInt8 → Bool} (h : SetAt w b n p) (hb : Below w.heap.size w w') : SetAt w' b n p := h.kept (grown_of_below hb none) (by simp)
theorem SetAt.mono {w : World} {b n n' : Nat} {p : List UInt8 → Bool} (h : SetAt w b n p) (hn : n ≤ n') : SetAt w b n' p := by
  obtain ⟨D, h1, h2⟩ := h
  exact ⟨D, h1.mono hn, h2⟩
theorem SetAt.congr {w : World} {b n : Nat} {p q : List UInt8 → Bool} (h : SetAt w b n p) (hpq : ∀ x, p x = q x) : SetAt w b n q := by
  rwa [show q = p from funext fun x => (hpq x).symm]
theorem SetAt.put {w w' : World} {b n : Nat} {D : DataW Unit} {p : List UInt8 → Bool} {s : ByteArray} (h0 : w.ownsMap Tryz.prog 9 (plainElem Tryz.prog 4) b n D) (hp : ∀ x, Maps.has D (.string x) = p x) (ht : ∀ k z, Maps.has D k = true → D.atKey k z = .lit (.bool true))
    (hs : s.size ≤ maxLen) (h : w'.ownsMap Tryz.prog 9 (plainElem Tryz.prog 4) b (n + 1) (D.put (.string s.data.toList) (.lit (.bool true)))) : SetAt w' b (n + 1) (fun x => p x || x == s.data.toList) := by
  have hk : WideAt.IsKeyLit (.string s.data.toList) := law9.key (Go.WideMaps.keyOf_string_mk Tryz.underlying9 hs)
  refine ⟨_, h, fun x => ?_, fun k z hk2 => ?_⟩
  · by_cases e : x = s.data.toList
    · subst e
      rw [has_put_same h0.isMap hk]
      simp
    · rw [has_put_other (fun h => e (by injection h)), hp]
      simp [e]
  · by_cases e : k = .string s.data.toList
    · subst e
      exact atKey_put_same h0.isMap hk _ _
    · rw [atKey_put_other e]
      rw [has_put_other e] at hk2
      exact ht k z hk2
section
variable (w : World) {ops : Array Oper} {rest : List Oper} {o : Oper} {a : Act} {Q : Exit → Act → World → Prop}
theorem SetAt.look {w : World} {t b n : Nat} {p : List UInt8 → Bool} {s : ByteArray} (h : SetAt w b n p) (ht : Tryz.prog.underlying t = some (.map 9 4)) (hs : s.size ≤ maxLen) : (Instr.lookup t (.map (some b)) (.string s) false).run Tryz.prog w = .ok (.bool (p s.data.toList)) w := by
  obtain ⟨D, h1, h2, h3⟩ := h
  obtain ⟨v, ps, hrun, hR⟩ := h1.lookup law9 ht (zero4 w) (plainElem_bool Tryz.underlying4 false) (Go.WideMaps.keyOf_string_mk Tryz.underlying9 hs)
  by_cases hh : Maps.has D (.string s.data.toList) = true
  · rw [h3 _ _ hh] at hR
    rw [hrun, bool_inv hR, ← h2, hh]
  · have hf := eq_false_of_ne_true hh
    rw [atKey_of_not_has hf] at hR
    rw [hrun, bool_inv hR, ← h2, hf]
/-- A look-up in a set. -/
theorem wpList_lookup_set (hg : o.guard = none) (m x : Operand) (t : TypeId) (hop : o.op = Op.lookup t m x false) (ht : Tryz.prog.underlying t = some (.map 9 4)) (b n : Nat) (p : List UInt8 → Bool)
    (hm : a.eval m = .map (some b)) (hown : SetAt w b n p) (s : ByteArray) (hs : s.size ≤ maxLen) (hx : a.eval x = .string s)
    (hK : wpList Tryz.prog ops Q rest (a.put o.dst (.bool (p s.data.toList))) w) : wpList Tryz.prog ops Q (o :: rest) a w := by
  refine wpList_plain hg fun K' hK' => ?_
  have hrun := hown.look ht hs
  unfold Oper.wp
  simp [execOp, hop, hm, hx, hrun, Result.andThen]
  exact hK' _ _ hK
/-- A store of true into a set. -/
theorem wpList_update_set (hg : o.guard = none) (m x v : Operand) (t : TypeId) (hop : o.op = Op.mapUpdate t m x v) (ht : Tryz.prog.underlying t = some (.map 9 4)) (b n : Nat) (p : List UInt8 → Bool)
    (hm : a.eval m = .map (some b)) (hown : SetAt w b n p) (hn : n < maxLen) (s : ByteArray) (hs : s.size ≤ maxLen) (hx : a.eval x = .string s) (hv : a.eval v = .bool true)
    (hK : ∀ w', SetAt w' b (n + 1) (fun y => p y || y == s.data.toList) → w.grownBy w' (some b) → wpList Tryz.prog ops Q rest (a.put o.dst undef) w') : wpList Tryz.prog ops Q (o :: rest) a w := by
  obtain ⟨D, h1, h2, h3⟩ := hown
  exact wpList_mapUpdate_own w hg m x v t hop 9 4 law9 ht _ b n D hm h1 hn _ _ _ hx hv (Go.WideMaps.keyOf_string_mk Tryz.underlying9 hs) (.lit (.bool true)) [] (plainElem_bool Tryz.underlying4 true) (fun w' hw hgw => hK w' (SetAt.put h1 h2 h3 hs hw) hgw)
end
theorem below_map {B : Nat} {w W w1 : World} {b : Nat} (h : Below B w W) (hg : W.grownBy w1 (some b)) (hB : B ≤ W.heap.size) (hb : B ≤ b) : Below B w w1 := pw_below_grown h _ hB hg (fun k hk => by injection hk with hk; rw [← hk]; exact hb)
theorem mem_strKeys {w : World} {b n : Nat} {D : DataW Unit} (h : w.ownsMap Tryz.prog 9 (plainElem Tryz.prog 4) b n D) (x : List UInt8) : x ∈ strKeys D ↔ Maps.has D (.string x) = true := by
  obtain ⟨es, rfl, hk⟩ := h.keysOf
  rw [has_eq, List.any_eq_true]
  constructor
  · intro hx
    obtain ⟨q, hq, he⟩ := List.mem_map.1 hx
    obtain ⟨key, hkey⟩ := hk q hq
    obtain ⟨y, _, hy, _⟩ := Maps.keyOf_str Tryz.underlying9 hkey
    refine ⟨q, hq, ?_⟩
    rw [hy] at he hkey ⊢
    obtain rfl : y = x := he
    exact WideAt.sameKey_self (law9.key hkey)
  · rintro ⟨q, hq, he⟩
    by_cases e : q.1 = .string x
    · refine List.mem_map.2 ⟨q, hq, ?_⟩
      rw [e]
      rfl
    · rw [sameKey_ne e] at he
      cases he
theorem nodup_strKeys {w : World} {b n : Nat} {D : DataW Unit} (h : w.ownsMap Tryz.prog 9 (plainElem Tryz.prog 4) b n D) : (strKeys D).Nodup := by
  have ht := h.tidy law9
  obtain ⟨es, rfl, hk⟩ := h.keysOf
  obtain ⟨es', he, hp⟩ := ht
  injection he with he
  subst he
  unfold List.Nodup
  refine List.pairwise_map.2 (List.Pairwise.imp_of_mem (fun {p q} hp2 hq2 hne => ?_) hp)
  obtain ⟨k1, h1⟩ := hk p hp2
  obtain ⟨k2, h2⟩ := hk q hq2
  obtain ⟨x, _, hx, _⟩ := Maps.keyOf_str Tryz.underlying9 h1
  obtain ⟨y, _, hy, _⟩ := Maps.keyOf_str Tryz.underlying9 h2
  rw [hx, hy]
  rw [hx, hy] at hne
  intro hxy
  exact hne (congrArg Lit.string hxy)
def packB (x : List UInt8) : ByteArray := ⟨x.toArray⟩
theorem packB_data (x : List UInt8) : (packB x).data.toList = x := rfl
theorem packB_list (x : List UInt8) : (packB x).toList = x := by rw [toList_data, packB_data]
theorem packB_of (s : ByteArray) : packB s.data.toList = s := eq_of_data rfl
theorem rising_sorted (ss : List (List UInt8)) (h : ss.Nodup) : Rising ((ss.mergeSort fun x y => decide (x ≤ y)).map packB) := by
  have h1 : (ss.mergeSort fun x y => decide (x ≤ y)).Pairwise fun a b => decide (a ≤ b) = true :=
    List.pairwise_mergeSort (fun a b c hab hbc => by simp only [decide_eq_true_eq] at *; exact List.le_trans hab hbc) (fun a b => by simp only [Bool.or_eq_true, decide_eq_true_eq]; exact List.le_total a b) ss
  have h2 : (ss.mergeSort fun x y => decide (x ≤ y)).Nodup := (List.mergeSort_perm ss _).nodup_iff.2 h
  refine List.pairwise_map.2 ((h1.and h2).imp fun {a b} hab => ?_)
  rw [packB_list, packB_list]
  have h3 : a ≤ b := of_decide_eq_true hab.1
  by_cases h4 : Op.bytesLess a b = true
  · exact h4
  · exfalso
    have h5 : ¬ a < b := fun hl => h4 ((bl_lt a b).2 hl)
    exact hab.2 (List.le_antisymm h3 (List.not_lt.1 h5))
/-- The members of a set, in order: slices.Sorted of maps.Keys. -/
theorem keys_calls (b : Nat) (w : World) : Calls Tryz.prog 22 #[.map (some b)] w fun e w' => e = .returned (.func (.func 47) #[] #[.pointer (some ⟨w.heap.size, 0, none⟩)]) ∧ w' = w.alloc (.cells #[.map (some b)] 58) := callsIn_wide.1 (Go.Proofs.Tryz.maps_Keys_22 (some b) w)
theorem sorted_calls (b n : Nat) (p : List UInt8 → Bool) (w : World) (h : SetAt w b n p) (hn : n ≤ 100000) :
    Calls Tryz.prog 21 #[.func (.func 47) #[] #[.pointer (some ⟨w.heap.size, 0, none⟩)]] (w.alloc (.cells #[.map (some b)] 58)) fun e w' => ∃ (v : Value) (rs : List ByteArray), e = .returned v ∧ Kd.R Kd.string 9 w' w.heap.size (fun _ => True) v rs ∧ Rising rs ∧ (∀ s : ByteArray, s ∈ rs ↔ p s.data.toList = true) ∧ rs.length ≤ n ∧ Below w.heap.size w w' := by
  obtain ⟨D, h1, h2, h3⟩ := h
  have hsz := h1.size_le
  have HM := Aside0.mk (fun x => mem_strKeys h1 x)
  have HN := Aside0.mk (nodup_strKeys h1)
  have HL : Aside0 ((strKeys D).length ≤ n) := by
    obtain ⟨es, rfl, _⟩ := h1.keysOf
    refine ⟨?_⟩
    show (es.map _).length ≤ n
    rw [List.length_map]
    exact hsz
  refine (callsIn_wide.1 (Go.Proofs.Tryz.slices_Sorted_keys_21_22 b n D _ w h1 (by unfold maxLen; omega) (by omega))).mono ?_
  rintro e w' ⟨v, ss, rfl, hS, hrow, hnil, hb⟩
  have hB : Below w.heap.size w w' := ((Below.refl _ w).alloc (Nat.le_refl _) _).trans (hb.mono (by simp))
  have hlen : ((ss.mergeSort fun x y => decide (x ≤ y)).map packB).length = ss.length := by simp
  refine ⟨v, (ss.mergeSort fun x y => decide (x ≤ y)).map packB, rfl, Kd.R_of_own ?_ (fun _ _ => trivial), rising_sorted ss (hS.nodup_iff.2 HN.out), fun s => ?_, by rw [hlen, hS.length_eq]; exact HL.out, hB⟩
  · rw [hlen]
    have := ownsRow_base_a hrow (show w.heap.size ≤ _ by simp)
    simpa [encs, packB, List.map_map, Function.comp_def] using this
  · rw [← h2, ← HM.out, ← hS.mem_iff]
    constructor
    · intro hm
      obtain ⟨x, hx, rfl⟩ := List.mem_map.1 hm
      rw [packB_data]
      exact List.mem_mergeSort.1 hx
    · intro hm
      exact List.mem_map.2 ⟨_, List.mem_mergeSort.2 hm, packB_of s⟩
/-! ### The map of jobs -/
theorem law3 : Keyed Tryz.prog 3 := int_keyed Tryz.underlying3
theorem zero3 (w : World) : (zeroValue 3).run Tryz.prog w = .ok (.int .i64 0) w := by kernel_rfl
theorem wf64 {x : Int} (h : -9223372036854775808 ≤ x ∧ x ≤ 9223372036854775807) : (Lit.int .i64 x).wf = true := by
  simp only [Lit.wf, IntKind.min, IntKind.max, IntKind.signed, IntKind.bits, Bool.and_eq_true, decide_eq_true_eq, if_true]
  omega
/-- Block b is a map of at most n jobs: each of js, each once, with its place. -/
def JAt (w : World) (b n : Nat) (js : List Int) : Prop :=
  ∃ D : DataW Unit, w.ownsMap Tryz.prog 3 (plainElem Tryz.prog 3) b n D ∧ ∀ x, (Maps.has D (.int .i64 x) = js.contains x) ∧ ∀ z, js.contains x = true → D.atKey (.int .i64 x) z = .lit (.int .i64 (js.idxOf x))
theorem JAt.made (w : World) : JAt (w.alloc (.map #[] 0)) w.heap.size 0 [] := ⟨_, World.ownsMap_made w _ _ _, fun _ => ⟨rfl, fun _ h => by simp at h⟩⟩
theorem JAt.lt {w : World} {b n : Nat} {js : List Int} (h : JAt w b n js) : b < w.heap.size := h.choose_spec.1.lt
theorem JAt.kept {w w' : World} {b n : Nat} {js : List Int} {row : Option Nat} (h : JAt w b n js) (hg : w.grownBy w' row) (hne : some b ≠ row) : JAt w' b n js := by
  obtain ⟨D, h1, h2⟩ := h
  exact ⟨D, h1.kept hg hne, h2⟩
theorem JAt.below {w w' : World} {b n : Nat} {js : List Int} (h : JAt w b n js) (hb : Below w.heap.size w w') : JAt w' b n js := h.kept (grown_of_below hb none) (by simp)
def jv (js : List Int) (x : Int) : Int := if js.contains x then (js.idxOf x : Int) else 0
theorem JAt.look {w : World} {b n : Nat} {js : List Int} {x : Int} (h : JAt w b n js) (ht : Tryz.prog.underlying 82 = some (.map 3 3)) (hx : -9223372036854775808 ≤ x ∧ x ≤ 9223372036854775807) :
    (Instr.lookup 82 (.map (some b)) (.int .i64 x) true).run Tryz.prog w = .ok (.tuple #[.int .i64 (jv js x), .bool (js.contains x)]) w := by
  obtain ⟨D, h1, h2⟩ := h
  obtain ⟨v, ps, hrun, hR⟩ := h1.look_ok law3 ht (zero3 w) (plainElem_int Tryz.underlying3 (wf64 (x := 0) (by omega))) (keyOf_int_mk Tryz.underlying3 (wf64 hx))
  obtain ⟨h3, h4⟩ := h2 x
  rw [hrun, h3]
  obtain ⟨c, rfl, hc, _⟩ := plainElem_int_inv Tryz.underlying3 hR
  simp only [Prod.mk.injEq] at hc
  unfold jv
  cases hj : js.contains x with
  | true =>
    rw [h4 _ hj] at hc
    have := hc.1
    simp only [DataW.lit.injEq, Lit.int.injEq, true_and] at this
    rw [if_pos rfl, this]
  | false =>
    rw [hj] at h3
    rw [atKey_of_not_has h3] at hc
    have := hc.1
    simp only [DataW.lit.injEq, Lit.int.injEq, true_and] at this
    rw [if_neg (by simp), ← this]
section
variable (w : World) {ops : Array Oper} {rest : List Oper} {o : Oper} {a : Act} {Q : Exit → Act → World → Prop}
theorem wpList_lookup_j (hg : o.guard = none) (m x : Operand) (hop : o.op = Op.lookup 82 m x true) (ht : Tryz.prog.underlying 82 = some (.map 3 3)) (b n : Nat) (js : List Int)
    (hm : a.eval m = .map (some b)) (hown : JAt w b n js) (j : Int) (hj : -9223372036854775808 ≤ j ∧ j ≤ 9223372036854775807) (hx : a.eval x = .int .i64 j)
    (hK : wpList Tryz.prog ops Q rest (a.put o.dst (.tuple #[.int .i64 (jv js j), .bool (js.contains j)])) w) : wpList Tryz.prog ops Q (o :: rest) a w := by
  refine wpList_plain hg fun K' hK' => ?_
  have hrun := hown.look ht hj
  generalize js.contains j = t at hrun hK
  unfold Oper.wp
  simp [execOp, hop, hm, hx, hrun, Result.andThen]
  exact hK' _ _ hK
theorem idxOf_snoc {js : List Int} {x y : Int} (h : js.contains x = false) : (js ++ [x]).idxOf y = if js.contains y then js.idxOf y else if y = x then js.length else js.length + 1 := by
  rw [List.idxOf_append]
  by_cases hy : y ∈ js
  · rw [if_pos hy, if_pos (by simpa using hy)]
  · rw [if_neg hy, if_neg (by simpa using hy)]
    by_cases e : y = x
    · subst e; rw [if_pos rfl]; simp
    · rw [if_neg e]; have e2 : (x == y) = false := beq_eq_false_iff_ne.2 (fun h => e h.symm); simp [List.idxOf_cons, e2]; omega
theorem JAt.put {w w' : World} {b n : Nat} {D : DataW Unit} {js : List Int} {x : Int} (h1 : w.ownsMap Tryz.prog 3 (plainElem Tryz.prog 3) b n D) (h2 : ∀ y, (Maps.has D (.int .i64 y) = js.contains y) ∧ ∀ z, js.contains y = true → D.atKey (.int .i64 y) z = .lit (.int .i64 (js.idxOf y))) (hx : -9223372036854775808 ≤ x ∧ x ≤ 9223372036854775807) (hn : js.contains x = false)
    (hw : w'.ownsMap Tryz.prog 3 (plainElem Tryz.prog 3) b (n + 1) (D.put (.int .i64 x) (.lit (.int .i64 (js.length : Int))))) : JAt w' b (n + 1) (js ++ [x]) := by
  have hk : WideAt.IsKeyLit (.int .i64 x) := law3.key (keyOf_int_mk (P := Tryz.prog) Tryz.underlying3 (wf64 hx))
  refine ⟨_, hw, fun y => ?_⟩
  by_cases e : y = x
  · subst e
    refine ⟨by rw [has_put_same h1.isMap hk]; simp, fun z _ => ?_⟩
    rw [atKey_put_same h1.isMap hk, idxOf_snoc hn, if_neg (by rw [hn]; simp), if_pos rfl]
  · have hne : Lit.int .i64 y ≠ Lit.int .i64 x := fun h => e (by injection h)
    obtain ⟨h3, h4⟩ := h2 y
    refine ⟨by rw [has_put_other hne, h3]; simp [e], fun z hz => ?_⟩
    have hy : js.contains y = true := by simpa [e] using hz
    rw [atKey_put_other hne, h4 _ hy, idxOf_snoc hn, if_pos hy]
theorem wpList_update_j (hg : o.guard = none) (m x v : Operand) (hop : o.op = Op.mapUpdate 82 m x v) (ht : Tryz.prog.underlying 82 = some (.map 3 3)) (b n : Nat) (js : List Int)
    (hm : a.eval m = .map (some b)) (hown : JAt w b n js) (hn : n < maxLen) (j : Int) (hj : -9223372036854775808 ≤ j ∧ j ≤ 9223372036854775807) (hnj : js.contains j = false) (hl : js.length ≤ 1000000) (hx : a.eval x = .int .i64 j) (hv : a.eval v = .int .i64 (js.length : Int))
    (hK : ∀ w', JAt w' b (n + 1) (js ++ [j]) → w.grownBy w' (some b) → wpList Tryz.prog ops Q rest (a.put o.dst undef) w') : wpList Tryz.prog ops Q (o :: rest) a w := by
  obtain ⟨D, h1, h2⟩ := hown
  exact wpList_mapUpdate_own w hg m x v 82 hop 3 3 law3 ht _ b n D hm h1 hn _ _ _ hx hv (keyOf_int_mk (P := Tryz.prog) Tryz.underlying3 (wf64 hj)) (.lit (.int .i64 (js.length : Int))) [] (plainElem_int Tryz.underlying3 (wf64 (by omega))) (fun w' hw hgw => hK w' (JAt.put h1 h2 hj hnj hw) hgw)
end
end Go.Proofs.YtkicenkljjpcfaaGreatDoor.Q
/- read of the program: what it has laid so far, and how that turns with each event (no code in sight). -/
set_option linter.unusedSimpArgs false
namespace Go.Proofs.YtkicenkljjpcfaaGreatDoor.Q
open Go.RowKit Go.Proofs.YtkicenkljjpcfaaGreatDoorW.PrintWords Go.Proofs.YtkicenkljjpcfaaGreatDoorW.PrintLast Go.Proofs.YtkicenkljjpcfaaGreatDoorW.PrintMore
theorem encS_len (s : Sp) : (encS s).length = 20 := rfl
theorem flat_len (ss : List Sp) : (ss.flatMap encS).length = ss.length * 20 := by
  induction ss with
  | nil => rfl
  | cons a l ih => rw [List.flatMap_cons, List.length_append, ih, encS_len, List.length_cons]; omega
theorem flat_get : ∀ (ss : List Sp) (j : Nat) (s : Sp) (t : Nat), ss[j]? = some s → t < 20 → (ss.flatMap encS)[j * 20 + t]? = (encS s)[t]?
  | [], j, s, t, h, _ => by simp at h
  | a :: l, 0, s, t, h, ht => by
    simp only [List.getElem?_cons_zero, Option.some.injEq] at h
    subst h
    rw [List.flatMap_cons, List.getElem?_append_left (by rw [encS_len]; omega), Nat.zero_mul, Nat.zero_add]
  | a :: l, j + 1, s, t, h, ht => by
    rw [List.getElem?_cons_succ] at h
    rw [List.flatMap_cons, List.getElem?_append_right (by rw [encS_len]; omega), encS_len, show (j + 1) * 20 + t - 20 = j * 20 + t from by omega]
    exact flat_get l j s t h ht
/-- The cells of a row's block are its spans'. -/
def Cont (cur : Array Value) (ss : List Sp) : Prop := ∀ j s, ss[j]? = some s → ∀ t, t < 20 → cur[j * 20 + t]? = (encS s)[t]?
theorem cont_of {cur : Array Value} {ss : List Sp} (h : cur.toList.take (ss.length * 20) = ss.flatMap encS) : Cont cur ss := by
  intro j s hj t ht
  have hjl : j < ss.length := (List.getElem?_eq_some_iff.1 hj).1
  rw [← flat_get ss j s t hj ht, ← h, List.getElem?_take_of_lt (by omega), Array.getElem?_toList]
theorem of_cont {cur : Array Value} {ss : List Sp} (h : Cont cur ss) (hs : ss.length * 20 ≤ cur.size) : cur.toList.take (ss.length * 20) = ss.flatMap encS := by
  apply List.ext_getElem?
  intro i
  by_cases hi : i < ss.length * 20
  · have hj : i / 20 < ss.length := by omega
    have he : i = (i / 20) * 20 + i % 20 := by omega
    rw [he, flat_get ss (i / 20) ss[i / 20] (i % 20) (List.getElem?_eq_getElem hj) (by omega), ← h (i / 20) ss[i / 20] (List.getElem?_eq_getElem hj) (i % 20) (by omega), List.getElem?_take_of_lt (by omega), Array.getElem?_toList]
  · rw [List.getElem?_eq_none (by rw [List.length_take]; omega), List.getElem?_eq_none (by rw [flat_len]; omega)]
theorem reps_flat : ∀ ss : List Sp, Reps (fun x cs => cs = encS x) 20 ss (ss.flatMap encS) := by
  intro ss
  refine ⟨flat_len ss, fun j p hj => ?_⟩
  have hjl : j < ss.length := (List.getElem?_eq_some_iff.1 hj).1
  apply List.ext_getElem?
  intro t
  by_cases ht : t < 20
  · rw [List.getElem?_take_of_lt ht, List.getElem?_drop, flat_get ss j p t hj ht]
  · rw [List.getElem?_eq_none (by rw [List.length_take]; omega), List.getElem?_eq_none (by rw [encS_len]; omega)]
theorem flat_of_reps {ss : List Sp} {cs : List Value} (h : Reps (fun x cs => cs = encS x) 20 ss cs) : cs = ss.flatMap encS := by
  obtain ⟨h1, h2⟩ := h
  apply List.ext_getElem?
  intro i
  by_cases hi : i < ss.length * 20
  · have hj : i / 20 < ss.length := by omega
    have he : i = (i / 20) * 20 + i % 20 := by omega
    have h3 := h2 (i / 20) ss[i / 20] (List.getElem?_eq_getElem hj)
    rw [he, flat_get ss (i / 20) ss[i / 20] (i % 20) (List.getElem?_eq_getElem hj) (by omega), ← h3, List.getElem?_take_of_lt (by omega), List.getElem?_drop]
  · rw [List.getElem?_eq_none (by omega), List.getElem?_eq_none (by rw [flat_len]; omega)]
theorem R_of_row {w : World} {base : Nat} {v : Value} {ss : List Sp} (h : w.ownsRow base 51 20 v ss.length (ss.flatMap encS)) : Kd.R kS 51 w base (fun _ => True) v ss := ⟨fun _ _ => trivial, _, h, reps_flat ss⟩
theorem row_of_R {w : World} {base : Nat} {v : Value} {ss : List Sp} (h : Kd.R kS 51 w base (fun _ => True) v ss) : w.ownsRow base 51 20 v ss.length (ss.flatMap encS) := by
  obtain ⟨_, inner, h1, h2⟩ := h
  have := flat_of_reps h2
  subst this
  exact h1
/-- What read has laid so far: its result's box, its history's, its map of jobs, and the row of spans. -/
structure St (w0 w : World) (gr gh gm : Nat) (n : Int) (v : Value) (ss : List Sp) (js : List Int) : Prop where
  row : w.ownsRow w0.heap.size 51 20 v ss.length (ss.flatMap encS)
  hb : w.heap[gh]? = some (.cells #[v, .int .i64 n] 47 (0, 0))
  rb : w.heap[gr]? = some (.cells #[.slice none 0 0, .int .i64 0] 47 (0, 0))
  mp : JAt w gm js.length js
  bl : Below w0.heap.size w0 w
  ge : w0.heap.size ≤ gh ∧ w0.heap.size ≤ gr ∧ w0.heap.size ≤ gm ∧ gh ≠ gr
theorem JAt.blk {w : World} {b n : Nat} {js : List Int} (h : JAt w b n js) : ∃ es c, w.heap[b]? = some (.map es c) := by
  obtain ⟨D, h1, _⟩ := h
  obtain ⟨es, clock, hb, _⟩ := h1
  exact ⟨es, clock, hb⟩
theorem map_ne_cells {w : World} {b n g t : Nat} {js : List Int} {cs : Array Value} (h : JAt w b n js) (hg : w.heap[g]? = some (.cells cs t (0, 0))) : g ≠ b := by
  rintro rfl
  obtain ⟨es, c, hb⟩ := h.blk
  rw [hg] at hb
  injection hb with hb
  cases hb
theorem map_ne_own {w : World} {b n base e size m : Nat} {js : List Int} {v : Value} {xs : List Value} (h : JAt w b n js) (ho : w.ownsRow base e size v m xs) : some b ≠ v.ownBlock := by
  rcases ho.2 with ⟨rfl, _⟩ | ⟨g, cap, cur, rfl, _, hh, _⟩
  · simp [Value.ownBlock]
  · have := map_ne_cells h hh
    simp only [Value.ownBlock, ne_eq, Option.some.injEq]
    exact fun e => this e.symm
section
variable {w0 w w1 : World} {gr gh gm : Nat} {n : Int} {v v1 : Value} {ss : List Sp} {js : List Int}
theorem St.grow (h : St w0 w gr gh gm n v ss js) (hb : Below w.heap.size w w1) : St w0 w1 gr gh gm n v ss js :=
  ⟨pw_own_below h.row hb, blk_below h.hb hb, blk_below h.rb hb, h.mp.below hb, below_step h.bl hb, h.ge⟩
theorem St.put (h : St w0 w gr gh gm n v ss js) {j : Int} (hj : JAt w1 gm (js.length + 1) (js ++ [j])) (hg : w.grownBy w1 (some gm)) : St w0 w1 gr gh gm n v ss (js ++ [j]) :=
  ⟨own_other h.row hg (.inr (fun e => map_ne_own h.mp h.row e.symm)), blk_grown h.hb hg (fun e => map_ne_cells h.mp h.hb (by injection e)), blk_grown h.rb hg (fun e => map_ne_cells h.mp h.rb (by injection e)),
    by rw [List.length_append]; exact hj, pw_below_grown h.bl _ h.bl.size hg (fun k hk => by injection hk with hk; rw [← hk]; exact h.ge.2.2.1), h.ge⟩
theorem setCell_grown (w : World) (g o : Nat) (v : Value) : w.grownBy (w.setCell ⟨g, o, none⟩ v) (some g) := setCells_grown g [v] o w
theorem St.app (h : St w0 w gr gh gm n v ss js) {p : Sp} (hr : Kd.R kS 51 w1 w0.heap.size (fun _ => True) v1 (ss ++ [p])) (hg : w.grownBy w1 v.ownBlock) (hB : Below w0.heap.size w0 w1) :
    St w0 (w1.setCell ⟨gh, 0, none⟩ v1) gr gh gm n v1 (ss ++ [p]) js := by
  have r1 := row_of_R hr
  have b1 := blk_grown h.hb hg (own_ne h.row h.hb (by decide))
  have b2 := blk_grown h.rb hg (own_ne h.row h.rb (by decide))
  refine ⟨own_setCell r1 (own_ne r1 b1 (by decide)) v1, blk_put b1 0 v1 rfl, blk_far b2 (fun e => h.ge.2.2.2 e.symm) _, ?_, below_set hB h.ge.1, h.ge⟩
  exact (h.mp.kept hg (map_ne_own h.mp h.row)).kept (setCell_grown _ _ _ _) (fun e => map_ne_cells h.mp h.hb (by injection e with e; exact e.symm))
/-- The row, opened. -/
theorem St.opened (h : St w0 w gr gh gm n v ss js) (hs : ss ≠ []) : ∃ g cap cur, v = .slice (some ⟨g, 0, none⟩) ss.length cap ∧ w0.heap.size ≤ g ∧ w.heap[g]? = some (.cells cur 51 (0, 0)) ∧ ss.length ≤ cap ∧ cap ≤ maxLen ∧ cur.size = cap * 20 ∧ Cont cur ss := by
  rcases h.row.2 with ⟨_, h2⟩ | ⟨g, cap, cur, hv, hg, hh, hc, hm, hz, ht⟩
  · exact absurd (List.length_eq_zero_iff.1 h2) hs
  · exact ⟨g, cap, cur, hv, hg, hh, hc, hm, hz, cont_of ht⟩
theorem setL_get : ∀ (vs : List Value) (cur : Array Value) (o i : Nat), o + vs.length ≤ cur.size → (setL cur o vs)[i]? = if o ≤ i ∧ i < o + vs.length then vs[i - o]? else cur[i]?
  | [], cur, o, i, _ => by rw [setL, if_neg (by simp)]
  | v :: r, cur, o, i, h => by
    simp only [List.length_cons] at h
    rw [setL, setL_get r _ _ _ (by simp; omega)]
    by_cases h1 : o + 1 ≤ i ∧ i < o + 1 + r.length
    · rw [if_pos h1, if_pos (by simp only [List.length_cons]; omega), show i - o = (i - (o + 1)) + 1 from by omega, List.getElem?_cons_succ]
    · rw [if_neg h1]
      by_cases h2 : i = o
      · subst h2
        rw [if_pos (by simp only [List.length_cons]; omega), Nat.sub_self, List.getElem?_cons_zero, Array.getElem?_setIfInBounds, if_pos rfl, if_pos (by omega)]
      · rw [if_neg (by simp only [List.length_cons]; omega), Array.getElem?_setIfInBounds, if_neg (fun e => h2 e.symm)]
/-- A span that is over: its cells. -/
theorem over_cells (c : Cm) (r0 r : Re) (b e0 e : Int) (t : Nat) (ht : t < 20) : (encS ⟨c, r, b, e, false⟩)[t]? = if t = 19 then some (.bool false) else if t = 18 then some (.int .i64 e) else if 10 ≤ t ∧ t < 17 then (encR r)[t - 10]? else (encS ⟨c, r0, b, e0, true⟩)[t]? := by
  rcases t with _ | _ | _ | _ | _ | _ | _ | _ | _ | _ | _ | _ | _ | _ | _ | _ | _ | _ | _ | _ | t <;> first | rfl | omega
set_option maxHeartbeats 2000000 in
theorem St.over (h : St w0 w gr gh gm n v ss js) {g cap : Nat} {cur : Array Value} {j : Nat} {c : Cm} {r0 r : Re} {b e0 e : Int} (hv : v = .slice (some ⟨g, 0, none⟩) ss.length cap) (hg : w0.heap.size ≤ g) (hh : w.heap[g]? = some (.cells cur 51 (0, 0))) (hc : ss.length ≤ cap) (hm : cap ≤ maxLen) (hz : cur.size = cap * 20) (hC : Cont cur ss)
    (hj : ss[j]? = some ⟨c, r0, b, e0, true⟩) (h1 : w1.heap[g]? = some (.cells (setL cur (j * 20 + 10) (encR r)) 51 (0, 0))) (h2 : w.grownBy w1 (some g)) :
    St w0 ((w1.setCell ⟨g, j * 20 + 18, none⟩ (.int .i64 e)).setCell ⟨g, j * 20 + 19, none⟩ (.bool false)) gr gh gm n v (ss.set j ⟨c, r, b, e, false⟩) js := by
  have hjl : j < ss.length := (List.getElem?_eq_some_iff.1 hj).1
  have ho : v.ownBlock = some g := by rw [hv]; rfl
  have b1 := blk_set (blk_set h1 (j * 20 + 18) (.int .i64 e)) (j * 20 + 19) (.bool false)
  have G := (h2.trans (setCell_grown w1 g (j * 20 + 18) (.int .i64 e))).trans (setCell_grown (w1.setCell ⟨g, j * 20 + 18, none⟩ (.int .i64 e)) g (j * 20 + 19) (.bool false))
  have ngh : some gh ≠ some g := by have := own_ne h.row h.hb (by decide); rwa [ho] at this
  have ngr : some gr ≠ some g := by have := own_ne h.row h.rb (by decide); rwa [ho] at this
  have ngm : some gm ≠ some g := by have := map_ne_own h.mp h.row; rwa [ho] at this
  have hz1 : (setL cur (j * 20 + 10) (encR r)).size = cap * 20 := by rw [setL_size, hz]
  refine ⟨?_, blk_grown h.hb G ngh, blk_grown h.rb G ngr, h.mp.kept G ngm, pw_below_grown h.bl _ h.bl.size G (fun k hk => by injection hk with hk; rw [← hk]; exact hg), h.ge⟩
  refine ⟨flat_len _, .inr ⟨g, cap, _, by rw [hv, List.length_set], hg, b1, by rw [List.length_set]; exact hc, hm, by simp [hz1], of_cont ?_ (by simp [hz1]; omega)⟩⟩
  intro i s hi t ht
  have hil : i < ss.length := by have := (List.getElem?_eq_some_iff.1 hi).1; rwa [List.length_set] at this
  rw [Array.getElem?_setIfInBounds, Array.getElem?_setIfInBounds, setL_get _ _ _ _ (by show j * 20 + 10 + 7 ≤ _; omega), Array.size_setIfInBounds, hz1]
  by_cases he : i = j
  · subst he
    rw [List.getElem?_set_self hil] at hi
    have hi := Option.some.inj hi
    rw [← hi, over_cells c r0 r b e0 e t ht]
    by_cases h19 : t = 19
    · rw [if_pos h19, if_pos (by omega), if_pos (by omega)]
    · rw [if_neg h19, if_neg (by omega)]
      by_cases h18 : t = 18
      · rw [if_pos h18, if_pos (by omega), if_pos (by omega)]
      · rw [if_neg h18, if_neg (by omega)]
        by_cases h10 : 10 ≤ t ∧ t < 17
        · rw [if_pos h10, if_pos (by show _ ∧ _ < i * 20 + 10 + 7; omega), show i * 20 + t - (i * 20 + 10) = t - 10 from by omega]
        · rw [if_neg h10, if_neg (by show ¬ (_ ∧ _ < i * 20 + 10 + 7); omega)]
          exact hC i _ hj t ht
  · rw [List.getElem?_set_ne (fun e => he e.symm)] at hi
    have hd : i * 20 + t < j * 20 ∨ j * 20 + 20 ≤ i * 20 + t := by omega
    rw [if_neg (by omega), if_neg (by omega), if_neg (by show ¬ (_ ∧ _ < j * 20 + 10 + 7); omega)]
    exact hC i s hi t ht
end
/-! ### What read makes of events -/
def badE (x : Ev) : Bool := decide (x.job < 1) || decide (x.c.kind < 1) || decide (11 < x.c.kind)
def endsAt (ss : List Sp) (j : Nat) (i : Int) (x : Ev) : Option (List Sp) := match ss[j]? with
  | none => none
  | some s => if !s.op || s.c.kind != x.c.kind then none else some (ss.set j ⟨s.c, x.r, s.b, i, false⟩)
def readStep (n : Int) (st : List Sp × List Int) (i : Int) (x : Ev) : Option (List Sp × List Int) :=
  if badE x then none
  else if x.beg then (if st.2.contains x.job then none else some (st.1 ++ [⟨x.c, zeroRe, i, n, true⟩], st.2 ++ [x.job]))
  else if st.2.contains x.job then (endsAt st.1 (st.2.idxOf x.job) i x).map (·, st.2)
  else none
def readK (l : List Ev) : Nat → Option (List Sp × List Int)
  | 0 => some ([], [])
  | k + 1 => (readK l k).bind fun st => match l[k]? with
    | none => some st
    | some x => readStep (l.length : Int) st (k : Int) x
def readP (l : List Ev) : Option (List Sp) := (readK l l.length).map (·.1)
theorem readK_at {l : List Ev} {k : Nat} {x : Ev} {st : List Sp × List Int} (h : readK l k = some st) (hx : l[k]? = some x) : readK l (k + 1) = readStep (l.length : Int) st (k : Int) x := by
  show (readK l k).bind _ = _
  rw [h, Option.bind_some, hx]
theorem readK_no {l : List Ev} {k : Nat} (h : readK l k = none) : ∀ d, readK l (k + d) = none
  | 0 => h
  | d + 1 => by
    show (readK l (k + d)).bind _ = none
    rw [readK_no h d]; rfl
theorem readP_no {l : List Ev} {k : Nat} (hk : k ≤ l.length) (h : readK l k = none) : readP l = none := by
  obtain ⟨d, hd⟩ := Nat.exists_eq_add_of_le hk
  unfold readP; rw [hd, readK_no h d]; rfl
theorem readK_len (l : List Ev) : ∀ k st, readK l k = some st → st.1.length = st.2.length ∧ st.1.length ≤ k
  | 0, st, h => by
    have : some (([] : List Sp), ([] : List Int)) = some st := h
    injection this with this
    rw [← this]; exact ⟨rfl, Nat.le_refl _⟩
  | k + 1, st, h => by
    cases h1 : readK l k with
    | none => rw [readK_no h1 1] at h; cases h
    | some s0 =>
      obtain ⟨i1, i2⟩ := readK_len l k s0 h1
      cases hx : l[k]? with
      | none =>
        have h2 : readK l (k + 1) = some s0 := by show (readK l k).bind _ = _; rw [h1, Option.bind_some, hx]
        rw [h2] at h; injection h with h; rw [← h]; exact ⟨i1, by omega⟩
      | some x =>
        rw [readK_at h1 hx] at h
        unfold readStep at h
        split at h
        · cases h
        · split at h
          · split at h
            · cases h
            · injection h with h; rw [← h]; simp; omega
          · split at h
            · obtain ⟨q, hq, rfl⟩ := Option.map_eq_some_iff.1 h
              unfold endsAt at hq
              split at hq
              · cases hq
              · split at hq
                · cases hq
                · injection hq with hq; rw [← hq]; simp; omega
            · cases h
end Go.Proofs.YtkicenkljjpcfaaGreatDoor.Q
/- read of the program, walked. -/
set_option linter.unusedSimpArgs false
namespace Go.Proofs.YtkicenkljjpcfaaGreatDoor.Q
open Go.RowKit Go.Maps Go.Proofs.YtkicenkljjpcfaaGreatDoorW.PrintWords Go.Proofs.YtkicenkljjpcfaaGreatDoorW.PrintLast Go.Proofs.YtkicenkljjpcfaaGreatDoorW.PrintMore
attribute [local go_sem] add_off
theorem s34 : (Tryz.prog.info? 34).map (·.size) = some 19 := by kernel_rfl
theorem info51 : (Tryz.prog.info? 51).map (fun i => (i.zero, i.size, i.bytes)) = some (some (.agg #[(.int .i64 0), (.slice none 0 0), (.int .i64 0), (.string ⟨#[]⟩), (.string ⟨#[]⟩), (.slice none 0 0), (.string ⟨#[]⟩), (.slice none 0 0), (.int .i64 0), (.bool false), (.int .i64 0), (.string ⟨#[]⟩), (.int .i64 0), (.slice none 0 0), (.slice none 0 0), (.slice none 0 0), (.slice none 0 0), (.int .i64 0), (.int .i64 0), (.bool false)]), 20, 304) := by kernel_rfl
theorem z47_one : ∀ v ∈ ([.slice none 0 0, .int .i64 0] : List Value), v.oneCell' = true := by
  intro v hv
  simp only [List.mem_cons, List.not_mem_nil, or_false] at hv
  rcases hv with rfl | rfl <;> rfl
theorem v47_one {A : Option Addr} {n c : Nat} {m : Int} : ∀ v ∈ ([.slice A n c, .int .i64 m] : List Value), v.oneCell' = true := by
  intro v hv
  simp only [List.mem_cons, List.not_mem_nil, or_false] at hv
  rcases hv with rfl | rfl <;> rfl
theorem results15 {fn : Func} {t u : Tmp} {ty : TypeId} (h : fn.results = #[.cell t ty, .tmp u]) (tmps : Array Value) {P : Program} {w : World} (ad : Addr) (hp : tmps.getD t undef = .pointer (some ad)) {v : Value} (hl : (loadVar ty ad).run P w = .ok v w) :
    (results fn tmps).run P w = .ok (.tuple #[v, tmps.getD u undef]) w := by
  have hp2 : tmps[t]?.getD undef = .pointer (some ad) := by rw [← Array.getD_eq_getD_getElem?]; exact hp
  simp [results, h, hp2, asAddr, Sem.run_bind, hl]
theorem cells_blk_off {w : World} {g o : Nat} {t : TypeId} {cs ds : List Value} (h : w.heap[g]? = some (.cells cs.toArray t (0, 0))) (hd : ∀ j v, ds[j]? = some v → cs[j + o]? = some v) : ∀ j v, ds[j]? = some v → w.cell? ((⟨g, o, none⟩ : Addr).add j) = some v := fun j v hv => by
  rw [Addr.add_mid, blk_cell h]
  have := hd j v hv
  rw [Nat.add_comm] at this
  simpa using this
theorem setL_end {w : World} {g j : Nat} {cur : Array Value} {ss : List Sp} {s : Sp} {r : Re} {k : Int} (h : w.heap[g]? = some (.cells (setL cur (j * 20 + 10) (encR r)) 51 (0, 0))) (hz : j * 20 + 20 ≤ cur.size) (hC : Cont cur ss) (hj : ss[j]? = some s) (hz2 : j * 20 + 17 ≤ cur.size) :
    w.cell? ⟨g, j * 20 + 18, none⟩ = some (.int .i64 s.e) ∧ (w.setCell ⟨g, j * 20 + 18, none⟩ (.int .i64 k)).cell? ⟨g, j * 20 + 19, none⟩ = some (.bool s.op) := by
  refine ⟨(blk_cell h _).trans ?_, (blk_cell (blk_set h (j * 20 + 18) (.int .i64 k)) _).trans ?_⟩
  · rw [setL_get _ _ _ _ (by show j * 20 + 10 + 7 ≤ _; omega), if_neg (by show ¬ (_ ∧ _ < j * 20 + 10 + 7); omega)]
    exact hC j s hj 18 (by omega)
  · rw [Array.getElem?_setIfInBounds, if_neg (by omega), setL_get _ _ _ _ (by show j * 20 + 10 + 7 ≤ _; omega), if_neg (by show ¬ (_ ∧ _ < j * 20 + 10 + 7); omega)]
    exact hC j s hj 19 (by omega)
theorem jv_yes {js : List Int} {x : Int} (h : js.contains x = true) : jv js x = ((js.idxOf x : Nat) : Int) := by unfold jv; rw [if_pos h]
theorem jv_no {js : List Int} {x : Int} (h : js.contains x = false) : jv js x = 0 := by unfold jv; rw [if_neg (by rw [h]; decide)]
/-- What read answers. -/
def ReadOk (l : List Ev) (w w' : World) (v : Value) (n : Int) (b : Bool) : Prop := match readP l with
  | none => b = false ∧ v = .slice none 0 0 ∧ n = 0
  | some ss => b = true ∧ n = (l.length : Int) ∧ Kd.R kS 51 w' w.heap.size (fun _ => True) v ss
theorem ReadOk.no {l : List Ev} {w w' : World} (h : readP l = none) : ReadOk l w w' (.slice none 0 0) 0 false := by unfold ReadOk; rw [h]; exact ⟨rfl, rfl, rfl⟩
theorem ReadOk.yes {l : List Ev} {w w' : World} {v : Value} {ss : List Sp} (h : readP l = some ss) (hr : Kd.R kS 51 w' w.heap.size (fun _ => True) v ss) : ReadOk l w w' v l.length true := by unfold ReadOk; rw [h]; exact ⟨rfl, rfl, hr⟩
set_option maxHeartbeats 16000000 in
set_option maxRecDepth 100000 in
theorem read_calls (A : Option Addr) (c : Nat) (l : List Ev) (w : World) (h : Kd.C kE w A l.length l) (hl : l.length ≤ 1000) (hj : ∀ x ∈ l, -9223372036854775808 ≤ x.job ∧ x.job ≤ 9223372036854775807) :
    Calls Tryz.prog 15 #[.slice A l.length c] w fun e w' => ∃ v n b, e = .returned (.tuple #[.agg #[v, .int .i64 n], .bool b]) ∧ Below w.heap.size w w' ∧ ReadOk l w w' v n b := by
  have HC := Aside0.mk h
  have HJJ := Aside0.mk hj
  clear h hj
  have HS0 : Aside0 (St w (((w.alloc (.cells #[.slice none 0 0, .int .i64 0] 47)).alloc (.map #[] 0)).alloc (.cells #[.slice none 0 0, .int .i64 (l.length : Int)] 47)) w.heap.size (w.heap.size + 1 + 1) (w.heap.size + 1) (l.length : Int) (.slice none 0 0) [] []) := ⟨⟨own_nil _ _ _ _, blk_new (by simp), blk_old (blk_old (blk_new rfl)), ((JAt.made (w.alloc (.cells #[.slice none 0 0, .int .i64 0] 47))).below (below_alloc (Below.refl _ _) _) |> fun h => by simpa using h), below_alloc (below_alloc (below_alloc (Below.refl _ _) _) _) _, by omega⟩⟩
  have hmm := @run_makeMap Tryz.prog
  go_enter Tryz.func15, Tryz.ntmps15
  go_wp2_with (fail)
  generalize (((w.alloc (.cells #[.slice none 0 0, .int .i64 0] 47)).alloc (.map #[] 0)).alloc (.cells #[.slice none 0 0, .int .i64 (l.length : Int)] 47)) = W0 at HS0 ⊢
  generalize w.heap.size + 1 + 1 = gh at HS0 ⊢
  generalize w.heap.size + 1 = gm at HS0 ⊢
  obtain ⟨gr, hgr⟩ : ∃ g, g = w.heap.size := ⟨_, rfl⟩
  rw [show St w W0 w.heap.size = St w W0 gr from by rw [hgr]] at HS0
  rw [← hgr]
  clear hgr hmm
  go_loopw [17] (fun v17 wr => ∃ k : Nat, k ≤ l.length ∧ v17 = .int .i64 k ∧ ∃ ss js v, Aside0 (readK l k = some (ss, js)) ∧ Aside0 (St w wr gr gh gm (l.length : Int) v ss js)) (fun v17 _ => l.length - (intOf v17).toNat)
  case atStart => exact ⟨0, Nat.zero_le _, rfl, [], [], _, ⟨rfl⟩, HS0⟩
  case round =>
    clear HS0
    obtain ⟨k, hk, rfl, ss, js, v, HR, HS⟩ := hrel
    have HSL : Aside0 (ss.length = js.length) := ⟨(readK_len l k _ HR.out).1⟩
    obtain ⟨Av, cv, hv⟩ := own_slice HS.out.row
    subst hv
    by_cases hlt : k < l.length
    · obtain ⟨x, hx⟩ : ∃ r, l[k]? = some r := ⟨_, List.getElem?_eq_getElem hlt⟩
      obtain ⟨ad, rfl, hcell⟩ := cellsE (Kd.C_below HC.out HS.out.bl) k hlt x hx
      have HCE := Aside0.mk hcell
      have HM := Aside0.mk hx
      have HJ := Aside0.mk (HJJ.out x (List.mem_of_getElem? hx))
      have hml : k < maxLen := by unfold maxLen; omega
      have HLJ : Aside0 (js.length ≤ 1000) := ⟨Nat.le_trans (Nat.le_of_eq HSL.out.symm) (Nat.le_trans (readK_len l k _ HR.out).2 (by omega))⟩
      clear hcell hx
      go_upto_region 6 with (first | ((with_reducible refine gate_dst (N := 21) rfl ?_); refine wpList_load_any (by rfl) 34 (.tmp 20) rfl (ad.add (k * 19)) rfl (encE x) _ (HCE.out) Tryz.underlying34 rfl s34 ?_) | ((with_reducible refine gate_dst (N := 7) rfl ?_); refine box_event ?hg (N := 7) ?hd (cs := #[.int .i64 0, .bool false, .int .i64 0, .slice none 0 0, .int .i64 0, .string ⟨#[]⟩, .string ⟨#[]⟩, .slice none 0 0, .string ⟨#[]⟩, .slice none 0 0, .int .i64 0, .bool false, .int .i64 0, .string ⟨#[]⟩, .int .i64 0, .slice none 0 0, .slice none 0 0, .slice none 0 0, .slice none 0 0]) (t := 34) ?hr ?_; (case hd => rfl); (case hg => rfl); (case hr => first | (go_simp; done) | (go_simp; rfl)); intro gx hg wx hbox hb; have HZ := Aside0.mk hbox; have HGX := Aside0.mk hg; have HBX := Aside0.mk hb; clear hg hbox hb) | (refine wpList_store_new rfl 34 (.tmp 7) (.tmp 21) rfl gx _ (encE x) 34 rfl rfl HZ.out rfl s34 (encE_one x) ?_; intro wy hy1 hy2; have HX := Aside0.mk hy1; have HBY : Aside0 (Below wr.heap.size wr wy) := ⟨below_grown HBX.out hy2 HBX.out.size (fun k hk => by injection hk with hk; rw [← hk, HGX.out]; exact Nat.le_refl _)⟩; clear hy1 hy2 HZ HBX))
      have HS1 := Aside0.mk (HS.out.grow HBY.out)
      clear HGX HBY HS HCE
      have x0 : wy.cell? ⟨gx, 0, none⟩ = some (.int .i64 x.job) := (blk_cell HX.out 0).trans rfl
      have x1 : wy.cell? ⟨gx, 1, none⟩ = some (.bool x.beg) := (blk_cell HX.out 1).trans rfl
      have x2 : wy.cell? ⟨gx, 2, none⟩ = some (.int .i64 x.c.kind) := (blk_cell HX.out 2).trans rfl
      have hs0 : wy.cell? ⟨gh, 0, none⟩ = some (.slice Av ss.length cv) := (blk_cell HS1.out.hb 0).trans rfl
      have hs1 : wy.cell? ⟨gh, 1, none⟩ = some (.int .i64 (l.length : Int)) := (blk_cell HS1.out.hb 1).trans rfl
      cases hb1 : decide (x.job < 1) with
      | true =>
        have HNO : Aside0 (readP l = none) := ⟨readP_no (k := k + 1) hlt (by rw [readK_at HR.out HM.out]; unfold readStep; unfold badE; rw [hb1]; rfl)⟩
        go_wp2_with ((refine wpList_store_off rfl 47 (.tmp 2) (.tmp 37) rfl gr 0 _ [.slice none 0 0, .int .i64 0] 47 rfl rfl HS1.out.rb (by show 0 + 2 ≤ 2; omega) s47 (z47_one) ?_; intro wz hz1 hz2; have HZ1 : Aside0 (wz.heap[gr]? = some (.cells ([.slice none 0 0, .int .i64 0] : List Value).toArray 47 (0, 0))) := ⟨hz1⟩; have HZG := Aside0.mk hz2; have HZB : Aside0 (Below w.heap.size w wz) := ⟨pw_below_grown HS1.out.bl _ HS1.out.bl.size hz2 (fun k hk => by injection hk with hk; rw [← hk]; exact HS1.out.ge.2.1)⟩; clear hz1 hz2))
        (try simp only [Exit.inBlock, Exit.then])
        refine bodyPost_ret (results15 rfl _ ⟨gr, 0, none⟩ rfl (run_load_any wz _ 47 [.slice none 0 0, .int .i64 0] _ (cells_blk HZ1.out) Tryz.underlying47 rfl s47)) rfl ?_
        exact ⟨_, _, _, rfl, HZB.out, ReadOk.no HNO.out⟩
      | false =>
        cases hb2 : decide (x.c.kind < 1) with
        | true =>
          have HNO : Aside0 (readP l = none) := ⟨readP_no (k := k + 1) hlt (by rw [readK_at HR.out HM.out]; unfold readStep; unfold badE; rw [hb1, hb2]; rfl)⟩
          go_wp2_with ((refine wpList_store_off rfl 47 (.tmp 2) (.tmp 37) rfl gr 0 _ [.slice none 0 0, .int .i64 0] 47 rfl rfl HS1.out.rb (by show 0 + 2 ≤ 2; omega) s47 (z47_one) ?_; intro wz hz1 hz2; have HZ1 : Aside0 (wz.heap[gr]? = some (.cells ([.slice none 0 0, .int .i64 0] : List Value).toArray 47 (0, 0))) := ⟨hz1⟩; have HZG := Aside0.mk hz2; have HZB : Aside0 (Below w.heap.size w wz) := ⟨pw_below_grown HS1.out.bl _ HS1.out.bl.size hz2 (fun k hk => by injection hk with hk; rw [← hk]; exact HS1.out.ge.2.1)⟩; clear hz1 hz2))
          (try simp only [Exit.inBlock, Exit.then])
          refine bodyPost_ret (results15 rfl _ ⟨gr, 0, none⟩ rfl (run_load_any wz _ 47 [.slice none 0 0, .int .i64 0] _ (cells_blk HZ1.out) Tryz.underlying47 rfl s47)) rfl ?_
          exact ⟨_, _, _, rfl, HZB.out, ReadOk.no HNO.out⟩
        | false =>
          cases hb3 : decide (11 < x.c.kind) with
          | true =>
            have HNO : Aside0 (readP l = none) := ⟨readP_no (k := k + 1) hlt (by rw [readK_at HR.out HM.out]; unfold readStep; unfold badE; rw [hb1, hb2, hb3]; rfl)⟩
            go_wp2_with ((refine wpList_store_off rfl 47 (.tmp 2) (.tmp 37) rfl gr 0 _ [.slice none 0 0, .int .i64 0] 47 rfl rfl HS1.out.rb (by show 0 + 2 ≤ 2; omega) s47 (z47_one) ?_; intro wz hz1 hz2; have HZ1 : Aside0 (wz.heap[gr]? = some (.cells ([.slice none 0 0, .int .i64 0] : List Value).toArray 47 (0, 0))) := ⟨hz1⟩; have HZG := Aside0.mk hz2; have HZB : Aside0 (Below w.heap.size w wz) := ⟨pw_below_grown HS1.out.bl _ HS1.out.bl.size hz2 (fun k hk => by injection hk with hk; rw [← hk]; exact HS1.out.ge.2.1)⟩; clear hz1 hz2))
            (try simp only [Exit.inBlock, Exit.then])
            refine bodyPost_ret (results15 rfl _ ⟨gr, 0, none⟩ rfl (run_load_any wz _ 47 [.slice none 0 0, .int .i64 0] _ (cells_blk HZ1.out) Tryz.underlying47 rfl s47)) rfl ?_
            exact ⟨_, _, _, rfl, HZB.out, ReadOk.no HNO.out⟩
          | false =>
            have HNB : Aside0 (badE x = false) := ⟨by unfold badE; rw [hb1, hb2, hb3]; rfl⟩
            cases hbg : x.beg with
            | true =>
              rw [hbg] at x1
              cases hth : js.contains x.job with
              | true =>
                have hjv := jv_yes hth
                have HNO : Aside0 (readP l = none) := ⟨readP_no (k := k + 1) hlt (by rw [readK_at HR.out HM.out]; unfold readStep; rw [HNB.out, if_neg (by decide), hbg, if_pos rfl, hth, if_pos rfl])⟩
                go_wp2_with (first | (at_lookup; refine wpList_lookup_j _ rfl _ _ rfl Tryz.underlying82 gm js.length js rfl HS1.out.mp x.job HJ.out rfl ?_; rw [hth, hjv]) | (refine wpList_store_off rfl 47 (.tmp 2) (.tmp 67) rfl gr 0 _ [.slice none 0 0, .int .i64 0] 47 rfl rfl HS1.out.rb (by show 0 + 2 ≤ 2; omega) s47 (z47_one) ?_; intro wz hz1 hz2; have HZ1 : Aside0 (wz.heap[gr]? = some (.cells ([.slice none 0 0, .int .i64 0] : List Value).toArray 47 (0, 0))) := ⟨hz1⟩; have HZG := Aside0.mk hz2; have HZB : Aside0 (Below w.heap.size w wz) := ⟨pw_below_grown HS1.out.bl _ HS1.out.bl.size hz2 (fun k hk => by injection hk with hk; rw [← hk]; exact HS1.out.ge.2.1)⟩; clear hz1 hz2))
                (try simp only [Exit.inBlock, Exit.then])
                refine bodyPost_ret (results15 rfl _ ⟨gr, 0, none⟩ rfl (run_load_any wz _ 47 [.slice none 0 0, .int .i64 0] _ (cells_blk HZ1.out) Tryz.underlying47 rfl s47)) rfl ?_
                exact ⟨_, _, _, rfl, HZB.out, ReadOk.no HNO.out⟩
              | false =>
                have hjv := jv_no hth
                have HNX : Aside0 (readK l (k + 1) = some (ss ++ [(⟨x.c, zeroRe, (k : Int), (l.length : Int), true⟩ : Sp)], js ++ [x.job])) := ⟨by rw [readK_at HR.out HM.out]; unfold readStep; rw [HNB.out, if_neg (by decide), hbg, if_pos rfl, hth]; rfl⟩
                go_wp2_with (first | (at_lookup; refine wpList_lookup_j _ rfl _ _ rfl Tryz.underlying82 gm js.length js rfl HS1.out.mp x.job HJ.out rfl ?_; rw [hth, hjv]) | (at_mapUpdate; refine wpList_update_j _ rfl _ _ _ rfl Tryz.underlying82 gm js.length js rfl HS1.out.mp (by have := HLJ.out; unfold maxLen; omega) x.job HJ.out hth (by have := HLJ.out; omega) rfl (by show Value.int .i64 (ss.length : Int) = _; rw [HSL.out]) ?_; intro w5 hj5 hg5; have HS5 := Aside0.mk (HS1.out.put hj5 hg5); have HX5 := Aside0.mk (blk_grown HX.out hg5 (fun e => map_ne_cells HS1.out.mp HX.out (by injection e))); have h5a : w5.cell? ⟨gh, 0, none⟩ = some (.slice Av ss.length cv) := (blk_cell HS5.out.hb 0).trans rfl; clear hj5 hg5 HS1 HX hs0 hs1 x0 x1 x2) | ((with_reducible refine gate_dst (N := 80) rfl ?_); refine wpList_load_any (by rfl) 28 (.tmp 79) rfl ⟨gx, 2, none⟩ rfl (encC x.c) _ (cells_blk_off HX5.out (fun _ _ h => evC h)) Tryz.underlying28 rfl s28 ?_) | ((with_reducible refine gate_builtin (b := .append) (xs := #[.tmp 78, .tmp 85]) rfl ?_); at_builtin; refine Kd.R_append kS (w0 := w) w.heap.size rfl (.tmp 78) (.tmp 85) 45 51 (.agg #[(.int .i64 0), (.slice none 0 0), (.int .i64 0), (.string ⟨#[]⟩), (.string ⟨#[]⟩), (.slice none 0 0), (.string ⟨#[]⟩), (.slice none 0 0), (.int .i64 0), (.bool false), (.int .i64 0), (.string ⟨#[]⟩), (.int .i64 0), (.slice none 0 0), (.slice none 0 0), (.slice none 0 0), (.slice none 0 0), (.int .i64 0), (.int .i64 0), (.bool false)]) 304 rfl Tryz.underlying45 info51 rfl (by decide) (by omega) (.slice Av ss.length cv) ss (⟨x.c, zeroRe, (k : Int), (l.length : Int), true⟩ : Sp) (encS (⟨x.c, zeroRe, (k : Int), (l.length : Int), true⟩ : Sp)) (fun _ => True) (fun _ => False) rfl rfl ?aP (fun _ hk => hk.elim) ?aF ?aO ?aB ?aS ?aL ?_; (case aP => exact rfl); (case aB => exact HS5.out.bl); (case aF => exact fun _ _ => trivial); (case aO => exact R_of_row HS5.out.row); (case aS => exact below_size HS5.out.bl); (case aL => have := HLJ.out; have := HSL.out; omega); intro v9 w9 ho hb hg hat; have HS9 := Aside0.mk (HS5.out.app ho hg hb); have hb9 := blk_grown HS5.out.hb hg (own_ne HS5.out.row HS5.out.hb (by decide)); obtain ⟨A9, c9, hv9⟩ := Kd.R_slice ho; rw [List.length_append, List.length_singleton] at hv9; subst hv9; have h9a : w9.cell? ⟨gh, 0, none⟩ = some (.slice Av ss.length cv) := (blk_cell hb9 0).trans rfl; have h9b := blk_frozen hb9 0; clear ho hb hg hat hb9 HS5 h5a))
                go_roundw
                case rel => exact ⟨k + 1, hlt, by go_simp, _, _, _, HNX, HS9⟩
                case measure => simp [intOf]; omega
            | false =>
              rw [hbg] at x1
              cases hth : js.contains x.job with
              | false =>
                have hjv := jv_no hth
                have u0 := Up.cell hs0
                have HNO : Aside0 (readP l = none) := ⟨readP_no (k := k + 1) hlt (by rw [readK_at HR.out HM.out]; unfold readStep; rw [HNB.out, if_neg (by decide), hbg, if_neg (by decide), hth, if_neg (by decide)])⟩
                go_wp2_with ((at_lookup; refine wpList_lookup_j _ rfl _ _ rfl Tryz.underlying82 gm js.length js rfl HS1.out.mp x.job HJ.out rfl ?_; rw [hth, hjv]))
                refine wp_region_up (by kernel_rfl) (by kernel_rfl) ?_
                repeat (first | go_big_quiet_skip | (go_big_quiet_want; first | fail | (go_big_quiet_op; first | go_big_quiet_on | (apply Exists.intro; refine ⟨fun z => ?_, ?_⟩; (focus (fail; done)); go_big_quiet_on))))
                refine wpQuiet_nil ?_
                rintro _ ⟨z, rfl⟩
                obtain ⟨wq, hwq⟩ : ∃ q, q = z.w := ⟨_, rfl⟩
                have hq := z.h
                rw [← hwq] at hq ⊢
                clear hwq
                have HS2 := Aside0.mk (HS1.out.grow hq)
                go_wp2_with (first | (at_lookup; refine wpList_lookup_j _ rfl _ _ rfl Tryz.underlying82 gm js.length js rfl HS1.out.mp x.job HJ.out rfl ?_; rw [hth, hjv]) | (refine wpList_store_off rfl 47 (.tmp 2) (.tmp 113) rfl gr 0 _ [.slice none 0 0, .int .i64 0] 47 rfl rfl HS2.out.rb (by show 0 + 2 ≤ 2; omega) s47 (z47_one) ?_; intro wz hz1 hz2; have HZ1 : Aside0 (wz.heap[gr]? = some (.cells ([.slice none 0 0, .int .i64 0] : List Value).toArray 47 (0, 0))) := ⟨hz1⟩; have HZG := Aside0.mk hz2; have HZB : Aside0 (Below w.heap.size w wz) := ⟨pw_below_grown HS2.out.bl _ HS2.out.bl.size hz2 (fun k hk => by injection hk with hk; rw [← hk]; exact HS2.out.ge.2.1)⟩; clear hz1 hz2))
                (try simp only [Exit.inBlock, Exit.then])
                refine bodyPost_ret (results15 rfl _ ⟨gr, 0, none⟩ rfl (run_load_any wz _ 47 [.slice none 0 0, .int .i64 0] _ (cells_blk HZ1.out) Tryz.underlying47 rfl s47)) rfl ?_
                exact ⟨_, _, _, rfl, HZB.out, ReadOk.no HNO.out⟩
              | true =>
                have hjv := jv_yes hth
                obtain ⟨j, hj⟩ : ∃ j, j = js.idxOf x.job := ⟨_, rfl⟩
                have hjl : j < ss.length := by rw [hj, HSL.out]; exact List.idxOf_lt_length_iff.2 (by simpa using hth)
                obtain ⟨s, hsj⟩ : ∃ s, ss[j]? = some s := ⟨_, List.getElem?_eq_getElem hjl⟩
                obtain ⟨g, cap, cur, hve, hge, hh, hcc, hcm, hcz, hco⟩ := HS1.out.opened (fun e => by rw [e] at hjl; simp at hjl)
                injection hve with hve1 hve2 hve3
                subst hve1; subst hve3
                have HGE := Aside0.mk hge
                have HH := Aside0.mk hh
                have HCC := Aside0.mk hcc
                have HCM := Aside0.mk hcm
                have HCZ : Aside0 (cur.size = cv * 20 ∧ j < cv) := ⟨hcz, by omega⟩
                have HSJZ : Aside0 (j * 20 + 20 ≤ cur.size) := ⟨by rw [hcz]; omega⟩
                have HCO := Aside0.mk hco
                have c19 : wy.cell? ⟨g, j * 20 + 19, none⟩ = some (.bool s.op) := (blk_cell hh _).trans (hco j s hsj 19 (by omega))
                have c0 : wy.cell? ⟨g, j * 20, none⟩ = some (.int .i64 s.c.kind) := (blk_cell hh _).trans (hco j s hsj 0 (by omega))
                have u0 := Up.cell hs0
                have ux2 := Up.cell x2
                have uc0 := Up.cell c0
                rw [← hj] at hjv
                have HSJ : Aside0 (ss[js.idxOf x.job]? = some s) := ⟨by rw [← hj]; exact hsj⟩
                have HJE := Aside0.mk hj
                clear hve2 hge hh hcc hcm hcz hco hsj hj
                have hml2 : j < maxLen := by unfold maxLen; have := HLJ.out; have := HSL.out; omega
                cases hop : s.op with
                | false =>
                  rw [hop] at c19
                  have u19 := Up.cell c19
                  have HNO : Aside0 (readP l = none) := ⟨readP_no (k := k + 1) hlt (by rw [readK_at HR.out HM.out]; unfold readStep; rw [HNB.out, if_neg (by decide), hbg, if_neg (by decide), hth, if_pos rfl]; unfold endsAt; rw [HSJ.out]; dsimp only; rw [hop]; rfl)⟩
                  go_wp2_with ((at_lookup; refine wpList_lookup_j _ rfl _ _ rfl Tryz.underlying82 gm js.length js rfl HS1.out.mp x.job HJ.out rfl ?_; rw [hth, hjv]))
                  refine wp_region_up (by kernel_rfl) (by kernel_rfl) ?_
                  repeat (first | go_big_quiet_skip | (go_big_quiet_want; first | fail | (go_big_quiet_op; first | go_big_quiet_on | (apply Exists.intro; refine ⟨fun z => ?_, ?_⟩; (focus (fail; done)); go_big_quiet_on))))
                  refine wpQuiet_nil ?_
                  rintro _ ⟨z, rfl⟩
                  obtain ⟨wq, hwq⟩ : ∃ q, q = z.w := ⟨_, rfl⟩
                  have hq := z.h
                  rw [← hwq] at hq ⊢
                  clear hwq
                  have HS2 := Aside0.mk (HS1.out.grow hq)
                  go_wp2_with (first | (at_lookup; refine wpList_lookup_j _ rfl _ _ rfl Tryz.underlying82 gm js.length js rfl HS1.out.mp x.job HJ.out rfl ?_; rw [hth, hjv]) | (refine wpList_store_off rfl 47 (.tmp 2) (.tmp 113) rfl gr 0 _ [.slice none 0 0, .int .i64 0] 47 rfl rfl HS2.out.rb (by show 0 + 2 ≤ 2; omega) s47 (z47_one) ?_; intro wz hz1 hz2; have HZ1 : Aside0 (wz.heap[gr]? = some (.cells ([.slice none 0 0, .int .i64 0] : List Value).toArray 47 (0, 0))) := ⟨hz1⟩; have HZG := Aside0.mk hz2; have HZB : Aside0 (Below w.heap.size w wz) := ⟨pw_below_grown HS2.out.bl _ HS2.out.bl.size hz2 (fun k hk => by injection hk with hk; rw [← hk]; exact HS2.out.ge.2.1)⟩; clear hz1 hz2))
                  (try simp only [Exit.inBlock, Exit.then])
                  refine bodyPost_ret (results15 rfl _ ⟨gr, 0, none⟩ rfl (run_load_any wz _ 47 [.slice none 0 0, .int .i64 0] _ (cells_blk HZ1.out) Tryz.underlying47 rfl s47)) rfl ?_
                  exact ⟨_, _, _, rfl, HZB.out, ReadOk.no HNO.out⟩
                | true =>
                  rw [hop] at c19
                  have u19 := Up.cell c19
                  cases hkd : (s.c.kind != x.c.kind) with
                  | true =>
                    have HNO : Aside0 (readP l = none) := ⟨readP_no (k := k + 1) hlt (by rw [readK_at HR.out HM.out]; unfold readStep; rw [HNB.out, if_neg (by decide), hbg, if_neg (by decide), hth, if_pos rfl]; unfold endsAt; rw [HSJ.out]; dsimp only; rw [hop, hkd]; rfl)⟩
                    go_wp2_with ((at_lookup; refine wpList_lookup_j _ rfl _ _ rfl Tryz.underlying82 gm js.length js rfl HS1.out.mp x.job HJ.out rfl ?_; rw [hth, hjv]))
                    refine wp_region_up (by kernel_rfl) (by kernel_rfl) ?_
                    repeat (first | go_big_quiet_skip | (go_big_quiet_want; first | fail | (go_big_quiet_op; first | go_big_quiet_on | (apply Exists.intro; refine ⟨fun z => ?_, ?_⟩; (focus (fail; done)); go_big_quiet_on))))
                    refine wpQuiet_nil ?_
                    rintro _ ⟨z, rfl⟩
                    obtain ⟨wq, hwq⟩ : ∃ q, q = z.w := ⟨_, rfl⟩
                    have hq := z.h
                    rw [← hwq] at hq ⊢
                    clear hwq
                    have HS2 := Aside0.mk (HS1.out.grow hq)
                    go_wp2_with (first | (at_lookup; refine wpList_lookup_j _ rfl _ _ rfl Tryz.underlying82 gm js.length js rfl HS1.out.mp x.job HJ.out rfl ?_; rw [hth, hjv]) | (refine wpList_store_off rfl 47 (.tmp 2) (.tmp 113) rfl gr 0 _ [.slice none 0 0, .int .i64 0] 47 rfl rfl HS2.out.rb (by show 0 + 2 ≤ 2; omega) s47 (z47_one) ?_; intro wz hz1 hz2; have HZ1 : Aside0 (wz.heap[gr]? = some (.cells ([.slice none 0 0, .int .i64 0] : List Value).toArray 47 (0, 0))) := ⟨hz1⟩; have HZG := Aside0.mk hz2; have HZB : Aside0 (Below w.heap.size w wz) := ⟨pw_below_grown HS2.out.bl _ HS2.out.bl.size hz2 (fun k hk => by injection hk with hk; rw [← hk]; exact HS2.out.ge.2.1)⟩; clear hz1 hz2))
                    (try simp only [Exit.inBlock, Exit.then])
                    refine bodyPost_ret (results15 rfl _ ⟨gr, 0, none⟩ rfl (run_load_any wz _ 47 [.slice none 0 0, .int .i64 0] _ (cells_blk HZ1.out) Tryz.underlying47 rfl s47)) rfl ?_
                    exact ⟨_, _, _, rfl, HZB.out, ReadOk.no HNO.out⟩
                  | false =>
                    rw [← HJE.out] at HSJ
                    have HNX : Aside0 (readK l (k + 1) = some (ss.set j ⟨s.c, x.r, s.b, (k : Int), false⟩, js)) := ⟨by rw [readK_at HR.out HM.out]; unfold readStep; rw [HNB.out, if_neg (by decide), hbg, if_neg (by decide), hth, if_pos rfl]; unfold endsAt; rw [← HJE.out, HSJ.out]; dsimp only; rw [hop, hkd]; rfl⟩
                    have hsv : s = ⟨s.c, s.r, s.b, s.e, true⟩ := by rw [← hop]
                    have HSV := Aside0.mk hsv
                    clear hsv
                    go_wp2_with ((at_lookup; refine wpList_lookup_j _ rfl _ _ rfl Tryz.underlying82 gm js.length js rfl HS1.out.mp x.job HJ.out rfl ?_; rw [hth, hjv]))
                    refine wp_region_up (by kernel_rfl) (by kernel_rfl) ?_
                    repeat (first | go_big_quiet_skip | (go_big_quiet_want; first | fail | (go_big_quiet_op; first | go_big_quiet_on | (apply Exists.intro; refine ⟨fun z => ?_, ?_⟩; (focus (fail; done)); go_big_quiet_on))))
                    refine wpQuiet_nil ?_
                    rintro _ ⟨z, rfl⟩
                    obtain ⟨wq, hwq⟩ : ∃ q, q = z.w := ⟨_, rfl⟩
                    have hq := z.h
                    rw [← hwq] at hq ⊢
                    clear hwq
                    have HS2 := Aside0.mk (HS1.out.grow hq)
                    have HX2 := Aside0.mk (blk_below HX.out hq)
                    have HH2 := Aside0.mk (blk_below HH.out hq)
                    clear u0 ux2 u19 uc0 HX HH c19 c0 hs0 hs1 x0 x1 x2 HS1
                    have hs0 : wq.cell? ⟨gh, 0, none⟩ = some (.slice (some ⟨g, 0, none⟩) ss.length cv) := (blk_cell HS2.out.hb 0).trans rfl
                    have HX := HX2
                    have HH := HH2
                    have HS1 := HS2
                    clear HX2 HH2 HS2
                    go_wp2_with (first | ((with_reducible refine gate_dst (N := 53) rfl ?_); refine wpList_load_any (by rfl) 32 (.tmp 52) rfl ⟨gx, 12, none⟩ rfl (encR x.r) _ (cells_blk_off HX.out (fun _ _ h => evR h)) Tryz.underlying32 rfl s32 ?_) | (refine wpList_store_off rfl 32 (.tmp 56) (.tmp 53) rfl g (j * 20 + 10) cur (encR x.r) 51 rfl rfl HH.out (by show j * 20 + 10 + 7 ≤ cur.size; have := HCZ.out; omega) s32 (encR_one _) ?_; intro w5 h51 h52; have HS7 := Aside0.mk (HS1.out.over (e := (k : Int)) (show Value.slice (some ⟨g, 0, none⟩) ss.length cv = .slice (some ⟨g, 0, none⟩) ss.length cv from rfl) HGE.out HH.out HCC.out HCM.out HCZ.out.1 HCO.out (HSJ.out.trans (congrArg some HSV.out)) h51 h52); have e18 := setL_end (k := (k : Int)) h51 HSJZ.out HCO.out HSJ.out (by have := HCZ.out; omega); have f18 := blk_frozen h51 (j * 20 + 18); have h53 := blk_set h51 (j * 20 + 18) (.int .i64 (k : Int)); have e19 := e18.2; have e18 := e18.1; have f19 := blk_frozen h53 (j * 20 + 19); clear h51 h52 h53 HS1 HX hs0))
                    go_roundw
                    case rel => exact ⟨k + 1, hlt, by go_simp, _, _, _, HNX, HS7⟩
                    case measure => simp [intOf]; omega
    · obtain rfl : k = l.length := by omega
      have HYS : Aside0 (readP l = some ss) := ⟨by unfold readP; rw [HR.out]; rfl⟩
      have hs0 : wr.cell? ⟨gh, 0, none⟩ = some (.slice Av ss.length cv) := (blk_cell HS.out.hb 0).trans rfl
      have hs1 : wr.cell? ⟨gh, 1, none⟩ = some (.int .i64 (l.length : Int)) := (blk_cell HS.out.hb 1).trans rfl
      go_wp2_with ((refine wpList_store_off rfl 47 (.tmp 2) (.tmp 115) rfl gr 0 _ [.slice Av ss.length cv, .int .i64 (l.length : Int)] 47 rfl rfl HS.out.rb (by show 0 + 2 ≤ 2; omega) s47 (v47_one) ?_; intro wz hz1 hz2; have HZ1 : Aside0 (wz.heap[gr]? = some (.cells ([.slice Av ss.length cv, .int .i64 (l.length : Int)] : List Value).toArray 47 (0, 0))) := ⟨hz1⟩; have HZG := Aside0.mk hz2; have HZB : Aside0 (Below w.heap.size w wz) := ⟨pw_below_grown HS.out.bl _ HS.out.bl.size hz2 (fun k hk => by injection hk with hk; rw [← hk]; exact HS.out.ge.2.1)⟩; clear hz1 hz2))
      (try simp only [Exit.inBlock, Exit.then])
      refine bodyPost_ret (results15 rfl _ ⟨gr, 0, none⟩ rfl (run_load_any wz _ 47 [.slice Av ss.length cv, .int .i64 (l.length : Int)] _ (cells_blk HZ1.out) Tryz.underlying47 rfl s47)) rfl ?_
      exact ⟨_, _, _, rfl, HZB.out, ReadOk.yes HYS.out (R_of_row (own_other HS.out.row HZG.out (.inr (fun e => own_ne HS.out.row HS.out.rb (by decide) e.symm))))⟩
end Go.Proofs.YtkicenkljjpcfaaGreatDoor.Q
