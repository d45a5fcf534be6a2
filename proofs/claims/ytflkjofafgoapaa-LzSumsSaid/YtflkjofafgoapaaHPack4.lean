/- lz.Pack, walked by hand. -/
import Derived.Test.YtflkjofafgoapaaHPack3
namespace Go.Proofs.Ytflkjofafgoapaa.Q
open Go.RowKit Go.Proofs.YtflkjofafgoapaaW.PrintWords Go.Proofs.YtflkjofafgoapaaW.PrintLast Go.Proofs.YtflkjofafgoapaaW.PrintMore
open Go.Maps
attribute [local go_sem] max2_int min2_int max_two min_two max_three min_three max_four min_four

theorem encS_one (x : ByteArray × Nat × Nat) : encS [x] = seqN x.1 x.2.1 x.2.2 := by simp [encS]

theorem pack_start_p (w : World) (s : ByteArray) : IsP (((w.alloc (Obj.map #[] 0)).alloc (Obj.cells #[Value.string s, Value.map (some w.heap.size)] 54)).alloc (Obj.cells #[Value.slice none 0 0] 57)) (w.heap.size + 1) s w.heap.size := by
  have h1 := heap_alloc_new (w.alloc (Obj.map #[] 0)) (Obj.cells #[Value.string s, Value.map (some w.heap.size)] 54)
  have e1 : (w.alloc (Obj.map #[] 0)).heap.size = w.heap.size + 1 := Array.size_push _
  rw [e1] at h1
  exact ((below_alloc (Below.refl _ _) _).block _ (blk_lt h1)).trans h1
theorem pack_start_w (w : World) (s : ByteArray) : IsW (((w.alloc (Obj.map #[] 0)).alloc (Obj.cells #[Value.string s, Value.map (some w.heap.size)] 54)).alloc (Obj.cells #[Value.slice none 0 0] 57)) w.heap.size (w.heap.size + 1 + 1) [] := by
  have h1 := heap_alloc_new ((w.alloc (Obj.map #[] 0)).alloc (Obj.cells #[Value.string s, Value.map (some w.heap.size)] 54)) (Obj.cells #[Value.slice none 0 0] 57)
  have e1 : ((w.alloc (Obj.map #[] 0)).alloc (Obj.cells #[Value.string s, Value.map (some w.heap.size)] 54)).heap.size = w.heap.size + 1 + 1 := (Array.size_push _).trans (congrArg (· + 1) (Array.size_push _))
  rw [e1] at h1
  exact ⟨_, h1, by simp [nums], .inl ⟨rfl, rfl⟩⟩
theorem pack_start_m (w : World) (s : ByteArray) : (((w.alloc (Obj.map #[] 0)).alloc (Obj.cells #[Value.string s, Value.map (some w.heap.size)] 54)).alloc (Obj.cells #[Value.slice none 0 0] 57)).ownsMap Try.prog 61 (plainElem Try.prog 3) w.heap.size 0 (tabD s 0) :=
  ((World.ownsMap_made w _ _ _).alloc _).alloc _

set_option maxHeartbeats 1000000 in
set_option maxRecDepth 100000 in
theorem pack_low (s : ByteArray) (w : World) (hs : s.size ≤ 10000) :
    Calls Try.prog 15 #[.string s] w fun e w' => e = .returned (.tuple #[.string (strOfNums (encS (packS s 0 0))), .int .i64 0]) ∧ Below w.heap.size w w' := by
  have g1 : decide ((1048576 : Int) < (s.size : Int)) = false := decide_eq_false (by omega)
  have hmm := @run_makeMap Try.prog
  go_enter Try.func15, Try.ntmps15
  go_wp2
  clear hmm g1
  have HB : Aside0 (w.heap.size ≤ w.heap.size + 1 ∧ w.heap.size ≤ w.heap.size + 1 + 1) := ⟨by omega, by omega⟩
  have HJ0 : Aside0 (J w.heap.size (w.heap.size + 1) w.heap.size (w.heap.size + 1 + 1) s w (((w.alloc (Obj.map #[] 0)).alloc (Obj.cells #[Value.string s, Value.map (some w.heap.size)] 54)).alloc (Obj.cells #[Value.slice none 0 0] 57)) 0 []) :=
    ⟨⟨pack_start_p w s, pack_start_m w s, pack_start_w w s, below_alloc (below_alloc (below_alloc (Below.refl _ _) _) _) _⟩⟩
  generalize ((w.alloc (Obj.map #[] 0)).alloc (Obj.cells #[Value.string s, Value.map (some w.heap.size)] 54)).alloc (Obj.cells #[Value.slice none 0 0] 57) = w0 at HJ0 ⊢
  generalize w.heap.size + 1 + 1 = h at HB HJ0 ⊢
  generalize w.heap.size + 1 = g at HB HJ0 ⊢
  go_loopw [6, 7] (fun v6 v7 w' => ∃ (kept a : Nat) (out : List Int), v6 = .int .i64 (kept : Int) ∧ v7 = .int .i64 (a : Int) ∧ Aside0 (kept ≤ a ∧ a ≤ s.size ∧ out.length ≤ 10 * kept) ∧ Aside0 (J w.heap.size g w.heap.size h s w w' (min a (s.size - 3)) out) ∧ Aside0 (out ++ encS (packS s a kept) = encS (packS s 0 0))) (fun _ v7 _ => s.size - (intOf v7).toNat)
  case atStart => exact ⟨0, 0, [], rfl, rfl, ⟨by simp⟩, ⟨by simpa using HJ0.out⟩, ⟨rfl⟩⟩
  case round =>
    obtain ⟨kept, a, out, rfl, rfl, HR, HJ, HE⟩ := hrel
    clear HJ0
    have b1 : (a : Int) ≤ 10000 := by have := HR.out; omega
    by_cases hlt : a + 4 < s.size
    · have g1 : decide ((a : Int) + 4 < (s.size : Int)) = true := decide_eq_true (by omega)
      have HLT := Aside0.mk hlt
      have HJ1 : Aside0 (J w.heap.size g w.heap.size h s w wr a out) := ⟨by have := HJ.out; rwa [show min a (s.size - 3) = a from by omega] at this⟩
      clear HJ hlt
      go_upto_region 9 with (go_at_call 21; refine (best_calls s g w.heap.size a a a _ HJ1.out.hp HJ1.out.hm (Nat.le_refl _) hs (by have := HLT.out; omega)).mono ?_; rintro e w1 ⟨rfl, hB⟩; have HJ2 : Aside0 (J w.heap.size g w.heap.size h s w w1 a out) := ⟨HJ1.out.below hB HJ1.out.kb.size⟩; clear hB; generalize hbd : (bestN s a (lastN s a a)).1 = D; generalize hbl : (bestN s a (lastN s a a)).2 = L0; have HBD := Aside0.mk hbd; have HBL := Aside0.mk hbl; clear hbd hbl)
      obtain ⟨L, hL⟩ : ∃ L, L = min L0 (s.size - 1 - a) := ⟨_, rfl⟩
      have HTK : Aside0 (takeN s a = (D, L)) := ⟨by rw [takeN, HBD.out, HBL.out, hL]⟩
      have q0 : (s.size : Int) - 1 - (a : Int) = ((s.size - 1 - a : Nat) : Int) := by have := HLT.out; omega
      have q1 : (if ((s.size : Int) - 1 - (a : Int)) < (L0 : Int) then (s.size : Int) - 1 - (a : Int) else (L0 : Int)) = (L : Int) := by have := HLT.out; omega
      have q2 : (if (L0 : Int) < ((s.size : Int) - 1 - (a : Int)) then (L0 : Int) else (s.size : Int) - 1 - (a : Int)) = (L : Int) := by have := HLT.out; omega
      have HLL : Aside0 (L ≤ s.size - 1 - a) := ⟨by omega⟩
      clear q0 hL HBD HBL
      go_upto_region 10 with (fail)
      clear q1 q2 g1
      by_cases h4 : 4 ≤ L
      · have e4 : decide ((4 : Int) ≤ (L : Int)) = true := decide_eq_true (by omega)
        have HD := Aside0.mk (show 0 < D ∧ D ≤ a from by have := take_dist s a (by rw [HTK.out]; exact h4); rwa [HTK.out] at this)
        have HS := Aside0.mk h4
        have HR3 := Aside0.mk (show kept ≤ a ∧ a ≤ s.size ∧ out.length ≤ 10 * kept from HR.out)
        have b4 : (kept : Int) ≤ (a : Int) := by have := HR.out; omega
        have b5 : (a : Int) ≤ (s.size : Int) := by have := HR.out; omega
        have b6 : (L : Int) ≤ 10000 := by have := HLL.out; omega
        have HXL : Aside0 ((s.extract kept a).size = a - kept) := ⟨extract_len s kept a HR.out.2.1 HR.out.1⟩
        clear h4
        go_upto_region 13 with (go_at_call 22; refine (sequence_calls w.heap.size h D L (s.extract kept a) out _ HJ2.out.hw HB.out.2 (by rw [HXL.out]; omega) (by have := HD.out; omega) (.inr ⟨HD.out.1, HS.out, by omega⟩) (by have := HR.out; omega)).mono ?_; rintro e w3 ⟨rfl, hI, hK⟩; have HJ3 := Aside0.mk (HJ2.out.seq hI hK); clear hI hK)
        have HO : Aside0 ((out ++ seqN (s.extract kept a) D L).length ≤ 10 * (a + L)) := ⟨by have := seqN_len (s.extract kept a) D L; rw [HXL.out] at this; rw [List.length_append]; have := HR.out; have := HS.out; omega⟩
        have HE3 : Aside0 ((out ++ seqN (s.extract kept a) D L) ++ encS (packS s (a + L) (a + L)) = encS (packS s 0 0)) := ⟨by have h1 := packS_take (kept := kept) HLT.out (by rw [HTK.out]; exact HS.out); rw [HTK.out] at h1; rw [← HE.out, h1, encS_cons, List.append_assoc]⟩
        generalize out ++ seqN (s.extract kept a) D L = out3 at HJ3 HO HE3 ⊢
        go_wp2
        go_loopw [7, 53] (fun v7 v53 w' => ∃ (i x : Nat), v7 = .int .i64 (x : Int) ∧ v53 = .int .i64 (i : Int) ∧ Aside0 (x = a + i ∧ i ≤ L) ∧ Aside0 (J w.heap.size g w.heap.size h s w w' (min x (s.size - 3)) out3)) (fun _ v53 _ => 100000 - (intOf v53).toNat)
        case atStart => exact ⟨0, a, rfl, rfl, ⟨rfl, Nat.zero_le _⟩, ⟨by rw [show min a (s.size - 3) = a from by have := HLT.out; omega]; exact HJ3.out⟩⟩
        case round =>
          obtain ⟨i, x, rfl, rfl, HX, HJI⟩ := hrel
          have c1 : (x : Int) ≤ 10000 := by have := HX.out; have := HLL.out; have := HS.out; have := HLT.out; omega
          have c2 : (i : Int) ≤ 10000 := by have := HX.out; have := HLL.out; have := HS.out; omega
          have hcm : wr.cell? ⟨g, 1, none⟩ = some (.map (some w.heap.size)) := (blk_cell HJI.out.hp 1).trans rfl
          by_cases hi : i < L
          · have d1 : decide ((i : Int) < (L : Int)) = true := decide_eq_true (by omega)
            have HI := Aside0.mk hi
            by_cases hx : x + 4 ≤ s.size
            · have d2 : decide ((x : Int) + 4 ≤ (s.size : Int)) = true := decide_eq_true (by omega)
              have HX4 := Aside0.mk hx
              clear hx
              go_upto_region 18 with (fail)
              have HJX : Aside0 (J w.heap.size g w.heap.size h s w wr x out3) := ⟨by have := HJI.out; rwa [show min x (s.size - 3) = x from by have := HX4.out; omega] at this⟩
              go_region_with (go_at_call 23; refine (four_calls s g w.heap.size x _ ?_ HX4.out (by omega)).mono ?_; exact HJX.out.hp; rintro e w2 ⟨he, hB⟩; replace he : e = .returned (fourV s x) := he; subst he; have hU := put_four (own_after HJX.out.hm hB rfl) (by omega); obtain ⟨w3, hrun, hm3, hg3⟩ := hU; have hcm2 := pw_cell_below hB hcm; have HJ3 : Aside0 (J w.heap.size g w.heap.size h s w w3 (x + 1) out3) := ⟨(HJX.out.drew.below hB HJX.out.kb.size).upd hm3 hg3 (Nat.le_refl _) (HJX.out.drew.below hB HJX.out.kb.size).kb.size⟩; clear hm3 hg3; generalize fourV s x = V at hrun ⊢)
              all_goals go_wp2
              all_goals go_roundw
              all_goals first
                | exact ⟨i + 1, x + 1, by go_num, by go_num, ⟨by have := HX.out; omega, HI.out⟩, ⟨by rw [show min (x + 1) (s.size - 3) = x + 1 from by have := HX4.out; omega]; exact HJ3.out⟩⟩
                | (simp [intOf]; omega)
            · have d2 : decide ((x : Int) + 4 ≤ (s.size : Int)) = false := decide_eq_false (by omega)
              have HX4 := Aside0.mk hx
              go_wp2
              go_roundw
              case rel => exact ⟨i + 1, x + 1, by go_num, by go_num, ⟨by have := HX.out; omega, HI.out⟩, ⟨by rw [show min (x + 1) (s.size - 3) = min x (s.size - 3) from by have := HX4.out; have := HLT.out; omega]; exact HJI.out⟩⟩
              case measure => simp [intOf]; omega
          · have d1 : decide ((i : Int) < (L : Int)) = false := decide_eq_false (by omega)
            have HI : Aside0 (x = a + L) := ⟨by have := HX.out; omega⟩
            go_wp2
            go_roundw
            case rel => exact ⟨a + L, x, out3, by go_num, rfl, ⟨by have := HI.out; omega, by have := HI.out; have := HLL.out; have := HLT.out; omega, HO.out⟩, HJI, ⟨by rw [HI.out]; exact HE3.out⟩⟩
            case measure => simp [intOf]; have := HI.out; have := HLT.out; have := HS.out; omega
      · have e4 : decide ((4 : Int) ≤ (L : Int)) = false := decide_eq_false (by omega)
        have HS := Aside0.mk (show (1 : Nat) ≤ 1 from Nat.le_refl _)
        have HE3 : Aside0 (out ++ encS (packS s (a + 1) kept) = encS (packS s 0 0)) := ⟨by rw [← HE.out, packS_step (kept := kept) HLT.out (by rw [HTK.out]; exact h4)]⟩
        clear h4
        go_wp2
        go_loopw [7, 53] (fun v7 v53 w' => ∃ (i x : Nat), v7 = .int .i64 (x : Int) ∧ v53 = .int .i64 (i : Int) ∧ Aside0 (x = a + i ∧ i ≤ 1) ∧ Aside0 (J w.heap.size g w.heap.size h s w w' (min x (s.size - 3)) out)) (fun _ v53 _ => 100000 - (intOf v53).toNat)
        case atStart => exact ⟨0, a, rfl, rfl, ⟨rfl, Nat.zero_le _⟩, ⟨by rw [show min a (s.size - 3) = a from by have := HLT.out; omega]; exact HJ2.out⟩⟩
        case round =>
          obtain ⟨i, x, rfl, rfl, HX, HJI⟩ := hrel
          have c1 : (x : Int) ≤ 10000 := by have := HX.out; have := HLL.out; have := HS.out; have := HLT.out; omega
          have c2 : (i : Int) ≤ 10000 := by have := HX.out; have := HLL.out; have := HS.out; omega
          have hcm : wr.cell? ⟨g, 1, none⟩ = some (.map (some w.heap.size)) := (blk_cell HJI.out.hp 1).trans rfl
          by_cases hi : i < 1
          · have d1 : decide ((i : Int) < (1 : Int)) = true := decide_eq_true (by omega)
            have HI := Aside0.mk hi
            by_cases hx : x + 4 ≤ s.size
            · have d2 : decide ((x : Int) + 4 ≤ (s.size : Int)) = true := decide_eq_true (by omega)
              have HX4 := Aside0.mk hx
              clear hx
              go_upto_region 18 with (fail)
              have HJX : Aside0 (J w.heap.size g w.heap.size h s w wr x out) := ⟨by have := HJI.out; rwa [show min x (s.size - 3) = x from by have := HX4.out; omega] at this⟩
              go_region_with (go_at_call 23; refine (four_calls s g w.heap.size x _ ?_ HX4.out (by omega)).mono ?_; exact HJX.out.hp; rintro e w2 ⟨he, hB⟩; replace he : e = .returned (fourV s x) := he; subst he; have hU := put_four (own_after HJX.out.hm hB rfl) (by omega); obtain ⟨w3, hrun, hm3, hg3⟩ := hU; have hcm2 := pw_cell_below hB hcm; have HJ3 : Aside0 (J w.heap.size g w.heap.size h s w w3 (x + 1) out) := ⟨(HJX.out.drew.below hB HJX.out.kb.size).upd hm3 hg3 (Nat.le_refl _) (HJX.out.drew.below hB HJX.out.kb.size).kb.size⟩; clear hm3 hg3; generalize fourV s x = V at hrun ⊢)
              all_goals go_wp2
              all_goals go_roundw
              all_goals first
                | exact ⟨i + 1, x + 1, by go_num, by go_num, ⟨by have := HX.out; omega, HI.out⟩, ⟨by rw [show min (x + 1) (s.size - 3) = x + 1 from by have := HX4.out; omega]; exact HJ3.out⟩⟩
                | (simp [intOf]; omega)
            · have d2 : decide ((x : Int) + 4 ≤ (s.size : Int)) = false := decide_eq_false (by omega)
              have HX4 := Aside0.mk hx
              go_wp2
              go_roundw
              case rel => exact ⟨i + 1, x + 1, by go_num, by go_num, ⟨by have := HX.out; omega, HI.out⟩, ⟨by rw [show min (x + 1) (s.size - 3) = min x (s.size - 3) from by have := HX4.out; have := HLT.out; omega]; exact HJI.out⟩⟩
              case measure => simp [intOf]; omega
          · have d1 : decide ((i : Int) < (1 : Int)) = false := decide_eq_false (by omega)
            have HI : Aside0 (x = a + 1) := ⟨by have := HX.out; omega⟩
            go_wp2
            go_roundw
            case rel => exact ⟨kept, x, out, by go_num, rfl, ⟨by have := HI.out; have := HR.out; omega, by have := HI.out; have := HLT.out; omega, HR.out.2.2⟩, HJI, ⟨by rw [HI.out]; exact HE3.out⟩⟩
            case measure => simp [intOf]; have := HI.out; have := HLT.out; have := HS.out; omega
    · have g1 : decide ((a : Int) + 4 < (s.size : Int)) = false := decide_eq_false (by omega)
      have HEND : Aside0 (packS s a kept = [(s.extract kept s.size, 0, 0)]) := ⟨packS_end hlt⟩
      have b2 : (kept : Int) ≤ (s.size : Int) := by have := HR.out; omega
      have HB2 := Aside0.mk b2
      clear hlt
      go_upto_region 22 with (go_at_call 22; refine (sequence_calls w.heap.size h 0 0 (s.extract kept s.size) out _ HJ.out.hw HB.out.2 (by rw [extract_len s kept s.size (Nat.le_refl _) (by have := HB2.out; omega)]; omega) (by omega) (.inl ⟨rfl, rfl⟩) (by have := HR.out; omega)).mono ?_; rintro e w1 ⟨rfl, hI, hK⟩; have HJ2 := Aside0.mk (HJ.out.seq hI hK); clear hI hK)
      obtain ⟨v, hg0, ho0⟩ := HJ2.out.hw
      have hcell : w1.cell? ⟨h, 0, none⟩ = some v := (blk_cell hg0 0).trans rfl
      have hlt : h < w1.heap.size := blk_lt hg0
      have hconv := own_string (P := Try.prog) Try.underlying41 Try.underlying5 Try.underlying9 ho0
      clear hg0 ho0
      go_wp2
      go_ret2
      exact ⟨by rw [← HE.out, HEND.out, encS_one]; rfl, HJ2.out.kb⟩

set_option maxHeartbeats 400000 in
theorem pack_high (s : ByteArray) (w : World) (h : 1048576 < s.size) :
    Calls Try.prog 15 #[.string s] w fun e w' => e = .returned (.tuple #[.string ⟨#[]⟩, .int .i64 2]) ∧ Below w.heap.size w w' := by
  have g1 : decide ((1048576 : Int) < (s.size : Int)) = true := decide_eq_true (by omega)
  clear h
  go_enter Try.func15, Try.ntmps15
  go_wp2
  go_ret2
  exact ⟨rfl, Below.refl _ _⟩

end Go.Proofs.Ytflkjofafgoapaa.Q
