/- num.Reader.Fixed, walked by hand, for one byte. -/
import Derived.Test.YtnhfkbmnglbbmaaQx18
namespace Go.Proofs.Ytnhfkbmnglbbmaa.Q
open Go.RowKit Go.Proofs.YtnhfkbmnglbbmaaW.PrintWords Go.Proofs.YtnhfkbmnglbbmaaW.PrintLast Go.Proofs.YtnhfkbmnglbbmaaW.PrintMore
attribute [local go_sem] max2_int min2_int max_two min_two max_three min_three max_four min_four

set_option maxHeartbeats 1000000 in
set_option maxRecDepth 100000 in
theorem fixed_one (g : Nat) (s : ByteArray) (e : Int) (r1 r2 : ByteArray) (r3 : Int) (w0 w : World) (hI : IsS66 w0 w g s e) (hB : Below w0.heap.size w0 w) (h : num_Reader_Bytes.f s e 1 = some (r1, r2, r3)) (hr : r1.size ≤ 1) :
    Calls Try.prog 16 #[.pointer (some ⟨g, 0, none⟩), .int .i64 1] w fun e w' => e = .returned (.int .i64 (if r1.size = 0 then 0 else bt r1 0)) ∧ IsS66 w0 w' g r2 r3 ∧ Below w0.heap.size w0 w' ∧ KeepBut w w' g none := by
  generalize hR : (if r1.size = 0 then (0 : Int) else bt r1 0) = R
  have HR := Aside0.mk hR
  clear hR
  have HI := Aside0.mk hI
  have HB := Aside0.mk hB
  have H := Aside0.mk h
  clear hI hB h
  have kb := fun W => print_bytes (P := Try.prog) 9 42 5 Try.underlying9 Try.underlying42 Try.underlying5 r1 W
  go_enter Try.func16, Try.ntmps16
  go_wp2_with (go_at_call 15; refine (num_Reader_Bytes.calls g s e 1 r1 r2 r3 w0 _ HI.out HB.out H.out).mono ?_; rintro e w1 ⟨rfl, hI1, hB1, hK1⟩; have HI1 := Aside0.mk hI1; have HB1 := Aside0.mk hB1; have HK1 := Aside0.mk hK1; clear hI1 hB1 hK1)
  have HI2 : Aside0 (IsS66 w0 (Lib.bytesWorld w1 5 r1) g r2 r3) := ⟨HI1.out.below (bytes_below (Below.refl _ _) (Nat.le_refl _) 5 r1)⟩
  have HB2 : Aside0 (Below w0.heap.size w0 (Lib.bytesWorld w1 5 r1)) := ⟨bytes_below HB1.out (HB1.out.size) 5 r1⟩
  have HK2 : Aside0 (KeepBut w (Lib.bytesWorld w1 5 r1) g none) := ⟨HK1.out.trans (KeepBut.of_below (bytes_below (Below.refl _ _) (Nat.le_refl _) 5 r1) g none) (.inl rfl)⟩
  have HC : Aside0 (0 < r1.size → (Lib.bytesWorld w1 5 r1).cell? ⟨w1.heap.size, 0, none⟩ = some (.int .u8 (bt r1 0))) := ⟨fun hp => by
    obtain ⟨ad, e1, hc⟩ := (bytes_reads w1 5 r1 (by omega)).2.2 hp
    have h1 := hc 0 hp
    injection e1 with e2
    subst e2
    have e3 : (bytesOf r1)[0]?.getD 0 = bt r1 0 := by
      have := rd_bytesOf r1 0
      simpa [rd, List.getD_eq_getElem?_getD] using this
    simp only [List.getD_eq_getElem?_getD, e3] at h1
    exact h1⟩
  clear HI HB H kb HI1 HB1 HK1
  generalize Lib.bytesWorld w1 5 r1 = w2 at HI2 HB2 HK2 HC ⊢
  go_loopw [6, 24] (fun v6 v24 w' => ∃ (i : Nat) (n : Int), v24 = .int .i64 (i : Int) ∧ v6 = .int .i64 n ∧ Aside0 (n = if i = 0 then 0 else bt r1 0) ∧ Aside0 (i ≤ r1.size) ∧ w' = w2) (fun _ v24 _ => 2 - (intOf v24).toNat)
  case atStart => exact ⟨0, 0, rfl, rfl, ⟨rfl⟩, ⟨by omega⟩, rfl⟩
  case round =>
    obtain ⟨i, n, rfl, rfl, HN, HIL, rfl⟩ := hrel
    by_cases hlt : i < r1.size
    · have hi0 : i = 0 := by omega
      subst hi0
      have hn : n = 0 := HN.out
      subst hn
      have d1 : decide (((0 : Nat) : Int) < (r1.size : Int)) = true := decide_eq_true (by omega)
      have hcell := HC.out hlt
      have hor : Go.bits .or .i64 0 (bt r1 0) = bt r1 0 := by
        have h1 : ∀ n : Fin 256, Go.bits .or .i64 0 ((n.val : Nat) : Int) = ((n.val : Nat) : Int) := by decide +kernel
        have h2 := bt_range r1 0
        have h3 := h1 ⟨(bt r1 0).toNat, by omega⟩
        simp only at h3
        rwa [show (((bt r1 0).toNat : Nat) : Int) = bt r1 0 from by omega] at h3
      have hb := bt_range r1 0
      obtain ⟨b, hbe⟩ : ∃ b, b = bt r1 0 := ⟨_, rfl⟩
      have HB0 := Aside0.mk hbe
      rw [← hbe] at hcell hb hor
      clear hbe
      go_wp2
      go_roundw
      case rel => exact ⟨1, b, rfl, by first | rfl | rw [hor], ⟨by rw [if_neg (by decide)]; exact HB0.out⟩, ⟨by omega⟩, trivial⟩
      case measure => simp [intOf]
    · have hi0 : i = r1.size := by have := HIL.out; omega
      have hlast : n = R := by rw [HN.out, ← HR.out, hi0]
      subst hlast
      have d1 : decide ((i : Int) < (r1.size : Int)) = false := decide_eq_false (by omega)
      go_wp2
      go_ret
      exact ⟨rfl, HI2.out, HB2.out, HK2.out⟩

/-- One byte as a number: what stands ahead, what is left, the reader's error. -/
def num_Reader_Fixed.f (s0_0 : ByteArray) (s0_1 : Int) (a1 : Int) : Option (Int × ByteArray × Int) :=
  if a1 = 1 then (num_Reader_Bytes.f s0_0 s0_1 1).bind fun r => if r.1.size ≤ 1 then some (if r.1.size = 0 then 0 else bt r.1 0, r.2.1, r.2.2) else none else none

theorem num_Reader_Fixed.calls (g : Nat) (s0_0 : ByteArray) (s0_1 : Int) (a1 : Int) (r1 : Int) (r2 : ByteArray) (r3 : Int) (w0 w : World) (hI : IsS66 w0 w g s0_0 s0_1) (hB : Below w0.heap.size w0 w) (h : num_Reader_Fixed.f s0_0 s0_1 a1 = some (r1, r2, r3)) :
    Calls Try.prog 16 #[.pointer (some ⟨g, 0, none⟩), .int .i64 a1] w fun e w' => e = .returned (.int .i64 r1) ∧ IsS66 w0 w' g r2 r3 ∧ Below w0.heap.size w0 w' ∧ KeepBut w w' g none := by
  unfold num_Reader_Fixed.f at h
  split at h
  · rename_i ha
    subst ha
    simp only [Option.bind_eq_some_iff] at h
    obtain ⟨⟨x1, x2, x3⟩, hb, h⟩ := h
    split at h
    · rename_i hs
      simp only [Option.some.injEq, Prod.mk.injEq] at h
      obtain ⟨rfl, rfl, rfl⟩ := h
      exact fixed_one g s0_0 s0_1 x1 x2 x3 w0 w hI hB hb hs
    · cases h
  · cases h

end Go.Proofs.Ytnhfkbmnglbbmaa.Q
