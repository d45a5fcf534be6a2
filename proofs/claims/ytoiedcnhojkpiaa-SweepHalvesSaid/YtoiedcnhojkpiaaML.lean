/- Of the proofs about sweep: several texts, joined. -/
import Derived.Test.YtoiedcnhojkpiaaMI
namespace Go.Proofs.Ytoiedcnhojkpiaa.Q
open Go.RowKit Go.Maps Go.Proofs.YtoiedcnhojkpiaaW.PrintWords Go.Proofs.YtoiedcnhojkpiaaW.PrintLast Go.Proofs.YtoiedcnhojkpiaaW.PrintMore
def rstayQ (reach : Bool) (kept : List UInt8 → Bool) : List S50 → S50 × Bool
  | [] => (z50, false)
  | p :: ps => rstayP reach kept p ps
def rstayL (L : List S52) (reach kept : List UInt8 → Bool) (ids : List ByteArray) : List S52 := ids.filterMap fun id =>
  if (rstayQ (reach id.data.toList) kept (places L id)).2 then some ⟨id, (rstayQ (reach id.data.toList) kept (places L id)).1⟩ else none
def rmoveL (L : List S52) (reach moved : List UInt8 → Bool) (ids : List ByteArray) : List ByteArray := ids.filter fun id => reach id.data.toList && moved (getP L id).1.f0.data.toList
/-- How the bytes of a pack stand. -/
def rF (L : List S52) (reach : List UInt8 → Bool) : List UInt8 → Int × Int := fun y => rW L reach (packB y) L
theorem rF_of (L : List S52) (reach : List UInt8 → Bool) (s : ByteArray) : rF L reach s.data.toList = rW L reach s L := by unfold rF; rw [packB_of]
theorem rstayL_take (L : List S52) (reach kept : List UInt8 → Bool) (l : List ByteArray) (k : Nat) (h : k < l.length) : rstayL L reach kept (l.take (k + 1)) = rstayL L reach kept (l.take k) ++ (if (rstayQ (reach l[k].data.toList) kept (places L l[k])).2 then [⟨l[k], (rstayQ (reach l[k].data.toList) kept (places L l[k])).1⟩] else []) := by
  unfold rstayL
  rw [List.take_succ_eq_append_getElem h, List.filterMap_append]
  congr 1
  simp only [List.filterMap_cons, List.filterMap_nil]
  split <;> rename_i hh
  · split at hh
    · cases hh
    · rename_i h2; simp [h2]
  · split at hh
    · injection hh with hh; rename_i h2; simp [h2, hh]
    · cases hh
theorem rmoveL_take (L : List S52) (reach moved : List UInt8 → Bool) (l : List ByteArray) (k : Nat) (h : k < l.length) : rmoveL L reach moved (l.take (k + 1)) = rmoveL L reach moved (l.take k) ++ (if (reach l[k].data.toList && moved (getP L l[k]).1.f0.data.toList) = true then [l[k]] else []) := by
  unfold rmoveL
  rw [List.take_succ_eq_append_getElem h, List.filter_append]
  congr 1
  by_cases hf : (reach l[k].data.toList && moved (getP L l[k]).1.f0.data.toList) = true
  · rw [if_pos hf]; simp only [List.filter_cons, hf, if_true, List.filter_nil]
  · rw [if_neg hf]; simp only [List.filter_cons, hf, List.filter_nil]; rfl
theorem KeepB.Ck {α : Type} {d : Kd α} {base g n : Nat} {w w1 : World} {ad : Addr} {xs : List α} (h : KeepB base g w w1) (hK : ∀ x cs, d.K w x cs → d.K w1 x cs) (hc : Kd.C d w (some ad) n xs) (h1 : ad.block < base) (h2 : ad.block ≠ g) : Kd.C d w1 (some ad) n xs :=
  ⟨hc.1, hc.2.1, fun hn => by
    obtain ⟨ad', e, hc2⟩ := hc.2.2 hn
    injection e with e
    subst e
    refine ⟨ad, rfl, fun j p hj => ?_⟩
    obtain ⟨c, hs, hr, hcell⟩ := hc2 j p hj
    refine ⟨c, hs, hK _ _ hr, fun i u hu => ?_⟩
    have hb : (ad.add (j * d.sz + i)).block = ad.block := by unfold Addr.add; split <;> rfl
    have := hcell i u hu
    rwa [World.cell?_of_block (w := w) (w' := w1) (by rw [hb]; exact h.block _ h1 h2)]⟩
theorem KeepB.CA {α : Type} {d : Kd α} {base g n : Nat} {w w1 : World} {A : Option Addr} {xs : List α} (h : KeepB base g w w1) (hK : ∀ x cs, d.K w x cs → d.K w1 x cs) (hc : Kd.C d w A n xs) (ha : ∀ ad, A = some ad → ad.block < base ∧ ad.block ≠ g) : Kd.C d w1 A n xs :=
  ⟨hc.1, hc.2.1, fun hn => by
    obtain ⟨ad, e, hc2⟩ := hc.2.2 hn
    obtain ⟨h1, h2⟩ := ha ad e
    refine ⟨ad, e, fun j p hj => ?_⟩
    obtain ⟨c, hs, hr, hcell⟩ := hc2 j p hj
    refine ⟨c, hs, hK _ _ hr, fun i u hu => ?_⟩
    have hb : (ad.add (j * d.sz + i)).block = ad.block := by unfold Addr.add; split <;> rfl
    have := hcell i u hu
    rwa [World.cell?_of_block (w := w) (w' := w1) (by rw [hb]; exact h.block _ h1 h2)]⟩
theorem below_set5 {w W : World} {g : Nat} (h : Below w.heap.size w W) (hg : w.heap.size ≤ g) (v0 v1 v2 v3 v4 : Value) : Below w.heap.size w (((((W.setCell ⟨g, 0, none⟩ v0).setCell ⟨g, 1, none⟩ v1).setCell ⟨g, 2, none⟩ v2).setCell ⟨g, 3, none⟩ v3).setCell ⟨g, 4, none⟩ v4) := set5_below h hg v0 v1 v2 v3 v4
attribute [local go_sem ↓] apA_eq
set_option maxHeartbeats 16000000 in
set_option maxRecDepth 100000 in
theorem rmake_calls (base gr cr cp : Nat) (AR AP : Option Addr) (L : List S52) (lr lp : List ByteArray) (percent : Int) (w : World) (h : RTab w base gr L) (hS : Sorted L) (hG : ∀ x ∈ L, chk x = true) (hl : L.length ≤ 1000) (hr : Kd.C Kd.string w AR lr.length lr) (hrc : lr.length ≤ cr) (hp : Kd.C Kd.string w AP lp.length lp) (hlr : lr.length ≤ 1000) (hlp : lp.length ≤ 1000) (hpc0 : 0 ≤ percent) (hpc1 : percent ≤ 100) :
    Calls Try.prog 12 #[.pointer (some ⟨gr, 0, none⟩), .slice AR lr.length cr, .slice AP lp.length cp, .int .i64 percent] w fun e w' => ∃ vD vR vK vS vM pk, e = .returned (.tuple #[.agg #[vD, vR, vK, vS, vM], .int .i64 0]) ∧ Rising pk ∧ (∀ s, s ∈ pk ↔ s ∈ lp ∨ ∃ x ∈ L, x.f1.f0 = s) ∧
      Kd.R Kd.string 9 w' w.heap.size (fun _ => True) vD (fated (rF L (memb lr)) percent 0 pk) ∧ Kd.R Kd.string 9 w' w.heap.size (fun _ => True) vR (fated (rF L (memb lr)) percent 1 pk) ∧ Kd.R Kd.string 9 w' w.heap.size (fun _ => True) vK (fated (rF L (memb lr)) percent 2 pk) ∧
      Kd.R k52 52 w' w.heap.size (fun _ => True) vS (rstayL L (memb lr) (memb (fated (rF L (memb lr)) percent 2 pk)) (idsOf L)) ∧ Kd.R Kd.string 9 w' w.heap.size (fun _ => True) vM (rmoveL L (memb lr) (memb (fated (rF L (memb lr)) percent 1 pk)) (idsOf L)) ∧ Below w.heap.size w w' := by
  have HT := Aside0.mk h
  have HS := Aside0.mk hS
  have HG := Aside0.mk hG
  have HR := Aside0.mk hr
  have HP := Aside0.mk hp
  clear h hS hG hr hp
  have hnl : ((none : Option Addr) == some ⟨gr, 0, none⟩) = false := rfl
  go_enter Try.func12, Try.ntmps12
  go_upto_region 3 with (fail)
  have HB0 : Aside0 (Below w.heap.size w (w.alloc (.cells #[.slice none 0 0, .slice none 0 0, .slice none 0 0, .slice none 0 0, .slice none 0 0] 39))) := ⟨below_alloc (Below.refl _ _) _⟩
  have HG0 : Aside0 ((w.alloc (.cells #[.slice none 0 0, .slice none 0 0, .slice none 0 0, .slice none 0 0, .slice none 0 0] 39)).heap[w.heap.size]? = some (.cells #[.slice none 0 0, .slice none 0 0, .slice none 0 0, .slice none 0 0, .slice none 0 0] 39 (0, 0))) := ⟨(MapKept.heap_alloc w _).1⟩
  generalize (w.alloc (.cells #[.slice none 0 0, .slice none 0 0, .slice none 0 0, .slice none 0 0, .slice none 0 0] 39)) = W at HB0 HG0 ⊢
  have HGE : Aside0 (w.heap.size < W.heap.size) := ⟨blk_lt HG0.out⟩
  go_wp2_with (fail)
  refine (rpacks_calls base gr L W (HT.out.below HB0.out) (by omega)).mono ?_
  rintro e w1 ⟨v, o, rfl, hR, hris, hmem, hol, hB⟩
  have HR1 := Aside0.mk hR
  have HRIS := Aside0.mk hris
  have HMEM := Aside0.mk hmem
  have HB1 := Aside0.mk hB
  have hol2 : o.length ≤ 1000 := by omega
  clear hR hris hmem hB hol
  go_wp2_with (fail)
  go_loopw [10, 11] (fun v10 v11 wr => ∃ k : Nat, k ≤ lp.length ∧ v11 = .int .i64 k ∧ ∃ o2, Aside0 (Kd.R Kd.string 9 wr W.heap.size (fun _ => True) v10 o2) ∧ Aside0 (Rising o2) ∧ Aside0 (∀ s, s ∈ o2 ↔ s ∈ lp.take k ∨ ∃ x ∈ L, x.f1.f0 = s) ∧ Aside0 (o2.length ≤ 1000 + k) ∧ Aside0 (Below W.heap.size W wr)) (fun _ v11 _ => lp.length - (intOf v11).toNat)
  case atStart => exact ⟨0, Nat.zero_le _, rfl, o, HR1, HRIS, ⟨fun s => by rw [HMEM.out]; simp⟩, ⟨hol2⟩, HB1⟩
  case round =>
    clear HR1 HRIS HMEM HB1 hol2
    obtain ⟨k, hk, rfl, o2, HO, HRIS, HMEM, HLE, HB⟩ := hrel
    have HBA := Aside0.mk (below_step HB0.out HB.out)
    by_cases hlt : k < lp.length
    · obtain ⟨ad, rfl, hx⟩ := Kd.at_string (Kd.C_below HP.out HBA.out) (k : Int) (by omega) (by omega)
      rw [rd9_get hlt, Int.toNat_natCast] at hx
      have HME2 : Aside0 (∀ s, (s ∈ lp.take (k + 1) ∨ ∃ x ∈ L, x.f1.f0 = s) ↔ (s ∈ lp.take k ∨ ∃ x ∈ L, x.f1.f0 = s) ∨ s = lp[k]) := ⟨fun s => by
        rw [List.take_succ_eq_append_getElem hlt, List.mem_append, List.mem_singleton]
        constructor
        · rintro ((h | h) | h)
          · exact .inl (.inl h)
          · exact .inr h
          · exact .inl (.inr h)
        · rintro ((h | h) | h)
          · exact .inl (.inl h)
          · exact .inr h
          · exact .inl (.inr h)⟩
      generalize lp[k] = s at hx HME2
      have hml : k < maxLen := by unfold maxLen; omega
      have hol : o2.length ≤ 10000 := by have := HLE.out; omega
      go_wp2_with (fail)
      refine (rising40_calls o2 s u10 W wr HB.out HO.out HRIS.out hol).mono ?_
      rintro e w1 ⟨v', rs, rfl, hR, hris, hmem, hrl, hB⟩
      have HR2 := Aside0.mk hR
      have HRI2 := Aside0.mk hris
      have HM2 : Aside0 (∀ z, z ∈ rs ↔ z ∈ lp.take (k + 1) ∨ ∃ x ∈ L, x.f1.f0 = z) := ⟨fun z => by rw [hmem, HME2.out, HMEM.out]⟩
      have HL2 : Aside0 (rs.length ≤ 1000 + (k + 1)) := ⟨by have := HLE.out; omega⟩
      have HB2 := Aside0.mk hB
      clear hR hris hmem hrl hB
      go_wp2_with (fail)
      go_roundw
      case rel => exact ⟨k + 1, by omega, by go_num, rs, HR2, HRI2, HM2, HL2, HB2⟩
      case measure => simp [intOf]; omega
    · obtain rfl : k = lp.length := by omega
      have HMEM2 : Aside0 (∀ s, s ∈ o2 ↔ s ∈ lp ∨ ∃ x ∈ L, x.f1.f0 = s) := ⟨fun s => by have := HMEM.out s; rwa [List.take_length] at this⟩
      have hol : o2.length ≤ 10000 := by have := HLE.out; omega
      have HGB := Aside0.mk (blk_below HG0.out HB.out)
      clear HMEM
      go_wp2_with (fail)
      obtain ⟨A7, c7, rfl, hle7, hC7⟩ := Kd.R_reads HO.out
      have HC7 := Aside0.mk (Kd.C_below hC7 (below_alloc (Below.refl wr.heap.size wr) (.cells #[.slice none 0 0, .slice none 0 0, .slice none 0 0, .slice none 0 0, .slice none 0 0] 39)))
      have HA7 : Aside0 (∀ ad, A7 = some ad → ad.block < wr.heap.size) := ⟨fun ad he => by
        subst he
        obtain ⟨inner, ho⟩ := Kd.R_own HO.out
        exact own_lt ho ad.block rfl⟩
      have HB3 : Aside0 (Below w.heap.size w (wr.alloc (.cells #[.slice none 0 0, .slice none 0 0, .slice none 0 0, .slice none 0 0, .slice none 0 0] 39))) := ⟨below_alloc HBA.out _⟩
      have HG3 : Aside0 ((wr.alloc (.cells #[.slice none 0 0, .slice none 0 0, .slice none 0 0, .slice none 0 0, .slice none 0 0] 39)).heap[w.heap.size]? = some (.cells #[.slice none 0 0, .slice none 0 0, .slice none 0 0, .slice none 0 0, .slice none 0 0] 39 (0, 0))) := ⟨blk_below HGB.out (below_alloc (Below.refl _ _) _)⟩
      have HP3 : Aside0 ((wr.alloc (.cells #[.slice none 0 0, .slice none 0 0, .slice none 0 0, .slice none 0 0, .slice none 0 0] 39)).heap[wr.heap.size]? = some (.cells #[.slice none 0 0, .slice none 0 0, .slice none 0 0, .slice none 0 0, .slice none 0 0] 39 (0, 0))) := ⟨(MapKept.heap_alloc wr _).1⟩
      have HPG : Aside0 (w.heap.size < wr.heap.size) := ⟨blk_lt HGB.out⟩
      have HBG : Aside0 (wr.heap.size < (wr.alloc (.cells #[.slice none 0 0, .slice none 0 0, .slice none 0 0, .slice none 0 0, .slice none 0 0] 39)).heap.size) := ⟨blk_lt HP3.out⟩
      generalize (wr.alloc (.cells #[.slice none 0 0, .slice none 0 0, .slice none 0 0, .slice none 0 0, .slice none 0 0] 39)) = W3 at HC7 HB3 HG3 HP3 HBG ⊢
      clear HO HBA HB hC7
      generalize wr.heap.size = gp at HA7 HP3 HPG HBG ⊢
      obtain ⟨B, hBe⟩ : ∃ B, B = W3.heap.size := ⟨_, rfl⟩
      have HBE := Aside0.mk hBe
      rw [← hBe] at HBG
      clear hBe
      go_loopw [13] (fun v13 wr => ∃ k : Nat, k ≤ o2.length ∧ v13 = .int .i64 k ∧ ∃ vD vR vK, Aside0 (wr.heap[gp]? = some (.cells #[vD, vR, vK, .slice none 0 0, .slice none 0 0] 39 (0, 0))) ∧ Aside0 (Kd.R Kd.string 9 wr B (fun _ => True) vD (fated (rF L (memb lr)) percent 0 (o2.take k))) ∧ Aside0 (Kd.R Kd.string 9 wr B (fun _ => True) vR (fated (rF L (memb lr)) percent 1 (o2.take k))) ∧ Aside0 (Kd.R Kd.string 9 wr B (fun _ => True) vK (fated (rF L (memb lr)) percent 2 (o2.take k))) ∧ Aside0 (Dis vD vR) ∧ Aside0 (Dis vD vK) ∧ Aside0 (Dis vR vK) ∧ Aside0 (KeepB B gp W3 wr) ∧ Aside0 (B ≤ wr.heap.size)) (fun v13 _ => o2.length - (intOf v13).toNat)
      case atStart => exact ⟨0, Nat.zero_le _, rfl, _, _, _, HP3, ⟨Kd.R_nil Kd.string 9 _ _ _⟩, ⟨Kd.R_nil Kd.string 9 _ _ _⟩, ⟨Kd.R_nil Kd.string 9 _ _ _⟩, ⟨Dis.nil _⟩, ⟨Dis.nil _⟩, ⟨Dis.nil _⟩, ⟨KeepB.of_below (Below.refl _ _) (by rw [HBE.out]; exact Nat.le_refl _)⟩, ⟨by rw [HBE.out]; exact Nat.le_refl _⟩⟩
      case round =>
        obtain ⟨k, hk, rfl, vD, vR, vK, HPW, HD, HRW, HKW, D1, D2, D3, HKB, HBS⟩ := hrel
        have HKE : Aside0 (KeepB W3.heap.size gp W3 wr) := ⟨by rw [← HBE.out]; exact HKB.out⟩
        have HBL : Aside0 (Below w.heap.size w wr) := ⟨HKE.out.toBelow HB3.out (Nat.le_of_lt HPG.out) HB3.out.size⟩
        by_cases hlt : k < o2.length
        · obtain ⟨ad, rfl, _⟩ := Kd.at_string HC7.out (k : Int) (by omega) (by omega)
          have ha := HA7.out ad rfl
          obtain ⟨ad', e, hx⟩ := Kd.at_string (HKB.out.Cs HC7.out (by have := HBG.out; omega) (by omega)) (k : Int) (by omega) (by omega)
          injection e with e
          subst e
          rw [rd9_get hlt, Int.toNat_natCast] at hx
          have HTT := Aside0.mk (fun n => fated_take (rF L (memb lr)) percent n o2 k hlt)
          have HLN : Aside0 (∀ n, (fated (rF L (memb lr)) percent n (o2.take k)).length ≤ 10000) := ⟨fun n => by have := fated_len (rF L (memb lr)) percent n (o2.take k); have := List.length_take_le k o2; omega⟩
          generalize o2[k] = s at hx HTT
          have hml : k < maxLen := by unfold maxLen; omega
          have hadb : (ad.add k).block = ad.block := by unfold Addr.add; split <;> rfl
          go_wp2_with (fail)
          refine (rweigh_calls base gr cr AR L lr s wr (HT.out.below HBL.out) (by omega) HG.out (Kd.C_below HR.out HBL.out) hrc (by omega)).mono ?_
          rintro e w4 ⟨rfl, hB⟩
          have hwb := rW_bound L (memb lr) s L (0, 0) 0 (fun y hy => by have := size32 (HG.out y hy); omega) (by simp)
          rw [← rW] at hwb
          obtain ⟨a, b, hab⟩ : ∃ a b, rW L (memb lr) s L = (a, b) := ⟨_, _, rfl⟩
          have HAB : Aside0 (rF L (memb lr) s.data.toList = (a, b)) := ⟨by rw [rF_of, hab]⟩
          rw [hab] at hwb ⊢
          simp only [Nat.zero_add] at hwb
          obtain ⟨ha0, ha1, hb0, hb1⟩ := hwb
          have ha2 : a ≤ 400000000 := by omega
          have hb2 : b ≤ 400000000 := by omega
          have sx : w4.cell? (ad.add k) = some (.string s) := pw_cell_below hB hx
          have HPW1 := Aside0.mk (blk_below HPW.out hB)
          have HD1 := Aside0.mk (Kd.R_below HD.out hB)
          have HRW1 := Aside0.mk (Kd.R_below HRW.out hB)
          have HKW1 := Aside0.mk (Kd.R_below HKW.out hB)
          have HKB1 : Aside0 (KeepB B gp W3 w4) := ⟨HKB.out.trans (KeepB.of_below hB HBS.out)⟩
          have HBS1 : Aside0 (B ≤ w4.heap.size) := ⟨Nat.le_trans HBS.out hB.size⟩
          have HBB : Aside0 (Below B w4 w4) := ⟨Below.refl _ _⟩
          clear ha1 hb1 hab hx HPW HD HRW HKW HKB HBS HKE HBL hB
          have p0 : w4.cell? ⟨gp, 0, none⟩ = some vD := (blk_cell HPW1.out 0).trans rfl
          have p1 : w4.cell? ⟨gp, 1, none⟩ = some vR := (blk_cell HPW1.out 1).trans rfl
          have p2 : w4.cell? ⟨gp, 2, none⟩ = some vK := (blk_cell HPW1.out 2).trans rfl
          by_cases ca : a = 0
          · have HF : Aside0 (fate (rF L (memb lr)) percent s = 0) := ⟨by unfold fate; rw [HAB.out, if_pos ca]⟩
            have cb : (a == 0) = true := beq_iff_eq.2 ca
            clear ca
            go_wp2_with (fail)
            obtain ⟨v9, w9, hrun, ho, hg, hat⟩ := append9 23 HD1.out s HBS1.out (by have := HLN.out 0; omega)
            obtain ⟨A9, c9, hv9⟩ := Kd.R_slice ho
            subst hv9
            obtain ⟨n9, hn9⟩ : ∃ n9, n9 = ((fated (rF L (memb lr)) percent 0 (o2.take k)) ++ [s]).length := ⟨_, rfl⟩
            rw [← hn9] at ho hat hrun
            clear hn9
            have HKR := Aside0.mk (keep_dis HRW1.out rfl (Aside0.mk D1.out.symm).out hg hat)
            have HKK := Aside0.mk (keep_dis HKW1.out rfl (Aside0.mk D2.out.symm).out hg hat)
            have HO9 := Aside0.mk ho
            have HP9 : Aside0 (w9.heap[gp]? = some (.cells #[vD, vR, vK, .slice none 0 0, .slice none 0 0] 39 (0, 0))) := ⟨(hg.block gp (blk_lt HPW1.out) (Kd.R_ne HD1.out HPW1.out (by decide))).trans HPW1.out⟩
            have HG9 : Aside0 (KeepB B gp w4 w9) := ⟨KeepB.grown hg HBS1.out (fun k hk => Kd.R_base HD1.out k hk)⟩
            have HS9 : Aside0 (B ≤ w9.heap.size) := ⟨Nat.le_trans HBS1.out hg.size⟩
            have hp9 : w9.cell? ⟨gp, 0, none⟩ = some (vD) := (blk_cell HP9.out 0).trans rfl
            have hf9 := blk_frozen HP9.out 0
            have HQ0 : (w4.alloc (.cells #[.string s] 9)).drew.cell? ⟨gp, 0, none⟩ = some vD := pw_cell_below (below_drew1 (below_alloc (Below.refl _ _) _)) p0
            have HQ1 : (w4.alloc (.cells #[.string s] 9)).cell? ⟨gp, 0, none⟩ = some vD := pw_cell_below (below_alloc (Below.refl _ _) _) p0
            have HQ3 : (w4.alloc (.cells #[.string s] 9)).drew.cell? (ad.add k) = some (.string s) := pw_cell_below (below_drew1 (below_alloc (Below.refl _ _) _)) sx
            clear ho hg hat
            go_region_with (fail)
            all_goals go_wp2_with (fail)
            all_goals go_roundw
            all_goals first
              | exact ⟨k + 1, by omega, by go_num, (.slice A9 n9 c9), vR, vK, ⟨blk_set HP9.out 0 _⟩, ⟨by rw [HTT.out 0, HF.out]; simpa using Kd.R_set HO9.out HP9.out (by decide) _ _⟩, ⟨by rw [HTT.out 1, HF.out]; simpa using Kd.R_set HKR.out.1 HP9.out (by decide) _ _⟩, ⟨by rw [HTT.out 2, HF.out]; simpa using Kd.R_set HKK.out.1 HP9.out (by decide) _ _⟩, ⟨HKR.out.2.symm⟩, ⟨HKK.out.2.symm⟩, D3, ⟨(HKB1.out.trans HG9.out).trans (KeepB.set _ _ _)⟩, ⟨by have := HS9.out; simp; omega⟩⟩
              | (simp [intOf]; omega)
          · have cb : (a == 0) = false := beq_eq_false_iff_ne.2 ca
            obtain ⟨pq, hpq⟩ : ∃ pq, pq = percent * b := ⟨_, rfl⟩
            have hpq0 : 0 ≤ pq := by rw [hpq]; exact Int.mul_nonneg hpc0 hb0
            have hpq1 : pq ≤ 100 * 400000000 := by rw [hpq]; exact Int.mul_le_mul hpc1 hb2 hb0 (by decide)
            have wpq : IntKind.i64.wrap (percent * b) = pq := by rw [IntKind.wrap_i64, ← hpq]; omega
            by_cases cc : (b - a) * 100 ≤ pq
            · have HF : Aside0 (fate (rF L (memb lr)) percent s = 2) := ⟨by unfold fate; rw [HAB.out, if_neg ca, if_pos (by rw [← hpq]; exact cc)]⟩
              clear ca hpq
              go_wp2_with (fail)
              obtain ⟨v9, w9, hrun, ho, hg, hat⟩ := append9 23 HKW1.out s HBS1.out (by have := HLN.out 2; omega)
              obtain ⟨A9, c9, hv9⟩ := Kd.R_slice ho
              subst hv9
              obtain ⟨n9, hn9⟩ : ∃ n9, n9 = ((fated (rF L (memb lr)) percent 2 (o2.take k)) ++ [s]).length := ⟨_, rfl⟩
              rw [← hn9] at ho hat hrun
              clear hn9
              have HKD := Aside0.mk (keep_dis HD1.out rfl D2.out hg hat)
              have HKR := Aside0.mk (keep_dis HRW1.out rfl D3.out hg hat)
              have HO9 := Aside0.mk ho
              have HP9 : Aside0 (w9.heap[gp]? = some (.cells #[vD, vR, vK, .slice none 0 0, .slice none 0 0] 39 (0, 0))) := ⟨(hg.block gp (blk_lt HPW1.out) (Kd.R_ne HKW1.out HPW1.out (by decide))).trans HPW1.out⟩
              have HG9 : Aside0 (KeepB B gp w4 w9) := ⟨KeepB.grown hg HBS1.out (fun k hk => Kd.R_base HKW1.out k hk)⟩
              have HS9 : Aside0 (B ≤ w9.heap.size) := ⟨Nat.le_trans HBS1.out hg.size⟩
              have hp9 : w9.cell? ⟨gp, 2, none⟩ = some (vK) := (blk_cell HP9.out 2).trans rfl
              have hf9 := blk_frozen HP9.out 2
              have HQ0 : (w4.alloc (.cells #[.string s] 9)).drew.cell? ⟨gp, 2, none⟩ = some vK := pw_cell_below (below_drew1 (below_alloc (Below.refl _ _) _)) p2
              have HQ1 : (w4.alloc (.cells #[.string s] 9)).cell? ⟨gp, 2, none⟩ = some vK := pw_cell_below (below_alloc (Below.refl _ _) _) p2
              have HQ3 : (w4.alloc (.cells #[.string s] 9)).drew.cell? (ad.add k) = some (.string s) := pw_cell_below (below_drew1 (below_alloc (Below.refl _ _) _)) sx
              clear ho hg hat
              go_region_with (fail)
              all_goals go_wp2_with (fail)
              all_goals go_roundw
              all_goals first
                | exact ⟨k + 1, by omega, by go_num, vD, vR, (.slice A9 n9 c9), ⟨blk_set HP9.out 2 _⟩, ⟨by rw [HTT.out 0, HF.out]; simpa using Kd.R_set HKD.out.1 HP9.out (by decide) _ _⟩, ⟨by rw [HTT.out 1, HF.out]; simpa using Kd.R_set HKR.out.1 HP9.out (by decide) _ _⟩, ⟨by rw [HTT.out 2, HF.out]; simpa using Kd.R_set HO9.out HP9.out (by decide) _ _⟩, D1, ⟨HKD.out.2⟩, ⟨HKR.out.2⟩, ⟨(HKB1.out.trans HG9.out).trans (KeepB.set _ _ _)⟩, ⟨by have := HS9.out; simp; omega⟩⟩
                | (simp [intOf]; omega)
            · have HF : Aside0 (fate (rF L (memb lr)) percent s = 1) := ⟨by unfold fate; rw [HAB.out, if_neg ca, if_neg (by rw [← hpq]; exact cc)]⟩
              have cc2 : pq < (b - a) * 100 := by omega
              clear ca hpq cc
              go_wp2_with (fail)
              obtain ⟨v9, w9, hrun, ho, hg, hat⟩ := append9 23 HRW1.out s HBS1.out (by have := HLN.out 1; omega)
              obtain ⟨A9, c9, hv9⟩ := Kd.R_slice ho
              subst hv9
              obtain ⟨n9, hn9⟩ : ∃ n9, n9 = ((fated (rF L (memb lr)) percent 1 (o2.take k)) ++ [s]).length := ⟨_, rfl⟩
              rw [← hn9] at ho hat hrun
              clear hn9
              have HKD := Aside0.mk (keep_dis HD1.out rfl D1.out hg hat)
              have HKK := Aside0.mk (keep_dis HKW1.out rfl (Aside0.mk D3.out.symm).out hg hat)
              have HO9 := Aside0.mk ho
              have HP9 : Aside0 (w9.heap[gp]? = some (.cells #[vD, vR, vK, .slice none 0 0, .slice none 0 0] 39 (0, 0))) := ⟨(hg.block gp (blk_lt HPW1.out) (Kd.R_ne HRW1.out HPW1.out (by decide))).trans HPW1.out⟩
              have HG9 : Aside0 (KeepB B gp w4 w9) := ⟨KeepB.grown hg HBS1.out (fun k hk => Kd.R_base HRW1.out k hk)⟩
              have HS9 : Aside0 (B ≤ w9.heap.size) := ⟨Nat.le_trans HBS1.out hg.size⟩
              have hp9 : w9.cell? ⟨gp, 1, none⟩ = some (vR) := (blk_cell HP9.out 1).trans rfl
              have hf9 := blk_frozen HP9.out 1
              have HQ0 : (w4.alloc (.cells #[.string s] 9)).drew.cell? ⟨gp, 1, none⟩ = some vR := pw_cell_below (below_drew1 (below_alloc (Below.refl _ _) _)) p1
              have HQ1 : (w4.alloc (.cells #[.string s] 9)).cell? ⟨gp, 1, none⟩ = some vR := pw_cell_below (below_alloc (Below.refl _ _) _) p1
              have HQ3 : (w4.alloc (.cells #[.string s] 9)).drew.cell? (ad.add k) = some (.string s) := pw_cell_below (below_drew1 (below_alloc (Below.refl _ _) _)) sx
              clear ho hg hat
              go_region_with (fail)
              all_goals go_wp2_with (fail)
              all_goals go_roundw
              all_goals first
                | exact ⟨k + 1, by omega, by go_num, vD, (.slice A9 n9 c9), vK, ⟨blk_set HP9.out 1 _⟩, ⟨by rw [HTT.out 0, HF.out]; simpa using Kd.R_set HKD.out.1 HP9.out (by decide) _ _⟩, ⟨by rw [HTT.out 1, HF.out]; simpa using Kd.R_set HO9.out HP9.out (by decide) _ _⟩, ⟨by rw [HTT.out 2, HF.out]; simpa using Kd.R_set HKK.out.1 HP9.out (by decide) _ _⟩, ⟨HKD.out.2⟩, D2, ⟨HKK.out.2.symm⟩, ⟨(HKB1.out.trans HG9.out).trans (KeepB.set _ _ _)⟩, ⟨by have := HS9.out; simp; omega⟩⟩
                | (simp [intOf]; omega)
        · obtain rfl : k = o2.length := by omega
          have hDe := HD.out
          have hRe := HRW.out
          have hKe := HKW.out
          rw [List.take_length] at hDe hRe hKe
          obtain ⟨lD, hlD⟩ : ∃ l, l = fated (rF L (memb lr)) percent 0 o2 := ⟨_, rfl⟩
          obtain ⟨lR, hlR⟩ : ∃ l, l = fated (rF L (memb lr)) percent 1 o2 := ⟨_, rfl⟩
          obtain ⟨lK, hlK⟩ : ∃ l, l = fated (rF L (memb lr)) percent 2 o2 := ⟨_, rfl⟩
          rw [← hlD] at hDe
          rw [← hlR] at hRe
          rw [← hlK] at hKe
          have hRl : lR.length ≤ 10000 := by rw [hlR]; exact Nat.le_trans (fated_len _ _ _ _) hol
          have hKl : lK.length ≤ 10000 := by rw [hlK]; exact Nat.le_trans (fated_len _ _ _ _) hol
          have HEQ : Aside0 (lD = fated (rF L (memb lr)) percent 0 o2 ∧ lR = fated (rF L (memb lr)) percent 1 o2 ∧ lK = fated (rF L (memb lr)) percent 2 o2) := ⟨hlD, hlR, hlK⟩
          have HNOW : Aside0 (some gp ≠ vD.ownBlock ∧ some gp ≠ vR.ownBlock ∧ some gp ≠ vK.ownBlock) := ⟨Kd.R_ne hDe HPW.out (by decide), Kd.R_ne hRe HPW.out (by decide), Kd.R_ne hKe HPW.out (by decide)⟩
          have HGW := Aside0.mk (HKE.out.blk HG3.out (by have := HBG.out; rw [← HBE.out]; have := HPG.out; omega) (by have := HPG.out; omega))
          obtain ⟨AD, cD, rfl, _, _⟩ := Kd.R_reads hDe
          obtain ⟨AR2, cR, rfl, hleR, _⟩ := Kd.R_reads hRe
          obtain ⟨AK, cK, rfl, hleK, _⟩ := Kd.R_reads hKe
          have HD4 := Aside0.mk hDe
          have HR4 := Aside0.mk hRe
          have HK4 := Aside0.mk hKe
          clear hDe hRe hKe hlD hlR hlK HD HRW HKW
          go_wp2_with (fail)
          refine (rids_calls base gr L wr (HT.out.below HBL.out) (by omega)).mono ?_
          rintro e w4 ⟨v16, rfl, hR, hB⟩
          obtain ⟨li, hli⟩ : ∃ l, l = idsOf L := ⟨_, rfl⟩
          rw [← hli] at hR
          have HLI := Aside0.mk hli
          have hil : li.length ≤ 1000 := by rw [hli]; exact Nat.le_trans (idsOf_len _) hl
          have HID : Aside0 (∀ id ∈ li, ∃ p ps, places L id = p :: ps) := ⟨fun id hid => by
            rw [hli] at hid
            obtain ⟨x, hx, rfl⟩ := (idsOf_mem _ _).1 hid
            exact places_ne _ _ hx⟩
          obtain ⟨AI, cI, rfl, hleI, hCI⟩ := Kd.R_reads hR
          have HCI := Aside0.mk hCI
          have HAI : Aside0 (∀ ad, AI = some ad → ad.block < w4.heap.size ∧ ad.block ≠ gp) := ⟨fun ad he => by
            subst he
            obtain ⟨inner, ho⟩ := Kd.R_own hR
            have h1 := own_lt ho ad.block rfl
            have h2 := own_base ho ad.block rfl
            have h3 := blk_lt HPW.out
            omega⟩
          have HB12 := Aside0.mk (below_step HBL.out hB)
          have HG12 := Aside0.mk (blk_below HGW.out hB)
          have HP12 := Aside0.mk (blk_below HPW.out hB)
          have HD12 := Aside0.mk (Kd.R_below HD4.out hB)
          have HR12 := Aside0.mk (Kd.R_below HR4.out hB)
          have HK12 := Aside0.mk (Kd.R_below HK4.out hB)
          have HBB2 : Aside0 (w.heap.size ≤ B) := ⟨by have := HBG.out; have := HPG.out; omega⟩
          have HBS2 : Aside0 (B ≤ w4.heap.size) := ⟨Nat.le_trans HBS.out hB.size⟩
          have HAK : Aside0 (∀ ad, AK = some ad → ad.block < w4.heap.size ∧ ad.block ≠ gp) := ⟨fun ad he => by
            subst he
            obtain ⟨inner, ho⟩ := Kd.R_own HK12.out
            exact ⟨own_lt ho ad.block rfl, fun h => HNOW.out.2.2 (by rw [← h]; rfl)⟩⟩
          have HAR2 : Aside0 (∀ ad, AR2 = some ad → ad.block < w4.heap.size ∧ ad.block ≠ gp) := ⟨fun ad he => by
            subst he
            obtain ⟨inner, ho⟩ := Kd.R_own HR12.out
            exact ⟨own_lt ho ad.block rfl, fun h => HNOW.out.2.1 (by rw [← h]; rfl)⟩⟩
          clear hR hB hCI hli HD4 HR4 HK4 HKB HBS HKE HBL HGW HPW
          obtain ⟨B2, hBe2⟩ : ∃ B2, B2 = w4.heap.size := ⟨_, rfl⟩
          have HBE2 := Aside0.mk hBe2
          have HBG2 : Aside0 (gp < B2) := ⟨by rw [hBe2]; exact blk_lt HP12.out⟩
          have HBW2 : Aside0 (w.heap.size ≤ B2) := ⟨by rw [hBe2]; exact HB12.out.size⟩
          clear hBe2
          go_wp2_with (fail)
          go_loopw [17] (fun v17 wr => ∃ k : Nat, k ≤ li.length ∧ v17 = .int .i64 k ∧ ∃ vS vM, Aside0 (wr.heap[gp]? = some (.cells #[.slice AD lD.length cD, .slice AR2 lR.length cR, .slice AK lK.length cK, vS, vM] 39 (0, 0))) ∧ Aside0 (Kd.R k52 52 wr B2 (fun _ => True) vS (rstayL L (memb lr) (memb lK) (li.take k))) ∧ Aside0 (Kd.R Kd.string 9 wr B2 (fun _ => True) vM (rmoveL L (memb lr) (memb lR) (li.take k))) ∧ Aside0 (KeepB B2 gp w4 wr) ∧ Aside0 (B2 ≤ wr.heap.size)) (fun v17 _ => li.length - (intOf v17).toNat)
          case atStart => exact ⟨0, Nat.zero_le _, rfl, _, _, HP12, ⟨Kd.R_nil k52 52 _ _ _⟩, ⟨Kd.R_nil Kd.string 9 _ _ _⟩, ⟨KeepB.of_below (Below.refl _ _) (by rw [HBE2.out]; exact Nat.le_refl _)⟩, ⟨by rw [HBE2.out]; exact Nat.le_refl _⟩⟩
          case round =>
            obtain ⟨k, hk, rfl, vS, vM, HPW, HSW, HMW, HKB, HBS⟩ := hrel
            have HKE : Aside0 (KeepB w4.heap.size gp w4 wr) := ⟨by rw [← HBE2.out]; exact HKB.out⟩
            have HBL : Aside0 (Below w.heap.size w wr) := ⟨HKE.out.toBelow HB12.out (Nat.le_of_lt HPG.out) HB12.out.size⟩
            by_cases hlt : k < li.length
            · obtain ⟨ad, rfl, _⟩ := Kd.at_string HCI.out (k : Int) (by omega) (by omega)
              obtain ⟨ha1, ha2⟩ := HAI.out ad rfl
              obtain ⟨ad', e, hx⟩ := Kd.at_string (HKE.out.Cs HCI.out ha1 ha2) (k : Int) (by omega) (by omega)
              injection e with e
              subst e
              rw [rd9_get hlt, Int.toNat_natCast] at hx
              have hts := rstayL_take L (memb lr) (memb lK) li k hlt
              have htm := rmoveL_take L (memb lr) (memb lR) li k hlt
              obtain ⟨p, ps, hpl⟩ := HID.out li[k] (List.getElem_mem hlt)
              have HGETP : (getP L li[k]).1 = p := by unfold getP; rw [hpl]
              rw [hpl, show rstayQ (memb lr li[k].data.toList) (memb lK) (p :: ps) = rstayP (memb lr li[k].data.toList) (memb lK) p ps from rfl] at hts
              rw [HGETP] at htm
              clear ha1 ha2
              generalize hid : li[k] = id at hx hts htm hpl HGETP
              have HIE := Aside0.mk hid
              clear hid
              obtain ⟨sp, so, hso⟩ : ∃ sp so, rstayP (memb lr id.data.toList) (memb lK) p ps = (sp, so) := ⟨_, _, rfl⟩
              rw [hso] at hts
              have HTS := Aside0.mk hts
              have HTM := Aside0.mk htm
              have HPLC := Aside0.mk hpl
              have HGP := Aside0.mk HGETP
              have HSO := Aside0.mk hso
              have hml : k < maxLen := by unfold maxLen; omega
              obtain ⟨AS, cS, hvS⟩ := Kd.R_slice HSW.out
              obtain ⟨nS, hnS⟩ : ∃ n, n = (rstayL L (memb lr) (memb lK) (li.take k)).length := ⟨_, rfl⟩
              rw [← hnS] at hvS
              subst hvS
              obtain ⟨AM, cM, hvM⟩ := Kd.R_slice HMW.out
              obtain ⟨nM, hnM⟩ : ∃ n, n = (rmoveL L (memb lr) (memb lR) (li.take k)).length := ⟨_, rfl⟩
              rw [← hnM] at hvM
              subst hvM
              have HSLN : Aside0 ((rstayL L (memb lr) (memb lK) (li.take k)).length ≤ 5000) := ⟨by unfold rstayL; have h1 := List.length_filterMap_le (fun id => if (rstayQ (memb lr id.data.toList) (memb lK) (places L id)).2 then some (⟨id, (rstayQ (memb lr id.data.toList) (memb lK) (places L id)).1⟩ : S52) else none) (li.take k); have := List.length_take_le k li; omega⟩
              have HMLN : Aside0 ((rmoveL L (memb lr) (memb lR) (li.take k)).length ≤ 5000) := ⟨by unfold rmoveL; have h1 := List.length_filter_le (fun id => memb lr id.data.toList && memb lR (getP L id).1.f0.data.toList) (li.take k); have := List.length_take_le k li; omega⟩
              have HCKW := Aside0.mk (KeepB.CA HKE.out (fun _ _ h => h) (C_of_R HK12.out).1 HAK.out)
              have HCRW := Aside0.mk (KeepB.CA HKE.out (fun _ _ h => h) (C_of_R HR12.out).1 HAR2.out)
              have hst := fun W (hB : Below wr.heap.size wr W) => rstays_calls base gr cr cK lD.length lR.length nS nM cD cR cS cM AR AK AD AR2 AS AM L lr lK id p ps W (HT.out.below (below_step HBL.out hB)) (by omega) (Kd.C_below HR.out (below_step HBL.out hB)) hrc (by omega) (Kd.C_below HCKW.out hB) hleK hKl HPLC.out
              have HLI2 := Aside0.mk hnS
              clear hts htm hpl HGETP hso hnS hnM
              go_upto_region 22 with (fail)
              have k0 : wr.cell? ⟨gp, 0, none⟩ = some (.slice AD lD.length cD) := (blk_cell HPW.out 0).trans rfl
              have k1 : wr.cell? ⟨gp, 1, none⟩ = some (.slice AR2 lR.length cR) := (blk_cell HPW.out 1).trans rfl
              have k2 : wr.cell? ⟨gp, 2, none⟩ = some (.slice AK lK.length cK) := (blk_cell HPW.out 2).trans rfl
              have k3 : wr.cell? ⟨gp, 3, none⟩ = some (.slice AS nS cS) := (blk_cell HPW.out 3).trans rfl
              have k4 : wr.cell? ⟨gp, 4, none⟩ = some (.slice AM nM cM) := (blk_cell HPW.out 4).trans rfl
              have hS : ∀ W : World, Below wr.heap.size wr W → (W.cell? ⟨gp, 0, none⟩ = some (.slice AD lD.length cD) ∧ W.cell? ⟨gp, 1, none⟩ = some (.slice AR2 lR.length cR) ∧ W.cell? ⟨gp, 2, none⟩ = some (.slice AK lK.length cK) ∧ W.cell? ⟨gp, 3, none⟩ = some (.slice AS nS cS) ∧ W.cell? ⟨gp, 4, none⟩ = some (.slice AM nM cM) ∧ W.cell? (ad.add k) = some (.string id) ∧ Below wr.heap.size wr W) := fun W hB => ⟨pw_cell_below hB k0, pw_cell_below hB k1, pw_cell_below hB k2, pw_cell_below hB k3, pw_cell_below hB k4, pw_cell_below hB hx, hB⟩
              have hK1 : ∀ W W' : World, (W.cell? ⟨gp, 0, none⟩ = some (.slice AD lD.length cD) ∧ W.cell? ⟨gp, 1, none⟩ = some (.slice AR2 lR.length cR) ∧ W.cell? ⟨gp, 2, none⟩ = some (.slice AK lK.length cK) ∧ W.cell? ⟨gp, 3, none⟩ = some (.slice AS nS cS) ∧ W.cell? ⟨gp, 4, none⟩ = some (.slice AM nM cM) ∧ W.cell? (ad.add k) = some (.string id) ∧ Below wr.heap.size wr W) → Below W.heap.size W W' → (W'.cell? ⟨gp, 0, none⟩ = some (.slice AD lD.length cD) ∧ W'.cell? ⟨gp, 1, none⟩ = some (.slice AR2 lR.length cR) ∧ W'.cell? ⟨gp, 2, none⟩ = some (.slice AK lK.length cK) ∧ W'.cell? ⟨gp, 3, none⟩ = some (.slice AS nS cS) ∧ W'.cell? ⟨gp, 4, none⟩ = some (.slice AM nM cM) ∧ W'.cell? (ad.add k) = some (.string id) ∧ Below wr.heap.size wr W') := fun W W' h hB => hS _ (below_step h.2.2.2.2.2.2 hB)
              have hst' : ∀ W : World, (W.cell? ⟨gp, 0, none⟩ = some (.slice AD lD.length cD) ∧ W.cell? ⟨gp, 1, none⟩ = some (.slice AR2 lR.length cR) ∧ W.cell? ⟨gp, 2, none⟩ = some (.slice AK lK.length cK) ∧ W.cell? ⟨gp, 3, none⟩ = some (.slice AS nS cS) ∧ W.cell? ⟨gp, 4, none⟩ = some (.slice AM nM cM) ∧ W.cell? (ad.add k) = some (.string id) ∧ Below wr.heap.size wr W) → _ := fun W h => hst W h.2.2.2.2.2.2
              go_cut [18, 19] (fun v18 v19 wc => ∃ gx, v18 = .pointer (some ⟨gx, 0, none⟩) ∧ v19 = .bool so ∧ Aside0 (wc.heap[gx]? = some (.cells #[.string sp.f0, .int .i64 sp.f1, .int .i64 sp.f2, .int .i64 sp.f3, .int .i64 sp.f4] 50 (0, 0))) ∧ Aside0 (Below wr.heap.size wr wc))
              case first =>
                go_region_held3 (fun W => W.cell? ⟨gp, 0, none⟩ = some (.slice AD lD.length cD) ∧ W.cell? ⟨gp, 1, none⟩ = some (.slice AR2 lR.length cR) ∧ W.cell? ⟨gp, 2, none⟩ = some (.slice AK lK.length cK) ∧ W.cell? ⟨gp, 3, none⟩ = some (.slice AS nS cS) ∧ W.cell? ⟨gp, 4, none⟩ = some (.slice AM nM cM) ∧ W.cell? (ad.add k) = some (.string id) ∧ Below wr.heap.size wr W) (first | (with_reducible assumption) | (with_reducible exact hS _ (below_set5 HB5 (Nat.le_refl _) _ _ _ _ _)) | (with_reducible exact hS _ (below_alloc HB5 _)) | (with_reducible exact hS _ (Below.refl _ _)) | (with_reducible exact hS _ (below_drew (Below.refl _ _))) | (with_reducible exact hK1 _ _ (by assumption) (by assumption)) | (with_reducible exact hK1 _ _ (by assumption) (below_alloc (Below.refl _ _) _)) | (with_reducible exact hK1 _ _ (by assumption) (below_drew (Below.refl _ _)))) (first | (go_at_call 43; (with_reducible refine (hst' _ (by assumption)).mono ?_); rintro e w5 ⟨rfl, hB⟩; rw [HSO.out]; unfold v50; dsimp only; have HB5 : Below wr.heap.size wr w5 := (hK1 _ _ (by assumption) hB).2.2.2.2.2.2; have HL5 : wr.heap.size ≤ w5.heap.size := HB5.size; first | (have HX5 : Aside0 (w5.heap[wr.heap.size]? = some (.cells #[.string ⟨#[]⟩, .int .i64 0, .int .i64 0, .int .i64 0, .int .i64 0] 50 (0, 0))) := ⟨blk_below (show ((wr.alloc (.cells #[.string ⟨#[]⟩, .int .i64 0, .int .i64 0, .int .i64 0, .int .i64 0] 50)).drew).heap[wr.heap.size]? = some (.cells #[.string ⟨#[]⟩, .int .i64 0, .int .i64 0, .int .i64 0, .int .i64 0] 50 (0, 0)) from (MapKept.heap_alloc wr (.cells #[.string ⟨#[]⟩, .int .i64 0, .int .i64 0, .int .i64 0, .int .i64 0] 50)).1) hB⟩; have z0 : w5.cell? ⟨wr.heap.size, 0, none⟩ = some (.string ⟨#[]⟩) := (blk_cell HX5.out 0).trans rfl; have f0 := blk_frozen HX5.out 0; have z1 : w5.cell? ⟨wr.heap.size, 1, none⟩ = some (.int .i64 0) := (blk_cell HX5.out 1).trans rfl; have f1 := blk_frozen HX5.out 1; have z2 : w5.cell? ⟨wr.heap.size, 2, none⟩ = some (.int .i64 0) := (blk_cell HX5.out 2).trans rfl; have f2 := blk_frozen HX5.out 2; have z3 : w5.cell? ⟨wr.heap.size, 3, none⟩ = some (.int .i64 0) := (blk_cell HX5.out 3).trans rfl; have f3 := blk_frozen HX5.out 3; have z4 : w5.cell? ⟨wr.heap.size, 4, none⟩ = some (.int .i64 0) := (blk_cell HX5.out 4).trans rfl; have f4 := blk_frozen HX5.out 4) | skip))
                · go_wp2_with (fail)
                  go_meet
                  case rel => exact ⟨w5.heap.size, rfl, rfl, ⟨(MapKept.heap_alloc w5 _).1⟩, ⟨below_alloc HB5 _⟩⟩
                · go_wp2_with (fail)
                  go_meet
                  case rel => exact ⟨wr.heap.size, rfl, rfl, ⟨set5_blk HX5.out (.string sp.f0) (.int .i64 sp.f1) (.int .i64 sp.f2) (.int .i64 sp.f3) (.int .i64 sp.f4)⟩, ⟨below_set5 HB5 (Nat.le_refl _) _ _ _ _ _⟩⟩
              case rest =>
                obtain ⟨gx, rfl, rfl, HX5, HB45⟩ := hcut
                have HBC := Aside0.mk (below_step HBL.out HB45.out)
                have HP5 := Aside0.mk (blk_below HPW.out HB45.out)
                have HS5 := Aside0.mk (Kd.R_below HSW.out HB45.out)
                have HM5 := Aside0.mk (Kd.R_below HMW.out HB45.out)
                have HK5 : Aside0 (KeepB B2 gp w4 wc) := ⟨HKB.out.trans (KeepB.of_below HB45.out HBS.out)⟩
                have HBS5 : Aside0 (B2 ≤ wc.heap.size) := ⟨Nat.le_trans HBS.out HB45.out.size⟩
                have sx : wc.cell? (ad.add k) = some (.string id) := pw_cell_below HB45.out hx
                clear k0 k1 k2 k3 k4 hS hK1 hst hst' hx HB45 HCKW HCRW HPW HSW HMW HKB HKE HBL HBS
                go_upto_if 119 with (fail)
                go_cut [] (fun wc => ∃ vS6, Aside0 (wc.heap[gp]? = some (.cells #[.slice AD lD.length cD, .slice AR2 lR.length cR, .slice AK lK.length cK, vS6, .slice AM nM cM] 39 (0, 0))) ∧ Aside0 (Kd.R k52 52 wc B2 (fun _ => True) vS6 (rstayL L (memb lr) (memb lK) (li.take (k + 1)))) ∧ Aside0 (Kd.R Kd.string 9 wc B2 (fun _ => True) (.slice AM nM cM) (rmoveL L (memb lr) (memb lR) (li.take k))) ∧ Aside0 (KeepB B2 gp w4 wc) ∧ Aside0 (B2 ≤ wc.heap.size))
                case first =>
                  cases so with
                  | false =>
                    go_wp2_with (fail)
                    go_meet
                    case rel => exact ⟨_, HP5, ⟨by rw [HTS.out]; simpa using HS5.out⟩, HM5, HK5, HBS5⟩
                  | true =>
                    obtain ⟨v9, w9, hrun, ho, hg, hat⟩ := append52 22 HS5.out (⟨id, sp⟩ : S52) HBS5.out (by have := HSLN.out; omega)
                    obtain ⟨A9, c9, hv9⟩ := Kd.R_slice ho
                    subst hv9
                    obtain ⟨n9, hn9⟩ : ∃ n9, n9 = (rstayL L (memb lr) (memb lK) (li.take k) ++ [(⟨id, sp⟩ : S52)]).length := ⟨_, rfl⟩
                    rw [← hn9] at ho hat hrun
                    clear hn9
                    have HO9 := Aside0.mk ho
                    have HM9 := Aside0.mk (R_other HM5.out HS5.out (by decide) hg)
                    have HP9 : Aside0 (w9.heap[gp]? = some (.cells #[.slice AD lD.length cD, .slice AR2 lR.length cR, .slice AK lK.length cK, .slice AS nS cS, .slice AM nM cM] 39 (0, 0))) := ⟨(hg.block gp (blk_lt HP5.out) (Kd.R_ne HS5.out HP5.out (by decide))).trans HP5.out⟩
                    have HK9 : Aside0 (KeepB B2 gp w4 w9) := ⟨HK5.out.trans (KeepB.grown hg HBS5.out (fun k hk => Kd.R_base HS5.out k hk))⟩
                    have HS9 : Aside0 (B2 ≤ w9.heap.size) := ⟨Nat.le_trans HBS5.out hg.size⟩
                    have hp9 : w9.cell? ⟨gp, 3, none⟩ = some (.slice AS nS cS) := (blk_cell HP9.out 3).trans rfl
                    have hf9 := blk_frozen HP9.out 3
                    have p3 : wc.cell? ⟨gp, 3, none⟩ = some (.slice AS nS cS) := (blk_cell HP5.out 3).trans rfl
                    have y0 : wc.cell? ⟨gx, 0, none⟩ = some (.string sp.f0) := (blk_cell HX5.out 0).trans rfl
                    have y1 : wc.cell? ⟨gx, 1, none⟩ = some (.int .i64 sp.f1) := (blk_cell HX5.out 1).trans rfl
                    have y2 : wc.cell? ⟨gx, 2, none⟩ = some (.int .i64 sp.f2) := (blk_cell HX5.out 2).trans rfl
                    have y3 : wc.cell? ⟨gx, 3, none⟩ = some (.int .i64 sp.f3) := (blk_cell HX5.out 3).trans rfl
                    have y4 : wc.cell? ⟨gx, 4, none⟩ = some (.int .i64 sp.f4) := (blk_cell HX5.out 4).trans rfl
                    have HQ0 : (wc.alloc (.cells #[.string id, .string sp.f0, .int .i64 sp.f1, .int .i64 sp.f2, .int .i64 sp.f3, .int .i64 sp.f4] 52)).drew.cell? ⟨gp, 3, none⟩ = some (.slice AS nS cS) := pw_cell_below (below_drew1 (below_alloc (Below.refl _ _) _)) p3
                    have HQ1 : (wc.alloc (.cells #[.string id, .string sp.f0, .int .i64 sp.f1, .int .i64 sp.f2, .int .i64 sp.f3, .int .i64 sp.f4] 52)).cell? ⟨gp, 3, none⟩ = some (.slice AS nS cS) := pw_cell_below (below_alloc (Below.refl _ _) _) p3
                    clear ho hg hat
                    go_upto_region 24 with (fail)
                    go_region_with (fail)
                    all_goals go_wp2_with (fail)
                    all_goals go_meet
                    all_goals exact ⟨.slice A9 n9 c9, ⟨blk_set HP9.out 3 _⟩, ⟨by rw [HTS.out]; simpa using Kd.R_set HO9.out HP9.out (by decide) _ _⟩, ⟨Kd.R_set HM9.out HP9.out (by decide) _ _⟩, ⟨HK9.out.trans (KeepB.set _ _ _)⟩, ⟨by have := HS9.out; simp; omega⟩⟩
                case rest =>
                  obtain ⟨vS6, HP6, HS6, HM6, HK6, HBS6⟩ := hcut
                  have HKE6 : Aside0 (KeepB w4.heap.size gp w4 wc) := ⟨by rw [← HBE2.out]; exact HK6.out⟩
                  have HBL6 : Aside0 (Below w.heap.size w wc) := ⟨HKE6.out.toBelow HB12.out (Nat.le_of_lt HPG.out) HB12.out.size⟩
                  obtain ⟨ha1, ha2⟩ := HAI.out ad rfl
                  obtain ⟨ad', e, hx⟩ := Kd.at_string (HKE6.out.Cs HCI.out ha1 ha2) (k : Int) (by omega) (by omega)
                  injection e with e
                  subst e
                  rw [rd9_get hlt, Int.toNat_natCast, HIE.out] at hx
                  clear ha1 ha2 sx HX5 HBC HP5 HS5 HM5 HK5 HBS5
                  go_wp2_with (fail)
                  refine (rget_calls base gr L id wc (HT.out.below HBL6.out) (by omega)).mono ?_
                  rintro e w7 ⟨rfl, hB⟩
                  rw [HGP.out]
                  have HB7 := Aside0.mk hB
                  go_upto_region 26 with (fail)
                  have HB78 : Aside0 (Below wc.heap.size wc (w7.alloc (.cells #[.string p.f0, .int .i64 p.f1, .int .i64 p.f2, .int .i64 p.f3, .int .i64 p.f4] 50))) := ⟨below_alloc HB7.out _⟩
                  have HX8 : Aside0 ((w7.alloc (.cells #[.string p.f0, .int .i64 p.f1, .int .i64 p.f2, .int .i64 p.f3, .int .i64 p.f4] 50)).heap[w7.heap.size]? = some (.cells #[.string p.f0, .int .i64 p.f1, .int .i64 p.f2, .int .i64 p.f3, .int .i64 p.f4] 50 (0, 0))) := ⟨(MapKept.heap_alloc w7 _).1⟩
                  generalize (w7.alloc (.cells #[.string p.f0, .int .i64 p.f1, .int .i64 p.f2, .int .i64 p.f3, .int .i64 p.f4] 50)) = W8 at HB78 HX8 ⊢
                  generalize w7.heap.size = gy at HX8 ⊢
                  have hx8 : W8.cell? (ad.add k) = some (.string id) := pw_cell_below HB78.out hx
                  go_wp2_with (fail)
                  refine (within_calls id lr AR cr W8 (Kd.C_below HR.out (below_step HBL6.out HB78.out)) hrc (by omega)).mono ?_
                  rintro e w9 ⟨rfl, hB9⟩
                  have HB79 := Aside0.mk (below_step HB78.out hB9)
                  have HX9 := Aside0.mk (blk_below HX8.out hB9)
                  have HP9 := Aside0.mk (blk_below HP6.out HB79.out)
                  have HS9 := Aside0.mk (Kd.R_below HS6.out HB79.out)
                  have HM9 := Aside0.mk (Kd.R_below HM6.out HB79.out)
                  have HK9 : Aside0 (KeepB B2 gp w4 w9) := ⟨HK6.out.trans (KeepB.of_below HB79.out HBS6.out)⟩
                  have HBS9 : Aside0 (B2 ≤ w9.heap.size) := ⟨Nat.le_trans HBS6.out HB79.out.size⟩
                  have HBL9 := Aside0.mk (below_step HBL6.out HB79.out)
                  have hx9 : w9.cell? (ad.add k) = some (.string id) := pw_cell_below hB9 hx8
                  clear hx hx8 hB hB9 HX8 HB78 HB7 HP6 HS6 HM6 HK6 HBS6 HKE6 HBL6
                  cases hrb : memb lr id.data.toList with
                  | false =>
                    have HRB := Aside0.mk hrb
                    rw [HRB.out, Bool.false_and] at HTM
                    clear hrb
                    go_wp2_with (fail)
                    go_roundw
                    case rel => exact ⟨k + 1, by omega, by go_num, vS6, .slice AM nM cM, HP9, HS9, ⟨by rw [HTM.out]; simpa using HM9.out⟩, HK9, HBS9⟩
                    case measure => simp [intOf]; omega
                  | true =>
                    have HRB := Aside0.mk hrb
                    rw [HRB.out, Bool.true_and] at HTM
                    clear hrb
                    have x0 : w9.cell? ⟨gy, 0, none⟩ = some (.string p.f0) := (blk_cell HX9.out 0).trans rfl
                    have k1 : w9.cell? ⟨gp, 1, none⟩ = some (.slice AR2 lR.length cR) := (blk_cell HP9.out 1).trans rfl
                    have HKE9 : Aside0 (KeepB w4.heap.size gp w4 w9) := ⟨by rw [← HBE2.out]; exact HK9.out⟩
                    have HCR9 := Aside0.mk (KeepB.CA HKE9.out (fun _ _ h => h) (C_of_R HR12.out).1 HAR2.out)
                    go_wp2_with (fail)
                    refine (within_calls p.f0 lR AR2 cR w9 HCR9.out hleR hRl).mono ?_
                    rintro e w10 ⟨rfl, hB⟩
                    have HP10 := Aside0.mk (blk_below HP9.out hB)
                    have HS10 := Aside0.mk (Kd.R_below HS9.out hB)
                    have HM10 := Aside0.mk (Kd.R_below HM9.out hB)
                    have HK10 : Aside0 (KeepB B2 gp w4 w10) := ⟨HK9.out.trans (KeepB.of_below hB HBS9.out)⟩
                    have HBS10 : Aside0 (B2 ≤ w10.heap.size) := ⟨Nat.le_trans HBS9.out hB.size⟩
                    have hx10 : w10.cell? (ad.add k) = some (.string id) := pw_cell_below hB hx9
                    clear hB hx9 x0 k1 HP9 HS9 HM9 HK9 HBS9 HKE9 HCR9 HB79
                    cases hmb : memb lR p.f0.data.toList with
                    | false =>
                      have HMB := Aside0.mk hmb
                      rw [HMB.out] at HTM
                      clear hmb
                      go_wp2_with (fail)
                      go_roundw
                      case rel => exact ⟨k + 1, by omega, by go_num, vS6, .slice AM nM cM, HP10, HS10, ⟨by rw [HTM.out]; simpa using HM10.out⟩, HK10, HBS10⟩
                      case measure => simp [intOf]; omega
                    | true =>
                      have HMB := Aside0.mk hmb
                      rw [HMB.out] at HTM
                      clear hmb
                      obtain ⟨v9, w11, hrun, ho, hg, hat⟩ := append9 23 HM10.out id HBS10.out (by have := HMLN.out; omega)
                      obtain ⟨A9, c9, hv9⟩ := Kd.R_slice ho
                      subst hv9
                      obtain ⟨n9, hn9⟩ : ∃ n9, n9 = (rmoveL L (memb lr) (memb lR) (li.take k) ++ [id]).length := ⟨_, rfl⟩
                      rw [← hn9] at ho hat hrun
                      clear hn9
                      have HO11 := Aside0.mk ho
                      have HS11 := Aside0.mk (R_other HS10.out HM10.out (by decide) hg)
                      have HP11 : Aside0 (w11.heap[gp]? = some (.cells #[.slice AD lD.length cD, .slice AR2 lR.length cR, .slice AK lK.length cK, vS6, .slice AM nM cM] 39 (0, 0))) := ⟨(hg.block gp (blk_lt HP10.out) (Kd.R_ne HM10.out HP10.out (by decide))).trans HP10.out⟩
                      have HK11 : Aside0 (KeepB B2 gp w4 w11) := ⟨HK10.out.trans (KeepB.grown hg HBS10.out (fun k hk => Kd.R_base HM10.out k hk))⟩
                      have HBS11 : Aside0 (B2 ≤ w11.heap.size) := ⟨Nat.le_trans HBS10.out hg.size⟩
                      have hp11 : w11.cell? ⟨gp, 4, none⟩ = some (.slice AM nM cM) := (blk_cell HP11.out 4).trans rfl
                      have hf11 := blk_frozen HP11.out 4
                      have p4 : w10.cell? ⟨gp, 4, none⟩ = some (.slice AM nM cM) := (blk_cell HP10.out 4).trans rfl
                      have HQ0 : (w10.alloc (.cells #[.string id] 9)).drew.cell? ⟨gp, 4, none⟩ = some (.slice AM nM cM) := pw_cell_below (below_drew1 (below_alloc (Below.refl _ _) _)) p4
                      have HQ1 : (w10.alloc (.cells #[.string id] 9)).cell? ⟨gp, 4, none⟩ = some (.slice AM nM cM) := pw_cell_below (below_alloc (Below.refl _ _) _) p4
                      have HQ3 : (w10.alloc (.cells #[.string id] 9)).drew.cell? (ad.add k) = some (.string id) := pw_cell_below (below_drew1 (below_alloc (Below.refl _ _) _)) hx10
                      clear ho hg hat
                      go_upto_region 27 with (fail)
                      go_region_with (fail)
                      all_goals go_wp2_with (fail)
                      all_goals go_roundw
                      all_goals first
                        | exact ⟨k + 1, by omega, by go_num, vS6, (.slice A9 n9 c9), ⟨blk_set HP11.out 4 _⟩, ⟨Kd.R_set HS11.out HP11.out (by decide) _ _⟩, ⟨by rw [HTM.out]; simpa using Kd.R_set HO11.out HP11.out (by decide) _ _⟩, ⟨HK11.out.trans (KeepB.set _ _ _)⟩, ⟨by have := HBS11.out; simp; omega⟩⟩
                        | (simp [intOf]; omega)
            · obtain rfl : k = li.length := by omega
              have hSe := HSW.out
              have hMe := HMW.out
              rw [List.take_length] at hSe hMe
              obtain ⟨AS, cS, hvS⟩ := Kd.R_slice hSe
              obtain ⟨nS, hnS⟩ : ∃ n, n = (rstayL L (memb lr) (memb lK) li).length := ⟨_, rfl⟩
              rw [← hnS] at hvS
              subst hvS
              obtain ⟨AM, cM, hvM⟩ := Kd.R_slice hMe
              obtain ⟨nM, hnM⟩ : ∃ n, n = (rmoveL L (memb lr) (memb lR) li).length := ⟨_, rfl⟩
              rw [← hnM] at hvM
              subst hvM
              have HSE := Aside0.mk (Kd.R_lower hSe HBW2.out)
              have HME := Aside0.mk (Kd.R_lower hMe HBW2.out)
              have HG := Aside0.mk (HKE.out.blk HG12.out (by have := HBG2.out; have := HPG.out; have := HBE2.out; omega) (by have := HPG.out; omega))
              have HDE := Aside0.mk (Kd.R_lower (Kd.R_grown2 HD12.out rfl HKE.out.toGrown (fun b e => by injection e with e; rw [← e]; exact HNOW.out.1)) HBB2.out)
              have HRE := Aside0.mk (Kd.R_lower (Kd.R_grown2 HR12.out rfl HKE.out.toGrown (fun b e => by injection e with e; rw [← e]; exact HNOW.out.2.1)) HBB2.out)
              have HKK := Aside0.mk (Kd.R_lower (Kd.R_grown2 HK12.out rfl HKE.out.toGrown (fun b e => by injection e with e; rw [← e]; exact HNOW.out.2.2)) HBB2.out)
              clear hSe hMe HSW HMW hnS hnM
              have p0 : wr.cell? ⟨gp, 0, none⟩ = some (.slice AD lD.length cD) := (blk_cell HPW.out 0).trans rfl
              have z0 : wr.cell? ⟨w.heap.size, 0, none⟩ = some (.slice none 0 0) := (blk_cell HG.out 0).trans rfl
              have f0 := blk_frozen HG.out 0
              have p1 : wr.cell? ⟨gp, 1, none⟩ = some (.slice AR2 lR.length cR) := (blk_cell HPW.out 1).trans rfl
              have z1 : wr.cell? ⟨w.heap.size, 1, none⟩ = some (.slice none 0 0) := (blk_cell HG.out 1).trans rfl
              have f1 := blk_frozen HG.out 1
              have p2 : wr.cell? ⟨gp, 2, none⟩ = some (.slice AK lK.length cK) := (blk_cell HPW.out 2).trans rfl
              have z2 : wr.cell? ⟨w.heap.size, 2, none⟩ = some (.slice none 0 0) := (blk_cell HG.out 2).trans rfl
              have f2 := blk_frozen HG.out 2
              have p3 : wr.cell? ⟨gp, 3, none⟩ = some (.slice AS nS cS) := (blk_cell HPW.out 3).trans rfl
              have z3 : wr.cell? ⟨w.heap.size, 3, none⟩ = some (.slice none 0 0) := (blk_cell HG.out 3).trans rfl
              have f3 := blk_frozen HG.out 3
              have p4 : wr.cell? ⟨gp, 4, none⟩ = some (.slice AM nM cM) := (blk_cell HPW.out 4).trans rfl
              have z4 : wr.cell? ⟨w.heap.size, 4, none⟩ = some (.slice none 0 0) := (blk_cell HG.out 4).trans rfl
              have f4 := blk_frozen HG.out 4
              go_wp2_with (fail)
              have hK := set5_blk HG.out (.slice AD lD.length cD) (.slice AR2 lR.length cR) (.slice AK lK.length cK) (.slice AS nS cS) (.slice AM nM cM)
              have hB := set5_below HBL.out (Nat.le_refl _) (.slice AD lD.length cD) (.slice AR2 lR.length cR) (.slice AK lK.length cK) (.slice AS nS cS) (.slice AM nM cM)
              have hD := Kd.R_set5 HDE.out HG.out (by decide) (.slice AD lD.length cD) (.slice AR2 lR.length cR) (.slice AK lK.length cK) (.slice AS nS cS) (.slice AM nM cM)
              have hR := Kd.R_set5 HRE.out HG.out (by decide) (.slice AD lD.length cD) (.slice AR2 lR.length cR) (.slice AK lK.length cK) (.slice AS nS cS) (.slice AM nM cM)
              have hKK := Kd.R_set5 HKK.out HG.out (by decide) (.slice AD lD.length cD) (.slice AR2 lR.length cR) (.slice AK lK.length cK) (.slice AS nS cS) (.slice AM nM cM)
              have hS := Kd.R_set5 HSE.out HG.out (by decide) (.slice AD lD.length cD) (.slice AR2 lR.length cR) (.slice AK lK.length cK) (.slice AS nS cS) (.slice AM nM cM)
              have hM := Kd.R_set5 HME.out HG.out (by decide) (.slice AD lD.length cD) (.slice AR2 lR.length cR) (.slice AK lK.length cK) (.slice AS nS cS) (.slice AM nM cM)
              change bodyPost Try.prog Try.f12 _ _ _ (set5 wr w.heap.size (.slice AD lD.length cD) (.slice AR2 lR.length cR) (.slice AK lK.length cK) (.slice AS nS cS) (.slice AM nM cM))
              generalize set5 wr w.heap.size (.slice AD lD.length cD) (.slice AR2 lR.length cR) (.slice AK lK.length cK) (.slice AS nS cS) (.slice AM nM cM) = W9 at hK hB hD hR hKK hS hM ⊢
              have c0 : W9.cell? ⟨w.heap.size, 0, none⟩ = some (.slice AD lD.length cD) := (blk_cell hK 0).trans rfl
              have c1 : W9.cell? ⟨w.heap.size, 1, none⟩ = some (.slice AR2 lR.length cR) := (blk_cell hK 1).trans rfl
              have c2 : W9.cell? ⟨w.heap.size, 2, none⟩ = some (.slice AK lK.length cK) := (blk_cell hK 2).trans rfl
              have c3 : W9.cell? ⟨w.heap.size, 3, none⟩ = some (.slice AS nS cS) := (blk_cell hK 3).trans rfl
              have c4 : W9.cell? ⟨w.heap.size, 4, none⟩ = some (.slice AM nM cM) := (blk_cell hK 4).trans rfl
              refine bodyPost_ret (v := .tuple #[.agg #[(.slice AD lD.length cD), (.slice AR2 lR.length cR), (.slice AK lK.length cK), (.slice AS nS cS), (.slice AM nM cM)], .int .i64 0]) (by simp [results, Try.results12, go_sem, c0, c1, c2, c3, c4]) rfl ⟨_, _, _, _, _, o2, rfl, HRIS.out, HMEM2.out, ?_, ?_, ?_, ?_, ?_, hB⟩
              · rw [← HEQ.out.1]; exact hD
              · rw [← HEQ.out.2.1]; exact hR
              · rw [← HEQ.out.2.2]; exact hKK
              · rw [← HEQ.out.2.2, ← HLI.out]; exact hS
              · rw [← HEQ.out.2.1, ← HLI.out]; exact hM
end Go.Proofs.Ytoiedcnhojkpiaa.Q
