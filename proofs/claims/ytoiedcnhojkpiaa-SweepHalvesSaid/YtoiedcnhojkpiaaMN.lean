/- Of the proofs about sweep: several texts, joined. -/
import Derived.Test.YtoiedcnhojkpiaaMJ
namespace Go.Proofs.Ytoiedcnhojkpiaa.Q
open Go.RowKit Go.Maps Go.Proofs.YtoiedcnhojkpiaaW.PrintWords Go.Proofs.YtoiedcnhojkpiaaW.PrintLast Go.Proofs.YtoiedcnhojkpiaaW.PrintMore
def row18 : Array Value := #[.string (rep32 ⟨#[97]⟩), .string (rep32 ⟨#[112]⟩), .int .i64 1, .int .i64 0, .int .i64 5, .int .i64 0, .string (rep32 ⟨#[98]⟩), .string (rep32 ⟨#[113]⟩), .int .i64 1, .int .i64 0, .int .i64 5, .int .i64 0, .string (rep32 ⟨#[99]⟩), .string (rep32 ⟨#[113]⟩), .int .i64 1, .int .i64 5, .int .i64 90, .int .i64 0]
set_option maxHeartbeats 16000000 in
set_option maxRecDepth 100000 in
theorem works_calls (w : World) : Calls Try.prog 6 #[] w fun e w' => e = .returned (.bool true) ∧ Below w.heap.size w w' := by
  have hrep : ∀ (s : ByteArray) (W : World), s.size ≤ 1000 → Calls Try.prog 21 #[.string s] W fun e w' => e = .returned (.string (rep32 s)) ∧ Below W.heap.size W w' := fun s W h => rep_calls s W h
  go_enter Try.func6, Try.ntmps6
  go_wp2_with (fail)
  refine (new_calls _).mono ?_
  rintro e w1 ⟨rfl, hw⟩
  have HT : Aside0 (∀ base, Tab w1 base w.heap.size F0) := ⟨fun base => by rw [hw]; exact Tab.made w base⟩
  have HB1 : Aside0 (Below w.heap.size w w1) := ⟨by rw [hw]; exact below_alloc (Below.refl _ _) _⟩
  have HG1 : Aside0 (w.heap.size < w1.heap.size) := ⟨(HT.out 0).lt⟩
  clear hw
  obtain ⟨g, hg⟩ : ∃ g, g = w.heap.size := ⟨_, rfl⟩
  rw [← hg] at HT HG1 ⊢
  have HGE : Aside0 (w.heap.size ≤ g) := ⟨Nat.le_of_eq hg.symm⟩
  clear hg
  go_upto_region 5 with (fail)
  go_wp2_with (go_at_call 21; (with_reducible refine (hrep _ _ (by decide)).mono ?_); rintro e w2 ⟨rfl, hB⟩; have HBn := Aside0.mk (below_step HB1.out hB); have HTn : Aside0 (∀ base, Tab w2 base g F0) := ⟨fun base => (HT.out base).below hB⟩; clear HB1 HT hB; have HB1 := HBn; have HT := HTn; clear HBn HTn)
  have HC : Aside0 (Kd.C k52 (w2.alloc (.cells row18 52)) (some ⟨w2.heap.size, 0, none⟩) its.length its) := ⟨C_lit52 its row18 (MapKept.heap_alloc w2 _).1 rfl (by decide)⟩
  have HT3 : Aside0 (∀ base, Tab (w2.alloc (.cells row18 52)) base g F0) := ⟨fun base => (HT.out base).below (below_alloc (Below.refl _ _) _)⟩
  have HB3 : Aside0 (Below w.heap.size w (w2.alloc (.cells row18 52))) := ⟨below_alloc HB1.out _⟩
  have HL3 : Aside0 (w2.heap.size < (w2.alloc (.cells row18 52)).heap.size ∧ g < w2.heap.size) := ⟨blk_lt (MapKept.heap_alloc w2 _).1, (HT.out 0).lt⟩
  change Calls Try.prog 8 #[.pointer (some ⟨g, 0, none⟩), .slice (some ⟨w2.heap.size, 0, none⟩) its.length 3] (w2.alloc (.cells row18 52)) _
  generalize w2.alloc (.cells row18 52) = W3 at HC HT3 HB3 HL3 ⊢
  generalize w2.heap.size = g2 at HC HL3 ⊢
  clear HT HB1 HG1
  obtain ⟨B, hB⟩ : ∃ B, B = W3.heap.size := ⟨_, rfl⟩
  have HBE := Aside0.mk hB
  clear hB
  refine (add_calls B g 3 (some ⟨g2, 0, none⟩) F0 its W3 (HT3.out B) F0_good (fun _ => Nat.zero_le _) (by rw [HBE.out]; exact Nat.le_refl _) HC.out (by decide) (fun ad h => by injection h with h; subst h; have := HL3.out; have := HBE.out; constructor <;> simp <;> omega)).mono ?_
  rintro e w4 ⟨hKB, ⟨rfl, -, hT⟩ | ⟨-, ⟨x, hx, hc⟩, -⟩⟩
  rotate_left
  · rw [its_chk x hx] at hc; cases hc
  have HT4 := Aside0.mk hT
  have HB4 : Aside0 (Below w.heap.size w w4) := ⟨KeepB.toBelow HB3.out (show KeepB W3.heap.size g W3 w4 by rw [← HBE.out]; exact hKB) HGE.out HB3.out.size⟩
  clear hKB hT HC HT3 HB3 HL3
  go_wp2_with (go_at_call 21; (with_reducible refine (hrep _ _ (by decide)).mono ?_); rintro e w5 ⟨rfl, hB⟩; have HB5 := Aside0.mk (below_step HB4.out hB); have HT5 := Aside0.mk (HT4.out.below hB); clear HB4 HT4 hB)
  have HC6 : Aside0 (Kd.C Kd.string (w5.alloc (.cells #[.string rb] 9)) (some ⟨w5.heap.size, 0, none⟩) [rb].length [rb]) := ⟨C_lit9 [rb] _ (MapKept.heap_alloc w5 _).1 rfl (by decide)⟩
  have HT6 := Aside0.mk (HT5.out.below (below_alloc (Below.refl w5.heap.size w5) (.cells #[.string rb] 9)))
  have HB6 : Aside0 (Below w.heap.size w (w5.alloc (.cells #[.string rb] 9))) := ⟨below_alloc HB5.out _⟩
  change Calls Try.prog 11 #[.pointer (some ⟨g, 0, none⟩), .slice (some ⟨w5.heap.size, 0, none⟩) [rb].length 1, .slice none ([] : List ByteArray).length 0, .int .i64 100] (w5.alloc (.cells #[.string rb] 9)) _
  generalize w5.alloc (.cells #[.string rb] 9) = W6 at HC6 HT6 HB6 ⊢
  generalize w5.heap.size = g5 at HC6 ⊢
  clear HT5 HB5
  refine (make_calls B g 1 0 _ none (addF F0 its) [rb] [] 100 W6 HT6.out its_good its_len (by rw [its_all]; decide) HC6.out ⟨rfl, by decide, fun h => absurd h (by decide)⟩ (by decide) (by decide) (by intro s hs; rw [List.mem_singleton.1 hs]; decide +kernel) (by simp) (by decide) (by decide)).mono ?_
  rintro e w7 ⟨vD, vR, vK, vS, vM, pk, rfl, hris, hmem, hD, hR, hK, hS, hM, hB⟩
  rw [its_packs hris hmem, its_drop] at hD
  rw [its_packs hris hmem, its_rew] at hR
  rw [its_packs hris hmem, its_keep] at hK
  rw [its_packs hris hmem, its_keep] at hS
  obtain ⟨AD, cD, hvD, hcD, hCD⟩ := Kd.R_reads hD
  obtain ⟨AK, cK, hvK, hcK, hCK⟩ := Kd.R_reads hK
  obtain ⟨AR, cR, hvR⟩ := Kd.R_slice hR
  obtain ⟨AS, cS, hvS⟩ := Kd.R_slice hS
  rw [its_stay] at hvS
  obtain ⟨AM, cM, hvM⟩ := Kd.R_slice hM
  obtain ⟨nM, hnM⟩ : ∃ n, n = (moveL (addF F0 its) (memb [rb]) (memb (fated (wOf (addF F0 its) (memb [rb]) (allF (addF F0 its))) 100 1 pk)) (idsOf (allF (addF F0 its)))).length := ⟨_, rfl⟩
  rw [← hnM] at hvM
  subst hvM
  subst hvD
  subst hvK
  subst hvR
  subst hvS
  have HCD := Aside0.mk hCD
  have HCK := Aside0.mk hCK
  have HB7 := Aside0.mk (below_step HB6.out hB)
  clear hris hmem hD hR hK hS hM hnM hB hCD hCK HT6 HB6 HC6
  go_upto_region 7 with (fail)
  have HP8 : Aside0 ((w7.alloc (.cells #[.slice AD 1 cD, .slice AR 0 cR, .slice AK 1 cK, .slice AS 2 cS, .slice AM nM cM] 36)).heap[w7.heap.size]? = some (.cells #[.slice AD 1 cD, .slice AR 0 cR, .slice AK 1 cK, .slice AS 2 cS, .slice AM nM cM] 36 (0, 0))) := ⟨(MapKept.heap_alloc w7 _).1⟩
  have HB8 : Aside0 (Below w.heap.size w (w7.alloc (.cells #[.slice AD 1 cD, .slice AR 0 cR, .slice AK 1 cK, .slice AS 2 cS, .slice AM nM cM] 36))) := ⟨below_alloc HB7.out _⟩
  have HD8 := Aside0.mk (Kd.C_below HCD.out (below_alloc (Below.refl w7.heap.size w7) (.cells #[.slice AD 1 cD, .slice AR 0 cR, .slice AK 1 cK, .slice AS 2 cS, .slice AM nM cM] 36)))
  have HK8 := Aside0.mk (Kd.C_below HCK.out (below_alloc (Below.refl w7.heap.size w7) (.cells #[.slice AD 1 cD, .slice AR 0 cR, .slice AK 1 cK, .slice AS 2 cS, .slice AM nM cM] 36)))
  generalize w7.alloc (.cells #[.slice AD 1 cD, .slice AR 0 cR, .slice AK 1 cK, .slice AS 2 cS, .slice AM nM cM] 36) = W8 at HP8 HB8 HD8 HK8 ⊢
  generalize w7.heap.size = gp at HP8 ⊢
  have k0 : W8.cell? ⟨gp, 0, none⟩ = some (.slice AD 1 cD) := (blk_cell HP8.out 0).trans rfl
  have k1 : W8.cell? ⟨gp, 1, none⟩ = some (.slice AR 0 cR) := (blk_cell HP8.out 1).trans rfl
  have k2 : W8.cell? ⟨gp, 2, none⟩ = some (.slice AK 1 cK) := (blk_cell HP8.out 2).trans rfl
  have k3 : W8.cell? ⟨gp, 3, none⟩ = some (.slice AS 2 cS) := (blk_cell HP8.out 3).trans rfl
  have hS : ∀ W : World, Below W8.heap.size W8 W → (W.cell? ⟨gp, 0, none⟩ = some (.slice AD 1 cD) ∧ W.cell? ⟨gp, 1, none⟩ = some (.slice AR 0 cR) ∧ W.cell? ⟨gp, 2, none⟩ = some (.slice AK 1 cK) ∧ W.cell? ⟨gp, 3, none⟩ = some (.slice AS 2 cS) ∧ Below W8.heap.size W8 W) := fun W hB => ⟨pw_cell_below hB k0, pw_cell_below hB k1, pw_cell_below hB k2, pw_cell_below hB k3, hB⟩
  have hK1 : ∀ W W' : World, (W.cell? ⟨gp, 0, none⟩ = some (.slice AD 1 cD) ∧ W.cell? ⟨gp, 1, none⟩ = some (.slice AR 0 cR) ∧ W.cell? ⟨gp, 2, none⟩ = some (.slice AK 1 cK) ∧ W.cell? ⟨gp, 3, none⟩ = some (.slice AS 2 cS) ∧ Below W8.heap.size W8 W) → Below W.heap.size W W' → (W'.cell? ⟨gp, 0, none⟩ = some (.slice AD 1 cD) ∧ W'.cell? ⟨gp, 1, none⟩ = some (.slice AR 0 cR) ∧ W'.cell? ⟨gp, 2, none⟩ = some (.slice AK 1 cK) ∧ W'.cell? ⟨gp, 3, none⟩ = some (.slice AS 2 cS) ∧ Below W8.heap.size W8 W') := fun W W' h hB => hS _ (below_step h.2.2.2.2 hB)
  have hsD : ∀ (W : World) (g' : Nat), (W.cell? ⟨gp, 0, none⟩ = some (.slice AD 1 cD) ∧ W.cell? ⟨gp, 1, none⟩ = some (.slice AR 0 cR) ∧ W.cell? ⟨gp, 2, none⟩ = some (.slice AK 1 cK) ∧ W.cell? ⟨gp, 3, none⟩ = some (.slice AS 2 cS) ∧ Below W8.heap.size W8 W) → W.heap[g']? = some (.cells #[.string (rep32 ⟨#[112]⟩)] 9 (0, 0)) → Calls Try.prog 13 #[.slice AD 1 cD, .slice (some ⟨g', 0, none⟩) 1 1] W fun e w' => e = .returned (.bool true) ∧ Below W.heap.size W w' := fun W g' h hb => same_calls AD (some ⟨g', 0, none⟩) cD 1 [rp] [rp] W (Kd.C_below HD8.out h.2.2.2.2) hcD (C_lit9 [rp] _ hb rfl (by decide)) (by decide) (by decide)
  have hsK : ∀ (W : World) (g' : Nat), (W.cell? ⟨gp, 0, none⟩ = some (.slice AD 1 cD) ∧ W.cell? ⟨gp, 1, none⟩ = some (.slice AR 0 cR) ∧ W.cell? ⟨gp, 2, none⟩ = some (.slice AK 1 cK) ∧ W.cell? ⟨gp, 3, none⟩ = some (.slice AS 2 cS) ∧ Below W8.heap.size W8 W) → W.heap[g']? = some (.cells #[.string (rep32 ⟨#[113]⟩)] 9 (0, 0)) → Calls Try.prog 13 #[.slice AK 1 cK, .slice (some ⟨g', 0, none⟩) 1 1] W fun e w' => e = .returned (.bool true) ∧ Below W.heap.size W w' := fun W g' h hb => same_calls AK (some ⟨g', 0, none⟩) cK 1 [rq] [rq] W (Kd.C_below HK8.out h.2.2.2.2) hcK (C_lit9 [rq] _ hb rfl (by decide)) (by decide) (by decide)
  go_region_held3 (fun W => W.cell? ⟨gp, 0, none⟩ = some (.slice AD 1 cD) ∧ W.cell? ⟨gp, 1, none⟩ = some (.slice AR 0 cR) ∧ W.cell? ⟨gp, 2, none⟩ = some (.slice AK 1 cK) ∧ W.cell? ⟨gp, 3, none⟩ = some (.slice AS 2 cS) ∧ Below W8.heap.size W8 W) (first | (with_reducible assumption) | (with_reducible exact hS _ (below_alloc HB9 _)) | (with_reducible exact hS _ (Below.refl _ _)) | (with_reducible exact hS _ (below_drew (Below.refl _ _))) | (with_reducible exact hK1 _ _ (by assumption) (by assumption)) | (with_reducible exact hK1 _ _ (by assumption) (below_alloc (Below.refl _ _) _)) | (with_reducible exact hK1 _ _ (by assumption) (below_drew (Below.refl _ _)))) (first | (go_at_call 21; (with_reducible refine (hrep _ _ (by decide)).mono ?_); rintro e w9 ⟨rfl, hB⟩; have HB9 : Below W8.heap.size W8 w9 := (hK1 _ _ (by assumption) hB).2.2.2.2) | (go_at_call 13; (with_reducible refine (hsD _ _ (by assumption) (MapKept.heap_alloc _ _).1).mono ?_); rintro e w9 ⟨rfl, hB⟩; have HB9 : Below W8.heap.size W8 w9 := (hK1 _ _ (by assumption) hB).2.2.2.2) | (go_at_call 13; (with_reducible refine (hsK _ _ (by assumption) (MapKept.heap_alloc _ _).1).mono ?_); rintro e w9 ⟨rfl, hB⟩; have HB9 : Below W8.heap.size W8 w9 := (hK1 _ _ (by assumption) hB).2.2.2.2))
  go_wp2_with (fail)
  go_ret
  exact ⟨rfl, below_step HB8.out HB9⟩
end Go.Proofs.Ytoiedcnhojkpiaa.Q
/- Lend and Kept: a copy with a mark behind its end. -/
namespace Go.Proofs.Ytoiedcnhojkpiaa.Q
open Go.RowKit Go.Maps Go.Proofs.YtoiedcnhojkpiaaW.PrintWords Go.Proofs.YtoiedcnhojkpiaaW.PrintLast Go.Proofs.YtoiedcnhojkpiaaW.PrintMore
theorem cut_cap {P : Program} (t e : TypeId) (kh : IntKind) {i : TypeInfo} (ht : P.underlying t = some (.slice e)) (hi : P.info? e = some i) (A : Option Addr) (n c : Nat) (j : Int) (h0 : 0 ≤ j) (hm : j ≤ c) :
    ∀ W : World, (Instr.slice t (.slice A n c) none (some (.int kh j)) none).run P W = .ok (.slice A j.toNat c) W := by
  intro W
  have hel : P.elem t = e := by simp [Program.elem, ht]
  have hu : P.underlying t = some (.slice (P.elem t)) := by rw [hel]; exact ht
  have ha : (A.map fun x => x.add 0) = A := by cases A <;> simp [Addr.add]
  rw [run_slice_h W t A n c hu kh j h0 (by omega), hel]
  simp [sizeOf, typeInfo, hi, sliced, Result.andThen, ha]
def mark : ByteArray := ⟨#[109, 97, 114, 107]⟩
theorem C_firsts {w : World} {A : Option Addr} {a b : List ByteArray} (h : Kd.C Kd.string w A (a ++ b).length (a ++ b)) : Kd.C Kd.string w A a.length a := by
  obtain ⟨h1, h2, h3⟩ := h
  rw [List.length_append] at h2 h3
  refine ⟨rfl, by omega, fun hn => ?_⟩
  obtain ⟨ad, e, hc⟩ := h3 (by omega)
  refine ⟨ad, e, fun j p hj => hc j p ?_⟩
  rw [List.getElem?_append_left (List.getElem?_eq_some_iff.1 hj).1]
  exact hj
set_option maxHeartbeats 8000000 in
set_option maxRecDepth 100000 in
theorem lend_calls (A : Option Addr) (c : Nat) (l : List ByteArray) (w : World) (hr : Kd.C Kd.string w A l.length l) (hl : l.length ≤ 10000) :
    Calls Try.prog 10 #[.slice A l.length c] w fun e w' => ∃ A' c', e = .returned (.slice A' l.length c') ∧ l.length + 1 ≤ c' ∧ Kd.C Kd.string w' A' (l ++ [mark]).length (l ++ [mark]) ∧ Below w.heap.size w w' := by
  have HR := Aside0.mk hr
  clear hr
  have HB := Aside0.mk (Below.refl w.heap.size w)
  obtain ⟨i0, hi0, _, _, _⟩ := info_parts info9
  go_enter Try.func10, Try.ntmps10
  go_upto_region 3 with (first
    | ((with_reducible refine gate_dst (N := 4) rfl ?_); refine Kd.R_lit Kd.string _ 9 ?hg (N := 4) ?hd (xs := ([] : List ByteArray)) (inner := []) (ok := fun _ => True) (okp := fun _ => True) ?hr ?hp (fun _ hk => hk) trivial (Below.refl _ _) (Nat.le_refl _) (by simp) ?_; (case hd => rfl); (case hg => rfl); (case hr => first | (go_simp; done) | (go_simp; rfl)); (case hp => exact (Reps.none _ _)); intro v4 w6 ho7 hb hg_ hnew_; clear hg_ hnew_; have HO4 := Aside0.mk ho7; have HB4 := Aside0.mk hb; clear hb ho7)
    | ((with_reducible refine gate_builtin (b := .append) (xs := #[.tmp 4, .tmp 5]) rfl ?_); at_builtin; refine Kd.R_append_rows Kd.string (w0 := w) w.heap.size ?hg (.tmp 4) (.tmp 5) 23 9 (.string ⟨#[]⟩) 16 ?ho Try.underlying23 info9 rfl (by decide) (by omega) v4 [] l A l.length c (fun _ => True) (fun _ => False) ?hs ?hx ?aO ?aR (fun _ _ h => h) (fun _ h => h.elim) ?aF ?aB ?aS ?aL ?_; (case hg => rfl); (case ho => rfl); (case hs => rfl); (case hx => rfl); (case aR => exact Kd.C_below HR.out HB4.out); (case aB => exact HB4.out); (case aF => exact (fun _ _ => trivial)); (case aO => exact HO4.out); (case aS => exact HB4.out.size); (case aL => simp; omega); intro v6 w8 ho hb hg hat; have HO6 := Aside0.mk ho; have HB6 := Aside0.mk hb; clear ho hb hg hat)
    | ((with_reducible refine gate_builtin (b := .append) (xs := #[.tmp 7, .tmp 8]) rfl ?_); at_builtin; refine Kd.R_append Kd.string (w0 := w) w.heap.size ?hg (.tmp 7) (.tmp 8) 23 9 (.string ⟨#[]⟩) 16 ?ho Try.underlying23 info9 rfl (by decide) (by omega) v6 ([] ++ l) mark [.string mark] (fun _ => True) (fun _ => False) ?hs ?hx ?aP (fun _ hk => hk.elim) ?aF ?aO ?aB ?aS ?aL ?_; (case hg => rfl); (case ho => rfl); (case hs => rfl); (case hx => rfl); (case aP => exact rfl); (case aB => exact HB6.out); (case aF => exact (fun _ _ => trivial)); (case aO => exact HO6.out); (case aS => exact HB6.out.size); (case aL => simp; omega); intro v9 w9 ho hb hg hat; have HO9 := Aside0.mk ho; have HB9 := Aside0.mk hb; clear ho hb hg hat))
  have hO := HO9.out
  rw [List.nil_append] at hO
  obtain ⟨A9, c9, hv9, hc9, hC9⟩ := Kd.R_reads hO
  obtain ⟨n9, hn9⟩ : ∃ n9, n9 = (l ++ [mark]).length := ⟨_, rfl⟩
  have hn9' : n9 = l.length + 1 := by rw [hn9]; simp
  have HC9 := Aside0.mk hC9
  rw [← hn9] at hv9 hc9
  subst hv9
  have hcut := cut_to (P := Try.prog) 23 9 .i64 Try.underlying23 hi0 A9 n9 c9 (l.length : Int) (by omega) (by omega) hc9
  rw [Int.toNat_natCast] at hcut
  have HN := Aside0.mk hn9'
  have HCC := Aside0.mk hc9
  clear hO hC9 hn9 hn9' hc9 hi0
  go_wp2_with (fail)
  go_ret
  exact ⟨A9, c9, rfl, by have := HCC.out; have := HN.out; omega, HC9.out, HB9.out⟩
set_option maxHeartbeats 8000000 in
set_option maxRecDepth 100000 in
theorem kept_calls (A A1 : Option Addr) (c c1 : Nat) (l : List ByteArray) (w : World) (hr : Kd.C Kd.string w A (l ++ [mark]).length (l ++ [mark])) (hc : l.length + 1 ≤ c) (hr1 : Kd.C Kd.string w A1 l.length l) (hc1 : l.length ≤ c1) (hl : l.length ≤ 10000) :
    Calls Try.prog 15 #[.slice A l.length c, .slice A1 l.length c1] w fun e w' => e = .returned (.bool true) ∧ Below w.heap.size w w' := by
  obtain ⟨i0, hi0, _, _, _⟩ := info_parts info9
  have hcut := cut_cap (P := Try.prog) 23 9 .i64 Try.underlying23 hi0 A l.length c ((l.length + 1 : Nat) : Int) (by omega) (by omega)
  rw [Int.toNat_natCast] at hcut
  obtain ⟨ad, hA, hx⟩ := Kd.at_string hr (l.length : Int) (by omega) (by simp; omega)
  have hd : rdOf ByteArray.empty (l ++ [mark]) (l.length : Int) = mark := by unfold rdOf; simp
  rw [hd, Int.toNat_natCast] at hx
  subst hA
  have HR := Aside0.mk hr
  have HR1 := Aside0.mk hr1
  have hml : l.length < maxLen := by unfold maxLen; omega
  have hwr : IntKind.i64.wrap ((l.length : Int) + 1) = ((l.length + 1 : Nat) : Int) := by rw [IntKind.wrap_i64]; omega
  unfold mark at hx
  clear hr hr1 hd hi0
  go_enter Try.func15, Try.ntmps15
  go_wp2_with (fail)
  refine (same_calls (some ad) A1 c c1 l l w (C_firsts HR.out) (by omega) HR1.out hc1 hl).mono ?_
  rintro e w1 ⟨rfl, hB⟩
  rw [decide_eq_true (rfl : l = l)]
  have hx1 := pw_cell_below hB hx
  have HB := Aside0.mk hB
  clear hB hx
  go_wp2_with (fail)
  go_ret
  exact ⟨rfl, HB.out⟩
end Go.Proofs.Ytoiedcnhojkpiaa.Q
/- Add, of no items too. -/
namespace Go.Proofs.Ytoiedcnhojkpiaa.Q
open Go.RowKit Go.Maps Go.Proofs.YtoiedcnhojkpiaaW.PrintWords Go.Proofs.YtoiedcnhojkpiaaW.PrintLast Go.Proofs.YtoiedcnhojkpiaaW.PrintMore
set_option maxHeartbeats 8000000 in
set_option maxRecDepth 100000 in
theorem add_nil (g c : Nat) (A : Option Addr) (w : World) : Calls Try.prog 8 #[.pointer (some ⟨g, 0, none⟩), .slice A 0 c] w fun e w' => e = .returned (.int .i64 0) ∧ w' = w := by
  go_enter Try.func8, Try.ntmps8
  go_wp2_with (fail)
  go_loopw [15] (fun v wr => v = .int .i64 0 ∧ wr = w) (fun _ _ => 0)
  case atStart => exact ⟨rfl, rfl⟩
  case round =>
    obtain ⟨rfl, rfl⟩ := hrel
    go_wp2_with (fail)
    go_loopw [27] (fun v wr' => v = .int .i64 0 ∧ wr' = wr) (fun _ _ => 0)
    case atStart => exact ⟨rfl, rfl⟩
    case round =>
      obtain ⟨rfl, rfl⟩ := hrel
      go_wp2_with (fail)
      go_ret
      exact ⟨rfl, rfl⟩
set_option maxHeartbeats 8000000 in
set_option maxRecDepth 100000 in
theorem radd_nil (g c : Nat) (A : Option Addr) (w : World) : Calls Try.prog 9 #[.pointer (some ⟨g, 0, none⟩), .slice A 0 c] w fun e w' => e = .returned (.int .i64 0) ∧ w' = w := by
  go_enter Try.func9, Try.ntmps9
  go_wp2_with (fail)
  go_loopw [5] (fun v wr => v = .int .i64 0 ∧ wr = w) (fun _ _ => 0)
  case atStart => exact ⟨rfl, rfl⟩
  case round =>
    obtain ⟨rfl, rfl⟩ := hrel
    go_wp2_with (fail)
    go_loopw [7] (fun v wr' => v = .int .i64 0 ∧ wr' = wr) (fun _ _ => 0)
    case atStart => exact ⟨rfl, rfl⟩
    case round =>
      obtain ⟨rfl, rfl⟩ := hrel
      go_wp2_with (fail)
      go_ret
      exact ⟨rfl, rfl⟩
end Go.Proofs.Ytoiedcnhojkpiaa.Q
/- The plan, as plain lists; Make and the reference's Make by one post. -/
namespace Go.Proofs.Ytoiedcnhojkpiaa.Q
open Go.RowKit Go.Maps Go.Proofs.YtoiedcnhojkpiaaW.PrintWords Go.Proofs.YtoiedcnhojkpiaaW.PrintLast Go.Proofs.YtoiedcnhojkpiaaW.PrintMore
def nilPlan : Value := .tuple #[.agg #[.slice none 0 0, .slice none 0 0, .slice none 0 0, .slice none 0 0, .slice none 0 0], .int .i64 1]
set_option maxHeartbeats 8000000 in
set_option maxRecDepth 100000 in
theorem make_nil (AR AP : Option Addr) (n1 c1 n2 c2 : Nat) (percent : Int) (w : World) : Calls Try.prog 11 #[.pointer none, .slice AR n1 c1, .slice AP n2 c2, .int .i64 percent] w fun e w' => e = .returned nilPlan ∧ Below w.heap.size w w' := by
  go_enter Try.func11, Try.ntmps11
  go_wp2_with (fail)
  exact bodyPost_ret (v := nilPlan) (by unfold nilPlan; simp [results, Try.results11, go_sem]) rfl ⟨rfl, by first | exact below_alloc (Below.refl _ _) _ | (repeat (first | exact below_alloc (Below.refl _ _) _ | refine below_set ?_ (Nat.le_refl _)))⟩
set_option maxHeartbeats 8000000 in
set_option maxRecDepth 100000 in
theorem make_bad (g : Nat) (AR AP : Option Addr) (n1 c1 n2 c2 : Nat) (percent : Int) (w : World) (h : percent < 0 ∨ 100 < percent) : Calls Try.prog 11 #[.pointer (some ⟨g, 0, none⟩), .slice AR n1 c1, .slice AP n2 c2, .int .i64 percent] w fun e w' => e = .returned nilPlan ∧ Below w.heap.size w w' := by
  have hnl : ((none : Option Addr) == some ⟨g, 0, none⟩) = false := rfl
  rcases h with h | h
  · go_enter Try.func11, Try.ntmps11
    go_wp2_with (fail)
    exact bodyPost_ret (v := nilPlan) (by unfold nilPlan; simp [results, Try.results11, go_sem]) rfl ⟨rfl, by first | exact below_alloc (Below.refl _ _) _ | (repeat (first | exact below_alloc (Below.refl _ _) _ | refine below_set ?_ (Nat.le_refl _)))⟩
  · have h' : ¬ percent < 0 := by omega
    go_enter Try.func11, Try.ntmps11
    go_wp2_with (fail)
    exact bodyPost_ret (v := nilPlan) (by unfold nilPlan; simp [results, Try.results11, go_sem]) rfl ⟨rfl, by first | exact below_alloc (Below.refl _ _) _ | (repeat (first | exact below_alloc (Below.refl _ _) _ | refine below_set ?_ (Nat.le_refl _)))⟩
set_option maxHeartbeats 8000000 in
set_option maxRecDepth 100000 in
theorem rmake_bad (g : Nat) (AR AP : Option Addr) (n1 c1 n2 c2 : Nat) (percent : Int) (w : World) (h : percent < 0 ∨ 100 < percent) : Calls Try.prog 12 #[.pointer (some ⟨g, 0, none⟩), .slice AR n1 c1, .slice AP n2 c2, .int .i64 percent] w fun e w' => e = .returned nilPlan ∧ Below w.heap.size w w' := by
  have hnl : ((none : Option Addr) == some ⟨g, 0, none⟩) = false := rfl
  rcases h with h | h
  · go_enter Try.func12, Try.ntmps12
    go_wp2_with (fail)
    exact bodyPost_ret (v := nilPlan) (by unfold nilPlan; simp [results, Try.results12, go_sem]) rfl ⟨rfl, by first | exact below_alloc (Below.refl _ _) _ | (repeat (first | exact below_alloc (Below.refl _ _) _ | refine below_set ?_ (Nat.le_refl _)))⟩
  · have h' : ¬ percent < 0 := by omega
    go_enter Try.func12, Try.ntmps12
    go_wp2_with (fail)
    exact bodyPost_ret (v := nilPlan) (by unfold nilPlan; simp [results, Try.results12, go_sem]) rfl ⟨rfl, by first | exact below_alloc (Below.refl _ _) _ | (repeat (first | exact below_alloc (Below.refl _ _) _ | refine below_set ?_ (Nat.le_refl _)))⟩
/-- The members of a list, rising, each once. -/
def risL (q : List ByteArray) : List ByteArray := packsOf (q.map fun s => (⟨s, ⟨s, 0, 0, 0, 0⟩⟩ : S52))
theorem risL_rising (q : List ByteArray) : Rising (risL q) := packsOf_rising _
theorem risL_mem (q : List ByteArray) (s : ByteArray) : s ∈ risL q ↔ s ∈ q := by
  unfold risL
  rw [packsOf_mem]
  constructor
  · rintro ⟨x, hx, rfl⟩
    obtain ⟨y, hy, rfl⟩ := List.mem_map.1 hx
    exact hy
  · intro h
    exact ⟨_, List.mem_map.2 ⟨s, h, rfl⟩, rfl⟩
def okP (percent : Int) : Bool := decide (0 ≤ percent ∧ percent ≤ 100)
/-- All packs: those of the table, and those told. -/
def pkL (L : List S52) (lp : List ByteArray) : List ByteArray := risL (lp ++ L.map fun x => x.f1.f0)
def pFate (n : Nat) (L : List S52) (lr lp : List ByteArray) (percent : Int) : List ByteArray := if okP percent = true then fated (rF L (memb lr)) percent n (pkL L lp) else []
def pStay (L : List S52) (lr lp : List ByteArray) (percent : Int) : List S52 := if okP percent = true then rstayL L (memb lr) (memb (fated (rF L (memb lr)) percent 2 (pkL L lp))) (idsOf L) else []
def pMove (L : List S52) (lr lp : List ByteArray) (percent : Int) : List ByteArray := if okP percent = true then rmoveL L (memb lr) (memb (fated (rF L (memb lr)) percent 1 (pkL L lp))) (idsOf L) else []
def pCode (percent : Int) : Int := if okP percent = true then 0 else 1
theorem pk_eq {L : List S52} {lp pk : List ByteArray} (h : Rising pk) (hm : ∀ s, s ∈ pk ↔ s ∈ lp ∨ ∃ x ∈ L, x.f1.f0 = s) : pk = pkL L lp :=
  rising_eq h (risL_rising _) (fun s => by
    rw [hm]; unfold pkL; rw [risL_mem, List.mem_append, List.mem_map])
/-- A plan, as it is returned. -/
def Plan (L : List S52) (lr lp : List ByteArray) (percent : Int) (w' : World) (e : Ending) : Prop :=
  ∃ AD AR AK AS AM cD cR cK cS cM, e = .returned (.tuple #[.agg #[.slice AD (pFate 0 L lr lp percent).length cD, .slice AR (pFate 1 L lr lp percent).length cR, .slice AK (pFate 2 L lr lp percent).length cK, .slice AS (pStay L lr lp percent).length cS, .slice AM (pMove L lr lp percent).length cM], .int .i64 (pCode percent)]) ∧
    ((pFate 0 L lr lp percent).length ≤ cD ∧ Kd.C Kd.string w' AD (pFate 0 L lr lp percent).length (pFate 0 L lr lp percent)) ∧
    ((pFate 1 L lr lp percent).length ≤ cR ∧ Kd.C Kd.string w' AR (pFate 1 L lr lp percent).length (pFate 1 L lr lp percent)) ∧
    ((pFate 2 L lr lp percent).length ≤ cK ∧ Kd.C Kd.string w' AK (pFate 2 L lr lp percent).length (pFate 2 L lr lp percent)) ∧
    ((pStay L lr lp percent).length ≤ cS ∧ Kd.C k52 w' AS (pStay L lr lp percent).length (pStay L lr lp percent)) ∧
    ((pMove L lr lp percent).length ≤ cM ∧ Kd.C Kd.string w' AM (pMove L lr lp percent).length (pMove L lr lp percent))
theorem plan_nil (L : List S52) (lr lp : List ByteArray) (percent : Int) (w' : World) (h : okP percent = false) : Plan L lr lp percent w' (.returned nilPlan) := by
  have hf : ∀ n, pFate n L lr lp percent = [] := fun n => by unfold pFate; rw [h]; rfl
  have hs : pStay L lr lp percent = [] := by unfold pStay; rw [h]; rfl
  have hm : pMove L lr lp percent = [] := by unfold pMove; rw [h]; rfl
  have hc : pCode percent = 1 := by unfold pCode; rw [h]; rfl
  unfold Plan
  rw [hf, hf, hf, hs, hm, hc]
  exact ⟨none, none, none, none, none, 0, 0, 0, 0, 0, rfl, ⟨Nat.le_refl _, Kd.C_nil Kd.string w'⟩, ⟨Nat.le_refl _, Kd.C_nil Kd.string w'⟩, ⟨Nat.le_refl _, Kd.C_nil Kd.string w'⟩, ⟨Nat.le_refl _, Kd.C_nil k52 w'⟩, ⟨Nat.le_refl _, Kd.C_nil Kd.string w'⟩⟩
theorem plan_of {L : List S52} {lr lp : List ByteArray} {percent : Int} {w' : World} {b : Nat} (h : okP percent = true) {vD vR vK vS vM : Value} (hD : Kd.R Kd.string 9 w' b (fun _ => True) vD (fated (rF L (memb lr)) percent 0 (pkL L lp))) (hR : Kd.R Kd.string 9 w' b (fun _ => True) vR (fated (rF L (memb lr)) percent 1 (pkL L lp))) (hK : Kd.R Kd.string 9 w' b (fun _ => True) vK (fated (rF L (memb lr)) percent 2 (pkL L lp)))
    (hS : Kd.R k52 52 w' b (fun _ => True) vS (rstayL L (memb lr) (memb (fated (rF L (memb lr)) percent 2 (pkL L lp))) (idsOf L))) (hM : Kd.R Kd.string 9 w' b (fun _ => True) vM (rmoveL L (memb lr) (memb (fated (rF L (memb lr)) percent 1 (pkL L lp))) (idsOf L))) :
    Plan L lr lp percent w' (.returned (.tuple #[.agg #[vD, vR, vK, vS, vM], .int .i64 0])) := by
  have hf : ∀ n, pFate n L lr lp percent = fated (rF L (memb lr)) percent n (pkL L lp) := fun n => by unfold pFate; rw [if_pos h]
  have hs : pStay L lr lp percent = rstayL L (memb lr) (memb (fated (rF L (memb lr)) percent 2 (pkL L lp))) (idsOf L) := by unfold pStay; rw [if_pos h]
  have hm : pMove L lr lp percent = rmoveL L (memb lr) (memb (fated (rF L (memb lr)) percent 1 (pkL L lp))) (idsOf L) := by unfold pMove; rw [if_pos h]
  have hc : pCode percent = 0 := by unfold pCode; rw [if_pos h]
  unfold Plan
  rw [hf, hf, hf, hs, hm, hc]
  obtain ⟨AD, cD, rfl, h1, h2⟩ := Kd.R_reads hD
  obtain ⟨AR, cR, rfl, h3, h4⟩ := Kd.R_reads hR
  obtain ⟨AK, cK, rfl, h5, h6⟩ := Kd.R_reads hK
  obtain ⟨AS, cS, rfl, h7, h8⟩ := Kd.R_reads hS
  obtain ⟨AM, cM, rfl, h9, h10⟩ := Kd.R_reads hM
  exact ⟨AD, AR, AK, AS, AM, cD, cR, cK, cS, cM, rfl, ⟨h1, h2⟩, ⟨h3, h4⟩, ⟨h5, h6⟩, ⟨h7, h8⟩, ⟨h9, h10⟩⟩
theorem make_any (base g cr cp : Nat) (AR AP : Option Addr) (F : Nat → List S52) (lr lp : List ByteArray) (percent : Int) (w : World) (h : Tab w base g F) (hG : GoodF F) (hF : ∀ j, (F j).length ≤ 1000) (hl : (allF F).length ≤ 5000) (hr : Kd.C Kd.string w AR lr.length lr) (hp : Kd.C Kd.string w AP lp.length lp) (hlr : lr.length ≤ 1000) (hlp : lp.length ≤ 1000) (hsr : ∀ s ∈ lr, s.size ≤ maxLen) (hsp : ∀ s ∈ lp, s.size ≤ maxLen) :
    Calls Try.prog 11 #[.pointer (some ⟨g, 0, none⟩), .slice AR lr.length cr, .slice AP lp.length cp, .int .i64 percent] w fun e w' => Plan (allF F) lr lp percent w' e ∧ Below w.heap.size w w' := by
  by_cases ho : okP percent = true
  · have ho2 : 0 ≤ percent ∧ percent ≤ 100 := of_decide_eq_true ho
    refine (make_calls base g cr cp AR AP F lr lp percent w h hG hF hl hr hp hlr hlp hsr hsp ho2.1 ho2.2).mono fun e w' ⟨vD, vR, vK, vS, vM, pk, he, hris, hmem, hD, hR, hK, hS, hM, hB⟩ => ?_
    obtain rfl := pk_eq (L := allF F) (lp := lp) hris (fun s => by rw [hmem, packsOf_mem])
    rw [fated_all hG] at hD hR hK
    rw [fated_all hG, stayL_all hG] at hS
    rw [fated_all hG, moveL_all hG] at hM
    subst he
    exact ⟨plan_of ho hD hR hK hS hM, hB⟩
  · have ho1 : okP percent = false := by simpa using ho
    have ho2 : percent < 0 ∨ 100 < percent := by have := of_decide_eq_false ho1; omega
    refine (make_bad g AR AP _ cr _ cp percent w ho2).mono fun e w' ⟨he, hB⟩ => ?_
    subst he
    exact ⟨plan_nil _ _ _ _ _ ho1, hB⟩
theorem rmake_any (base gr cr cp : Nat) (AR AP : Option Addr) (L : List S52) (lr lp : List ByteArray) (percent : Int) (w : World) (h : RTab w base gr L) (hS : Sorted L) (hG : ∀ x ∈ L, chk x = true) (hl : L.length ≤ 1000) (hr : Kd.C Kd.string w AR lr.length lr) (hrc : lr.length ≤ cr) (hp : Kd.C Kd.string w AP lp.length lp) (hlr : lr.length ≤ 1000) (hlp : lp.length ≤ 1000) :
    Calls Try.prog 12 #[.pointer (some ⟨gr, 0, none⟩), .slice AR lr.length cr, .slice AP lp.length cp, .int .i64 percent] w fun e w' => Plan L lr lp percent w' e ∧ Below w.heap.size w w' := by
  by_cases ho : okP percent = true
  · have ho2 : 0 ≤ percent ∧ percent ≤ 100 := of_decide_eq_true ho
    refine (rmake_calls base gr cr cp AR AP L lr lp percent w h hS hG hl hr hrc hp hlr hlp ho2.1 ho2.2).mono fun e w' ⟨vD, vR, vK, vS, vM, pk, he, hris, hmem, hD, hR, hK, hS, hM, hB⟩ => ?_
    obtain rfl := pk_eq (L := L) (lp := lp) hris hmem
    subst he
    exact ⟨plan_of ho hD hR hK hS hM, hB⟩
  · have ho1 : okP percent = false := by simpa using ho
    have ho2 : percent < 0 ∨ 100 < percent := by have := of_decide_eq_false ho1; omega
    refine (rmake_bad gr AR AP _ cr _ cp percent w ho2).mono fun e w' ⟨he, hB⟩ => ?_
    subst he
    exact ⟨plan_nil _ _ _ _ _ ho1, hB⟩
/-- The table of a list of items: none of them is taken if one may not be. -/
def tF (l : List S52) : Nat → List S52 := if l.all chk = true then addF F0 l else F0
def tL (l : List S52) : List S52 := if l.all chk = true then putL [] l else []
theorem tF_good (l : List S52) : GoodF (tF l) := by
  unfold tF
  split
  · rename_i h; exact F0_good.add l (List.all_eq_true.1 h)
  · exact F0_good
theorem tF_all (l : List S52) : allF (tF l) = tL l := by
  unfold tF tL
  split
  · rename_i h; exact allF_putL l (List.all_eq_true.1 h)
  · exact allF_F0
theorem tF_len (l : List S52) (j : Nat) (h : l.length ≤ 1000) : (tF l j).length ≤ 1000 := by
  unfold tF
  split
  · have := addF_len F0 0 (fun _ => Nat.le_refl _) l j; omega
  · exact Nat.zero_le _
theorem tL_len (l : List S52) : (tL l).length ≤ l.length := by
  unfold tL
  split
  · have := putL_len l []; simpa using this
  · exact Nat.zero_le _
theorem tL_sorted (l : List S52) : Sorted (tL l) := by rw [← tF_all]; exact allF_sorted (tF_good l)
theorem tL_chk (l : List S52) : ∀ x ∈ tL l, chk x = true := fun x hx => by
  rw [← tF_all, allF_mem] at hx
  obtain ⟨j, _, hj⟩ := hx
  exact ((tF_good l j).2 x hj).2
theorem blk_of {w : World} {A : Option Addr} {l : List S52} (h : Kd.C k52 w A l.length l) (hne : l ≠ []) : ∀ ad, A = some ad → ad.block < w.heap.size := fun ad he => by
  subst he
  obtain ⟨ad', e, hc⟩ := h.2.2 (List.length_pos_iff.2 hne)
  injection e with e
  subst e
  cases l with
  | nil => exact absurd rfl hne
  | cons x l =>
    obtain ⟨c, hs, hk, hcell⟩ := hc 0 x rfl
    obtain rfl := k52_open hk
    have := World.block_lt_of_cell? w _ (hcell 0 _ rfl)
    have hb : (ad.add (0 * k52.sz + 0)).block = ad.block := by unfold Addr.add; split <;> rfl
    rwa [hb] at this
theorem add_any (base g c : Nat) (A : Option Addr) (l : List S52) (W0 w : World) (h : Tab w base g F0) (hr : Kd.C k52 W0 A l.length l) (hb : Below W0.heap.size W0 w) (hg : W0.heap.size ≤ g) (hb0 : W0.heap.size ≤ base) (hbase : base ≤ w.heap.size) (hl : l.length ≤ 40) :
    Calls Try.prog 8 #[.pointer (some ⟨g, 0, none⟩), .slice A l.length c] w fun e w' => ∃ n, e = .returned (.int .i64 n) ∧ Tab w' base g (tF l) ∧ KeepB base g w w' := by
  by_cases hne : l = []
  · subst hne
    refine (add_nil g c A w).mono fun e w' ⟨he, hw⟩ => ?_
    subst hw
    exact ⟨0, he, h, KeepB.of_below (Below.refl _ _) hbase⟩
  · refine (add_calls base g c A F0 l w h F0_good (fun _ => Nat.zero_le _) hbase (Kd.C_below hr hb) (by omega) (fun ad he => by have := blk_of hr hne ad he; omega)).mono ?_
    rintro e w' ⟨hK, ⟨rfl, hc, hT⟩ | ⟨rfl, ⟨x, hx, hc⟩, hT⟩⟩
    · refine ⟨0, rfl, ?_, hK⟩
      unfold tF
      rwa [if_pos (List.all_eq_true.2 hc)]
    · refine ⟨1, rfl, ?_, hK⟩
      unfold tF
      rwa [if_neg (fun ha => by rw [List.all_eq_true.1 ha x hx] at hc; cases hc)]
theorem radd_any (base gr c : Nat) (A : Option Addr) (l : List S52) (W0 w : World) (h : RTab w base gr []) (hr : Kd.C k52 W0 A l.length l) (hb : Below W0.heap.size W0 w) (hg : W0.heap.size ≤ gr) (hbase : base ≤ w.heap.size) (hl : l.length ≤ 40) :
    Calls Try.prog 9 #[.pointer (some ⟨gr, 0, none⟩), .slice A l.length c] w fun e w' => ∃ n, e = .returned (.int .i64 n) ∧ RTab w' base gr (tL l) ∧ KeepB w.heap.size gr w w' := by
  by_cases hne : l = []
  · subst hne
    refine (radd_nil gr c A w).mono fun e w' ⟨he, hw⟩ => ?_
    subst hw
    exact ⟨0, he, h, KeepB.of_below (Below.refl _ _) (Nat.le_refl _)⟩
  · refine (radd_calls base gr c A [] l w h List.Pairwise.nil (Nat.zero_le _) hbase (Kd.C_below hr hb) (by omega) (fun ad he => by have := blk_of hr hne ad he; have := hb.size; omega)).mono ?_
    rintro e w' ⟨hK, ⟨rfl, hc, hT⟩ | ⟨rfl, ⟨x, hx, hc⟩, hT⟩⟩
    · refine ⟨0, rfl, ?_, hK⟩
      unfold tL
      rwa [if_pos (List.all_eq_true.2 hc)]
    · refine ⟨1, rfl, ?_, hK⟩
      unfold tL
      rwa [if_neg (fun ha => by rw [List.all_eq_true.1 ha x hx] at hc; cases hc)]
end Go.Proofs.Ytoiedcnhojkpiaa.Q
