/- DiffThird walked. -/
import Derived.Test.YtkbofkpkemfedaaDoorHRise
import Derived.Test.YtkbofkpkemfedaaDoorHThird
import Derived.Test.YtkbofkpkemfedaaDoorHTold
import Derived.Test.YtkbofkpkemfedaaDoorHWorks
namespace Go.Proofs.YtkbofkpkemfedaaDoor.Q
open Go.RowKit Go.Maps Go.WideElems Go.WideMaps Go.Proofs.YtkbofkpkemfedaaDoorW.PrintWords Go.Proofs.YtkbofkpkemfedaaDoorW.PrintLast Go.Proofs.YtkbofkpkemfedaaDoorW.PrintMore
attribute [local go_sem] max2_int min2_int max_two min_two max_three min_three max_four min_four
theorem IsSet.below {w w' : World} {B n : Nat} {l : List ByteArray} (h : IsSet w B n l) (hb : Below w.heap.size w w') : IsSet w' B n l := by
  obtain ⟨es, clock, hx, F, hn, hD⟩ := h
  exact ⟨es, clock, (hb.block B (Array.getElem?_eq_some_iff.1 hx).1).trans hx, F, hn, hD⟩
/-- Whatever is told is a path of one of the two. -/
theorem treesL_paths : ∀ (n : Nat) (a b : List F) (d : S32), d ∈ treesL n a b → (∃ x ∈ a, d.f0 = x.p) ∨ (∃ x ∈ b, d.f0 = x.p)
  | 0, _, _, d, h => by simp [treesL] at h
  | n + 1, [], [], d, h => by simp [treesL] at h
  | n + 1, x :: a, [], d, h => by
    simp only [treesL, List.mem_cons] at h
    rcases h with rfl | h
    · exact .inl ⟨x, List.mem_cons_self, rfl⟩
    · rcases treesL_paths n a [] d h with ⟨y, hy, e⟩ | ⟨y, hy, e⟩
      · exact .inl ⟨y, List.mem_cons_of_mem _ hy, e⟩
      · simp at hy
  | n + 1, [], y :: b, d, h => by
    simp only [treesL, List.mem_cons] at h
    rcases h with rfl | h
    · exact .inr ⟨y, List.mem_cons_self, rfl⟩
    · rcases treesL_paths n [] b d h with ⟨z, hz, e⟩ | ⟨z, hz, e⟩
      · simp at hz
      · exact .inr ⟨z, List.mem_cons_of_mem _ hz, e⟩
  | n + 1, x :: a, y :: b, d, h => by
    have k1 := treesL_paths n a (y :: b) d
    have k2 := treesL_paths n (x :: a) b d
    have k3 := treesL_paths n a b d
    have l1 : ∀ {P : F → Prop}, (∃ z ∈ a, P z) → ∃ z ∈ x :: a, P z := fun ⟨z, hz, e⟩ => ⟨z, List.mem_cons_of_mem _ hz, e⟩
    have l2 : ∀ {P : F → Prop}, (∃ z ∈ b, P z) → ∃ z ∈ y :: b, P z := fun ⟨z, hz, e⟩ => ⟨z, List.mem_cons_of_mem _ hz, e⟩
    simp only [treesL] at h
    split at h
    · rcases List.mem_cons.1 h with rfl | h
      · exact .inl ⟨x, List.mem_cons_self, rfl⟩
      · exact (k1 h).imp l1 id
    · split at h
      · rcases List.mem_cons.1 h with rfl | h
        · exact .inr ⟨y, List.mem_cons_self, rfl⟩
        · exact (k2 h).imp id l2
      · split at h
        · rcases List.mem_cons.1 h with rfl | h
          · exact .inl ⟨x, List.mem_cons_self, rfl⟩
          · exact (k3 h).imp l1 l2
        · exact (k3 h).imp l1 l2
theorem read_told {B c : Nat} {W : World} {base : Nat} {A : Option Addr} {T : List S32} (h : Kd.R k32 32 W base (fun k_ => k_ ≠ B) (.slice A T.length c) T) (k : Int) (h0 : 0 ≤ k) (h1 : k < T.length) :
    ∃ ad, A = some ad ∧ W.cell? (ad.add (k.toNat * 2)) = some (.string (rd_T32 T k).f0) ∧ W.cell? ⟨(ad.add (k.toNat * 2)).block, (ad.add (k.toNat * 2)).off + 1, none⟩ = some (.int .i64 (rd_T32 T k).f1) :=
  at_T32 (Kd.R_reads' h).2.2 k h0 h1
theorem rd_mem {T : List S32} {k : Int} (h0 : 0 ≤ k) (h1 : k < T.length) : rd_T32 T k ∈ T := by
  unfold rd_T32
  rw [List.getD_eq_getElem?_getD, List.getElem?_eq_getElem (show k.toNat < T.length by omega)]
  exact List.getElem_mem _
theorem take_mem {T : List S32} {k : Int} (h0 : 0 ≤ k) (h1 : k < T.length) {told : List ByteArray} (h : ∀ d ∈ T.take k.toNat, d.f0 ∈ told) : ∀ d ∈ T.take (k + 1).toNat, d.f0 ∈ (rd_T32 T k).f0 :: told := by
  intro d hd
  have e : (k + 1).toNat = k.toNat + 1 := by omega
  rw [e, List.take_succ_eq_append_getElem (by omega)] at hd
  rcases List.mem_append.1 hd with hd | hd
  · exact List.mem_cons_of_mem _ (h d hd)
  · have : d = rd_T32 T k := by
      unfold rd_T32
      rw [List.getD_eq_getElem?_getD, List.getElem?_eq_getElem (show k.toNat < T.length by omega)]
      simpa using hd
    rw [this]
    exact List.mem_cons_self
theorem IsSet.far {w : World} {B n : Nat} {l : List ByteArray} (h : IsSet w B n l) {p : Addr} (hne : B ≠ p.block) (u : Value) : IsSet (w.setCell p u) B n l := by
  obtain ⟨es, clock, hx, F, hn, hD⟩ := h
  exact ⟨es, clock, (Below.heap_setCell w p u B hne).trans hx, F, hn, hD⟩
/-- What stands of a list that rises, in a later world. -/
structure St (l o : List F) (A : Option Addr) (w : World) : Prop where
  row : RowF w A o
  good : Good l o
  rd : ∀ x ∈ o, Rd w x ∧ x.p.size ≤ 300 ∧ x.n ≤ 1000
theorem St.of {l o : List F} {A : Option Addr} {w0 w : World} (h : RowF w A o) (hg : Good l o) (hd : ∀ x ∈ l, Rd w0 x) (hb : Below w0.heap.size w0 w) : St l o A w :=
  ⟨h, hg, fun x hx => ⟨(hd x (hg.1 x hx).1).below hb, (hg.1 x hx).2.1, by have := (hg.1 x hx).2.2; omega⟩⟩
theorem St.below {l o : List F} {A : Option Addr} {w w' : World} (h : St l o A w) (hb : Below w.heap.size w w') : St l o A w' :=
  ⟨h.row.below hb, h.good, fun x hx => ⟨(h.rd x hx).1.below hb, (h.rd x hx).2⟩⟩
theorem St.len {l o : List F} {A : Option Addr} {w : World} (h : St l o A w) : o.length ≤ 100 := by have := h.good.2.2; omega
theorem tree_of {l1 o1 l2 o2 : List F} {A1 A2 : Option Addr} {w : World} (h1 : St l1 o1 A1 w) (h2 : St l2 o2 A2 w) (c1 c2 : Nat) :
    Calls Tryd.prog 7 #[.slice A1 o1.length c1, .slice A2 o2.length c2] w fun e w' => ∃ (A : Option Addr) (c : Nat) (T : List S32), e = .returned (.slice A T.length c) ∧ T = treesL (o1.length + o2.length) o1 o2 ∧ (T.length ≤ 60 ∧ ∀ d ∈ T, d.f0.size ≤ 300) ∧ Kd.R k32 32 w' w.heap.size (fun _ => True) (.slice A T.length c) T ∧ Below w.heap.size w w' := by
  refine (trees_any A1 c1 o1 A2 c2 o2 w h1.row h2.row h1.rd h2.rd h1.len h2.len).mono ?_
  rintro e w' ⟨v, rfl, hR, hb⟩
  obtain ⟨A, c, rfl, hc, _⟩ := Kd.R_reads hR
  refine ⟨A, c, _, rfl, rfl, ⟨?_, ?_⟩, hR, hb⟩
  · have := treesL_len (o1.length + o2.length) o1 o2
    have := h1.good.2.2
    have := h2.good.2.2
    omega
  · intro d hd
    rcases treesL_paths _ _ _ d hd with ⟨x, hx, e⟩ | ⟨x, hx, e⟩
    · rw [e]; exact (h1.rd x hx).2.1
    · rw [e]; exact (h2.rd x hx).2.1
set_option maxHeartbeats 4000000 in
set_option maxRecDepth 100000 in
theorem third_calls (A0 : Option Addr) (c0 : Nat) (l0 : List F) (A1 : Option Addr) (c1 : Nat) (l1 : List F) (A2 : Option Addr) (c2 : Nat) (l2 : List F) (w : World)
    (hr0 : Kd.C kF w A0 l0.length l0) (hr1 : Kd.C kF w A1 l1.length l1) (hr2 : Kd.C kF w A2 l2.length l2)
    (hd0 : ∀ x ∈ l0, Rd w x) (hd1 : ∀ x ∈ l1, Rd w x) (hd2 : ∀ x ∈ l2, Rd w x)
    (hm0 : l0.length ≤ 9223372036854775807) (hm1 : l1.length ≤ 9223372036854775807) (hm2 : l2.length ≤ 9223372036854775807) (hL : Letters w) :
    Calls Tryd.prog 3 #[.slice A0 l0.length c0, .slice A1 l1.length c1, .slice A2 l2.length c2] w fun e w' => e = .returned (.bool true) ∧ Below w.heap.size w w' := by
  have HR0 := Aside0.mk hr0
  have HR1 := Aside0.mk hr1
  have HR2 := Aside0.mk hr2
  have HD0 := Aside0.mk hd0
  have HD1 := Aside0.mk hd1
  have HD2 := Aside0.mk hd2
  have HM0 := Aside0.mk hm0
  have HM1 := Aside0.mk hm1
  have HM2 := Aside0.mk hm2
  have HL := Aside0.mk hL
  clear hr0 hr1 hr2 hd0 hd1 hd2 hm0 hm1 hm2 hL
  have hmm := @run_makeMap Tryd.prog
  go_enter Tryd.func3, Tryd.ntmps3
  go_upto_region 6 with (first
    | (go_at_call 5; (with_reducible refine (works_calls _ HL.out).mono ?_); rintro e w1 ⟨rfl, hb⟩; have HB1 := Aside0.mk hb; clear hb)
    | (go_at_call 6; (with_reducible refine (rising_calls A0 c0 l0 _ (Kd.C_below HR0.out HB1.out) HM0.out).mono ?_); rintro e w2 ⟨va, va', a, rfl, hR, hG, hb⟩; obtain ⟨Aa, ca, rfl, _, hW, _⟩ := own_F hR; have HB2 := Aside0.mk (below_step HB1.out hb); have HS2 := Aside0.mk (St.of hW hG HD0.out HB2.out); clear hb hR hW hG)
    | (go_at_call 6; (with_reducible refine (rising_calls A1 c1 l1 _ (Kd.C_below HR1.out HB2.out) HM1.out).mono ?_); rintro e w3 ⟨vb, vb', b, rfl, hR, hG, hb⟩; obtain ⟨Ab, cb, rfl, _, hW, _⟩ := own_F hR; have HB3 := Aside0.mk (below_step HB2.out hb); have HS3 := Aside0.mk (St.of hW hG HD1.out HB3.out); have HS23 := Aside0.mk (HS2.out.below hb); clear hb hR hW hG)
    | (go_at_call 6; (with_reducible refine (rising_calls A2 c2 l2 _ (Kd.C_below HR2.out HB3.out) HM2.out).mono ?_); rintro e w4 ⟨vc, vc', c, rfl, hR, hG, hb⟩; obtain ⟨Ac, cc, rfl, _, hW, _⟩ := own_F hR; have HB4 := Aside0.mk (below_step HB3.out hb); have HSc := Aside0.mk (St.of hW hG HD2.out HB4.out); have HSb := Aside0.mk (HS3.out.below hb); have HSa := Aside0.mk (HS23.out.below hb); clear hb hR hW hG))
  clear HR0 HR1 HR2 HD0 HD1 HD2 HM0 HM1 HM2 HL HB1 HB2 HB3 HS2 HS3 HS23
  go_upto_region 7 with (fail)
  clear hmm
  have hS5 : IsSet (w4.alloc (Obj.map #[] 0)) w4.heap.size 0 [] := World.ownsMap_made w4 _ _ _
  have HB5 : Aside0 (Below w4.heap.size w4 (w4.alloc (Obj.map #[] 0))) := ⟨below_alloc (Below.refl _ _) _⟩
  generalize w4.alloc (Obj.map #[] 0) = w5 at hS5 HB5 ⊢
  generalize hB0 : w4.heap.size = B at hS5 ⊢
  have HB0 := Aside0.mk hB0
  have HS5 := Aside0.mk hS5
  clear hS5 hB0
  go_wp2_with ((go_at_call 7; (with_reducible refine (tree_of (HSa.out.below HB5.out) (HSb.out.below HB5.out) ca cb).mono ?_); rintro e w6 ⟨At1, ct1, T1, rfl, hT, ⟨hTl1, hTp⟩, hR, hb⟩; have HT1 := Aside0.mk hT; have HTp1 := Aside0.mk hTp; have HS6 := Aside0.mk (HS5.out.below hb); have HB6 := Aside0.mk (below_step HB5.out hb); have HR6 : Aside0 (Kd.R k32 32 w6 w5.heap.size (fun k_ => k_ ≠ B) (.slice At1 T1.length ct1) T1) := ⟨Kd.R_mono (Kd.R_bound hR) (fun k_ hk => by have := hk.2.1; have := HS5.out.lt; omega)⟩; clear hT hTp hR hb))
  go_loopw [42] (fun v42 w' => ∃ (k : Int) (told : List ByteArray), v42 = .int .i64 k ∧ Aside0 (0 ≤ k ∧ k ≤ T1.length) ∧ Aside0 (IsSet w' B k.toNat told ∧ ∀ d ∈ T1.take k.toNat, d.f0 ∈ told) ∧ Aside0 (Kd.R k32 32 w' w5.heap.size (fun k_ => k_ ≠ B) (.slice At1 T1.length ct1) T1) ∧ Aside0 (Below w4.heap.size w4 w')) (fun v42 _ => T1.length + 1 - (intOf v42).toNat)
  case atStart => exact ⟨0, [], rfl, ⟨by omega⟩, ⟨HS6.out, by simp⟩, HR6, HB6⟩
  case round =>
  clear HS6 HR6 HB6 HS5
  obtain ⟨k, told, rfl, HX, HS, HR, HBW⟩ := hrel
  have hk0 := HX.out.1
  by_cases ck : k < (T1.length : Int)
  · have ckb : decide (k < (T1.length : Int)) = true := decide_eq_true ck
    have q1 := eq_true hk0
    have q2 := eq_true ck
    obtain ⟨ad, e1, hx1, hx2⟩ := read_told HR.out k hk0 ck
    cases e1
    have hp := HTp1.out _ (rd_mem hk0 ck)
    have HM := Aside0.mk (take_mem hk0 ck HS.out.2)
    generalize rd_T32 T1 k = D at hx1 hx2 hp HM
    obtain ⟨p, K⟩ := D
    change Aside0 (∀ d ∈ T1.take (k + 1).toNat, d.f0 ∈ p :: told) at HM
    simp only at hx1 hx2 hp
    go_upto_region 10 with (first | ((with_reducible refine gate_dst (N := 15) rfl ?_); refine box_event ?hg (N := 15) ?hd (cs := #[.string (⟨#[]⟩ : ByteArray), .int .i64 0]) (t := 32) ?hr ?_; (case hd => rfl); (case hg => rfl); (case hr => first | (go_simp; done) | (go_simp; rfl)); intro gb hg w7 hbox hb; have HB7 := Aside0.mk hb; have BK7 := Aside0.mk hbox; have HG7 := Aside0.mk hg; clear hb hbox hg; have hcz8_0 : w7.cell? ⟨gb, 0, none⟩ = some (.string (⟨#[]⟩ : ByteArray)) := (blk_cell BK7.out 0).trans rfl; have hcz8_1 : w7.cell? ⟨gb, 1, none⟩ = some (.int .i64 0) := (blk_cell BK7.out 1).trans rfl; have hfz8_0 := blk_frozen BK7.out 0; have hfz8_1 := blk_frozen BK7.out 1))
    obtain ⟨w8, hw8⟩ : ∃ w8, w8 = (w7.setCell ⟨gb, 0, none⟩ (.string p)).setCell ⟨gb, 1, none⟩ (.int .i64 K) := ⟨_, rfl⟩
    have hbB : B < gb := by have := HS.out.1.lt; have := HG7.out; omega
    have hbw : w4.heap.size ≤ gb := by have := HB0.out; omega
    have BK8 : Aside0 (w8.heap[gb]? = some (.cells #[.string p, .int .i64 K] 32 (0, 0))) := ⟨by rw [hw8]; refine blk_put (cs := #[.string p, .int .i64 0]) ?_ 1 _ rfl; refine blk_put (cs := #[.string (⟨#[]⟩ : ByteArray), .int .i64 0]) ?_ 0 _ rfl; exact BK7.out⟩
    have HR7 := Kd.R_below (Kd.R_elderB HR.out gb (Nat.le_of_eq HG7.out.symm)) HB7.out
    have HR8 : Aside0 (Kd.R k32 32 w8 w5.heap.size (fun k_ => k_ ≠ B) (.slice (some ad) T1.length ct1) T1) := ⟨by rw [hw8]; exact Kd.R_mono (Kd.R_far (p := ⟨gb, 1, none⟩) (Kd.R_far (p := ⟨gb, 0, none⟩) HR7 (fun _ hk => hk.2) (.string p)) (fun _ hk => hk.2) (.int .i64 K)) (fun _ hk => hk.1)⟩
    have HB8 : Aside0 (Below w4.heap.size w4 w8) := ⟨by rw [hw8]; refine below_set ?_ hbw; refine below_set ?_ hbw; exact below_step HBW.out HB7.out⟩
    have HS8 : Aside0 (IsSet w8 B k.toNat told ∧ True) := ⟨by rw [hw8]; exact ⟨((HS.out.1.below HB7.out).far (p := ⟨gb, 0, none⟩) (Nat.ne_of_lt hbB) _).far (p := ⟨gb, 1, none⟩) (Nat.ne_of_lt hbB) _, trivial⟩⟩
    have hd0 : w8.cell? ⟨gb, 0, none⟩ = some (.string p) := (blk_cell BK8.out 0).trans rfl
    rw [← hw8]
    clear hw8 HR7 HB7 BK7 HR HBW hcz8_0 hcz8_1 hfz8_0 hfz8_1 hx1 hx2 hbB hbw HG7
    obtain ⟨w9, hrun, hS9, hg9⟩ := put_told HS8.out.1 p hp (by omega)
    have HS9 := Aside0.mk hS9
    have HG9 := Aside0.mk hg9
    clear hS9 hg9
    go_wp2_with (fail)
    go_roundw
    case rel => exact ⟨k + 1, p :: told, by first | rfl | (go_num; done), ⟨by omega⟩, ⟨by rw [show (k + 1).toNat = k.toNat + 1 from by omega]; exact HS9.out, HM.out⟩, ⟨Kd.R_grown HR8.out HG9.out (fun k_ hk he => hk (Option.some.inj he))⟩, ⟨Below.grown HB8.out HG9.out HB8.out.size (fun k_ e => by have := HB0.out; injection e with e; omega)⟩⟩
    case measure => (simp [intOf]; omega)
  · have ckb : decide (k < (T1.length : Int)) = false := decide_eq_false ck
    have hke : k.toNat = T1.length := by have := HX.out; omega
    have h1 := HS.out
    rw [hke, List.take_length] at h1
    have HS5 := Aside0.mk h1.1
    have HE := Aside0.mk h1.2
    clear h1 HS HX HR HB5 hk0 ck
    have HB5 := HBW
    clear HBW
    obtain ⟨x1, hxx⟩ : ∃ x, x = wr := ⟨_, rfl⟩
    subst hxx
    go_wp2_with ((go_at_call 7; (with_reducible refine (tree_of (HSb.out.below HB5.out) (HSc.out.below HB5.out) cb cc).mono ?_); rintro e w6 ⟨At2, ct2, T2, rfl, hT, ⟨hTl2, hTp⟩, hR, hb⟩; have HT2 := Aside0.mk hT; have HTp2 := Aside0.mk hTp; have HS6 := Aside0.mk (HS5.out.below hb); have HB6 := Aside0.mk (below_step HB5.out hb); have HR6 : Aside0 (Kd.R k32 32 w6 x1.heap.size (fun k_ => k_ ≠ B) (.slice At2 T2.length ct2) T2) := ⟨Kd.R_mono (Kd.R_bound hR) (fun k_ hk => by have := hk.2.1; have := HS5.out.lt; omega)⟩; clear hT hTp hR hb))
    go_loopw [54] (fun v54 w' => ∃ (k : Int) (told : List ByteArray), v54 = .int .i64 k ∧ Aside0 (0 ≤ k ∧ k ≤ T2.length) ∧ Aside0 (IsSet w' B (T1.length + k.toNat) told ∧ ∀ d ∈ T2.take k.toNat, d.f0 ∈ told) ∧ Aside0 (Kd.R k32 32 w' x1.heap.size (fun k_ => k_ ≠ B) (.slice At2 T2.length ct2) T2) ∧ Aside0 (Below w4.heap.size w4 w') ∧ Aside0 (∀ d ∈ T1, d.f0 ∈ told)) (fun v54 _ => T2.length + 1 - (intOf v54).toNat)
    case atStart => exact ⟨0, told, rfl, ⟨by omega⟩, ⟨HS6.out, by simp⟩, HR6, HB6, HE⟩
    case round =>
    clear HS6 HR6 HB6 HS5 HE
    obtain ⟨k, told, rfl, HX, HS, HR, HBW, HE⟩ := hrel
    have hk0 := HX.out.1
    by_cases ck : k < (T2.length : Int)
    · have ckb : decide (k < (T2.length : Int)) = true := decide_eq_true ck
      have q1 := eq_true hk0
      have q2 := eq_true ck
      obtain ⟨ad, e1, hx1, hx2⟩ := read_told HR.out k hk0 ck
      cases e1
      have hp := HTp2.out _ (rd_mem hk0 ck)
      have HM := Aside0.mk (take_mem hk0 ck HS.out.2)
      generalize rd_T32 T2 k = D at hx1 hx2 hp HM
      obtain ⟨p, K⟩ := D
      change Aside0 (∀ d ∈ T2.take (k + 1).toNat, d.f0 ∈ p :: told) at HM
      simp only at hx1 hx2 hp
      go_upto_region 15 with (first | ((with_reducible refine gate_dst (N := 17) rfl ?_); refine box_event ?hg (N := 17) ?hd (cs := #[.string (⟨#[]⟩ : ByteArray), .int .i64 0]) (t := 32) ?hr ?_; (case hd => rfl); (case hg => rfl); (case hr => first | (go_simp; done) | (go_simp; rfl)); intro gb hg w7 hbox hb; have HB7 := Aside0.mk hb; have BK7 := Aside0.mk hbox; have HG7 := Aside0.mk hg; clear hb hbox hg; have hcz8_0 : w7.cell? ⟨gb, 0, none⟩ = some (.string (⟨#[]⟩ : ByteArray)) := (blk_cell BK7.out 0).trans rfl; have hcz8_1 : w7.cell? ⟨gb, 1, none⟩ = some (.int .i64 0) := (blk_cell BK7.out 1).trans rfl; have hfz8_0 := blk_frozen BK7.out 0; have hfz8_1 := blk_frozen BK7.out 1))
      obtain ⟨w8, hw8⟩ : ∃ w8, w8 = (w7.setCell ⟨gb, 0, none⟩ (.string p)).setCell ⟨gb, 1, none⟩ (.int .i64 K) := ⟨_, rfl⟩
      have hbB : B < gb := by have := HS.out.1.lt; have := HG7.out; omega
      have hbw : w4.heap.size ≤ gb := by have := HB0.out; omega
      have BK8 : Aside0 (w8.heap[gb]? = some (.cells #[.string p, .int .i64 K] 32 (0, 0))) := ⟨by rw [hw8]; refine blk_put (cs := #[.string p, .int .i64 0]) ?_ 1 _ rfl; refine blk_put (cs := #[.string (⟨#[]⟩ : ByteArray), .int .i64 0]) ?_ 0 _ rfl; exact BK7.out⟩
      have HR7 := Kd.R_below (Kd.R_elderB HR.out gb (Nat.le_of_eq HG7.out.symm)) HB7.out
      have HR8 : Aside0 (Kd.R k32 32 w8 x1.heap.size (fun k_ => k_ ≠ B) (.slice (some ad) T2.length ct2) T2) := ⟨by rw [hw8]; exact Kd.R_mono (Kd.R_far (p := ⟨gb, 1, none⟩) (Kd.R_far (p := ⟨gb, 0, none⟩) HR7 (fun _ hk => hk.2) (.string p)) (fun _ hk => hk.2) (.int .i64 K)) (fun _ hk => hk.1)⟩
      have HB8 : Aside0 (Below w4.heap.size w4 w8) := ⟨by rw [hw8]; refine below_set ?_ hbw; refine below_set ?_ hbw; exact below_step HBW.out HB7.out⟩
      have HS8 : Aside0 (IsSet w8 B (T1.length + k.toNat) told ∧ True) := ⟨by rw [hw8]; exact ⟨((HS.out.1.below HB7.out).far (p := ⟨gb, 0, none⟩) (Nat.ne_of_lt hbB) _).far (p := ⟨gb, 1, none⟩) (Nat.ne_of_lt hbB) _, trivial⟩⟩
      have hd0 : w8.cell? ⟨gb, 0, none⟩ = some (.string p) := (blk_cell BK8.out 0).trans rfl
      rw [← hw8]
      clear hw8 HR7 HB7 BK7 HR HBW hcz8_0 hcz8_1 hfz8_0 hfz8_1 hx1 hx2 hbB hbw HG7
      obtain ⟨w9, hrun, hS9, hg9⟩ := put_told HS8.out.1 p hp (by omega)
      have HS9 := Aside0.mk hS9
      have HG9 := Aside0.mk hg9
      clear hS9 hg9
      go_wp2_with (fail)
      go_roundw
      case rel => exact ⟨k + 1, p :: told, by first | rfl | (go_num; done), ⟨by omega⟩, ⟨by rw [show (k + 1).toNat = k.toNat + 1 from by omega]; exact HS9.out, HM.out⟩, ⟨Kd.R_grown HR8.out HG9.out (fun k_ hk he => hk (Option.some.inj he))⟩, ⟨Below.grown HB8.out HG9.out HB8.out.size (fun k_ e => by have := HB0.out; injection e with e; omega)⟩, ⟨fun d hd => List.mem_cons_of_mem _ (HE.out d hd)⟩⟩
      case measure => (simp [intOf]; omega)
    · have ckb : decide (k < (T2.length : Int)) = false := decide_eq_false ck
      have hke : k.toNat = T2.length := by have := HX.out; omega
      have h1 := HS.out
      rw [hke, List.take_length] at h1
      have HS5 := Aside0.mk h1.1
      have HE2 := Aside0.mk h1.2
      clear h1 HS HX HR HB5 hk0 ck
      have HB5 := HBW
      clear HBW
      obtain ⟨x2, hxx⟩ : ∃ x, x = wr := ⟨_, rfl⟩
      subst hxx
      go_wp2_with ((go_at_call 7; (with_reducible refine (tree_of (HSa.out.below HB5.out) (HSc.out.below HB5.out) ca cc).mono ?_); rintro e w6 ⟨At3, ct3, T3, rfl, hT, ⟨hTl3, hTp⟩, hR, hb⟩; have HT3 := Aside0.mk hT; have HTp3 := Aside0.mk hTp; have HS6 := Aside0.mk (HS5.out.below hb); have HB6 := Aside0.mk (below_step HB5.out hb); have HR6 : Aside0 (Kd.R k32 32 w6 x2.heap.size (fun k_ => k_ ≠ B) (.slice At3 T3.length ct3) T3) := ⟨Kd.R_mono (Kd.R_bound hR) (fun k_ hk => by have := hk.2.1; have := HS5.out.lt; omega)⟩; clear hT hTp hR hb))
      have HIN : Aside0 (∀ d ∈ T3, d.f0 ∈ told) := ⟨fun d hd => by
        have h := third (asc_of a HSa.out.good.2.1) (asc_of b HSb.out.good.2.1) (asc_of c HSc.out.good.2.1) d (by rw [← HT3.out]; exact hd)
        rw [← HT1.out, ← HT2.out] at h
        rcases List.mem_append.1 h with h | h
        · obtain ⟨y, hy, e⟩ := List.mem_map.1 h
          rw [← e]; exact HE.out y hy
        · obtain ⟨y, hy, e⟩ := List.mem_map.1 h
          rw [← e]; exact HE2.out y hy⟩
      go_loopw [66] (fun v66 w' => ∃ (k : Int), v66 = .int .i64 k ∧ Aside0 (0 ≤ k ∧ k ≤ T3.length) ∧ Aside0 (IsSet w' B (T1.length + T2.length) told ∧ True) ∧ Aside0 (Kd.R k32 32 w' x2.heap.size (fun k_ => k_ ≠ B) (.slice At3 T3.length ct3) T3) ∧ Aside0 (Below w4.heap.size w4 w')) (fun v66 _ => T3.length + 1 - (intOf v66).toNat)
      case atStart => exact ⟨0, rfl, ⟨by omega⟩, ⟨HS6.out, trivial⟩, HR6, HB6⟩
      case round =>
      clear HS6 HR6 HB6 HS5
      obtain ⟨k, rfl, HX, HS, HR, HBW⟩ := hrel
      have hk0 := HX.out.1
      by_cases ck : k < (T3.length : Int)
      · have ckb : decide (k < (T3.length : Int)) = true := decide_eq_true ck
        have q1 := eq_true hk0
        have q2 := eq_true ck
        obtain ⟨ad, e1, hx1, hx2⟩ := read_told HR.out k hk0 ck
        cases e1
        have hp := HTp3.out _ (rd_mem hk0 ck)
        have HM := Aside0.mk (HIN.out _ (rd_mem hk0 ck))
        generalize rd_T32 T3 k = D at hx1 hx2 hp HM
        obtain ⟨p, K⟩ := D
        change Aside0 (p ∈ told) at HM
        simp only at hx1 hx2 hp
        go_upto_region 20 with (first | ((with_reducible refine gate_dst (N := 19) rfl ?_); refine box_event ?hg (N := 19) ?hd (cs := #[.string (⟨#[]⟩ : ByteArray), .int .i64 0]) (t := 32) ?hr ?_; (case hd => rfl); (case hg => rfl); (case hr => first | (go_simp; done) | (go_simp; rfl)); intro gb hg w7 hbox hb; have HB7 := Aside0.mk hb; have BK7 := Aside0.mk hbox; have HG7 := Aside0.mk hg; clear hb hbox hg; have hcz8_0 : w7.cell? ⟨gb, 0, none⟩ = some (.string (⟨#[]⟩ : ByteArray)) := (blk_cell BK7.out 0).trans rfl; have hcz8_1 : w7.cell? ⟨gb, 1, none⟩ = some (.int .i64 0) := (blk_cell BK7.out 1).trans rfl; have hfz8_0 := blk_frozen BK7.out 0; have hfz8_1 := blk_frozen BK7.out 1))
        obtain ⟨w8, hw8⟩ : ∃ w8, w8 = (w7.setCell ⟨gb, 0, none⟩ (.string p)).setCell ⟨gb, 1, none⟩ (.int .i64 K) := ⟨_, rfl⟩
        have hbB : B < gb := by have := HS.out.1.lt; have := HG7.out; omega
        have hbw : w4.heap.size ≤ gb := by have := HB0.out; omega
        have BK8 : Aside0 (w8.heap[gb]? = some (.cells #[.string p, .int .i64 K] 32 (0, 0))) := ⟨by rw [hw8]; refine blk_put (cs := #[.string p, .int .i64 0]) ?_ 1 _ rfl; refine blk_put (cs := #[.string (⟨#[]⟩ : ByteArray), .int .i64 0]) ?_ 0 _ rfl; exact BK7.out⟩
        have HR7 := Kd.R_below (Kd.R_elderB HR.out gb (Nat.le_of_eq HG7.out.symm)) HB7.out
        have HR8 : Aside0 (Kd.R k32 32 w8 x2.heap.size (fun k_ => k_ ≠ B) (.slice (some ad) T3.length ct3) T3) := ⟨by rw [hw8]; exact Kd.R_mono (Kd.R_far (p := ⟨gb, 1, none⟩) (Kd.R_far (p := ⟨gb, 0, none⟩) HR7 (fun _ hk => hk.2) (.string p)) (fun _ hk => hk.2) (.int .i64 K)) (fun _ hk => hk.1)⟩
        have HB8 : Aside0 (Below w4.heap.size w4 w8) := ⟨by rw [hw8]; refine below_set ?_ hbw; refine below_set ?_ hbw; exact below_step HBW.out HB7.out⟩
        have HS8 : Aside0 (IsSet w8 B (T1.length + T2.length) told ∧ True) := ⟨by rw [hw8]; exact ⟨((HS.out.1.below HB7.out).far (p := ⟨gb, 0, none⟩) (Nat.ne_of_lt hbB) _).far (p := ⟨gb, 1, none⟩) (Nat.ne_of_lt hbB) _, trivial⟩⟩
        have hd0 : w8.cell? ⟨gb, 0, none⟩ = some (.string p) := (blk_cell BK8.out 0).trans rfl
        rw [← hw8]
        clear hw8 HR7 HB7 BK7 HR HBW hcz8_0 hcz8_1 hfz8_0 hfz8_1 hx1 hx2 hbB hbw HG7
        have hrun := look_told HS8.out.1 p hp HM.out
        go_wp2_with (fail)
        go_roundw
        case rel => exact ⟨k + 1, by first | rfl | (go_num; done), ⟨by omega⟩, HS8, ⟨HR8.out⟩, HB8⟩
        case measure => (simp [intOf]; omega)
      · have ckb : decide (k < (T3.length : Int)) = false := decide_eq_false ck
        have hke : k.toNat = T3.length := by have := HX.out; omega
        go_wp2_with (fail)
        go_ret
        exact ⟨rfl, below_step HB4.out HBW.out⟩
end Go.Proofs.YtkbofkpkemfedaaDoor.Q
