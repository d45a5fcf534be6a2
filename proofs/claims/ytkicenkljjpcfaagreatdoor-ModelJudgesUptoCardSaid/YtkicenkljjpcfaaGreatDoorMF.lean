/- Of the proof about model: several texts, joined. -/
import Derived.Test.YtkicenkljjpcfaaGreatDoorMC
import Derived.Shelf.Abstract
set_option linter.unusedVariables false
set_option linter.unusedSimpArgs false
set_option linter.unusedSimpArgs false
namespace Go.Proofs.YtkicenkljjpcfaaGreatDoor.Q
open Go.RowKit Go.Shelf Go.Proofs.YtkicenkljjpcfaaGreatDoorW.PrintWords Go.Proofs.YtkicenkljjpcfaaGreatDoorW.PrintLast Go.Proofs.YtkicenkljjpcfaaGreatDoorW.PrintMore
theorem s51 : (Tryz.prog.info? 51).map (·.size) = some 20 := by kernel_rfl
/-- A question about a span, asked of whatever stands in a world that has grown from W. -/
def Asks (W : World) (f : FuncId) (cap : Array Value) (l : List Sp) (q : Sp → Bool) : Prop :=
  Enters Tryz.prog f ∧ ∀ w, Below W.heap.size W w → ∀ m ∈ l, Calls Tryz.prog f (#[aggS m] ++ cap) w fun e w' => e = .returned (.bool (q m)) ∧ Below w.heap.size w w'
theorem Asks.below {W w : World} {f : FuncId} {cap : Array Value} {l : List Sp} {q : Sp → Bool} (h : Asks W f cap l q) (hb : Below W.heap.size W w) : Asks w f cap l q := ⟨h.1, fun w' hw m hm => h.2 w' (below_step hb hw) m hm⟩
def idxP {α : Type} (l : List α) (q : α → Bool) : Int := if l.any q then ((l.findIdx q : Nat) : Int) else -1
theorem idxP_none {α : Type} {l : List α} {q : α → Bool} (h : l.any q = false) : idxP l q = -1 := by unfold idxP; rw [h]; rfl
theorem idxP_at {α : Type} {l : List α} {q : α → Bool} {k : Nat} {x : α} (hx : l[k]? = some x) (h : q x = true) (h0 : (l.take k).any q = false) : idxP l q = k := by
  have hk : k < l.length := (List.getElem?_eq_some_iff.1 hx).1
  have hxe : l[k] = x := (List.getElem?_eq_some_iff.1 hx).2
  have ha : l.any q = true := List.any_eq_true.2 ⟨x, List.mem_of_getElem? hx, h⟩
  unfold idxP; rw [ha]
  have : l.findIdx q = k := by
    rw [List.findIdx_eq hk]
    refine ⟨by rw [hxe]; exact h, fun j hj => ?_⟩
    rw [List.any_eq_false] at h0
    have := h0 l[j] (List.mem_take_iff_getElem.2 ⟨j, by omega, rfl⟩)
    simpa using this
  simp [this]
set_option maxHeartbeats 4000000 in
set_option maxRecDepth 100000 in
theorem index_calls (A : Option Addr) (c : Nat) (l : List Sp) (f : FuncId) (cap : Array Value) (q : Sp → Bool) (w : World) (h : CS w A l) (hl : l.length ≤ 10000) (hq : Asks w f cap l q) :
    Calls Tryz.prog 85 #[.slice A l.length c, .func (.func f) #[] cap] w fun e w' => e = .returned (.int .i64 (idxP l q)) ∧ Below w.heap.size w w' := by
  have HC := Aside0.mk h
  have HA := Aside0.mk hq
  clear h hq
  go_enter Tryz.func85, Tryz.ntmps85
  go_wp2_with (fail)
  go_loopw [8] (fun v8 wr => ∃ k : Nat, k ≤ l.length ∧ v8 = .int .i64 k ∧ Aside0 ((l.take k).any q = false) ∧ Aside0 (Below w.heap.size w wr)) (fun v8 _ => l.length - (intOf v8).toNat)
  case atStart => exact ⟨0, Nat.zero_le _, rfl, ⟨rfl⟩, ⟨Below.refl _ _⟩⟩
  case round =>
    obtain ⟨k, hk, rfl, HQ, HW⟩ := hrel
    by_cases hlt : k < l.length
    · obtain ⟨m, hm⟩ : ∃ r, l[k]? = some r := ⟨_, List.getElem?_eq_getElem hlt⟩
      have hrm : m ∈ l := List.mem_of_getElem? hm
      obtain ⟨ad, rfl, hcell⟩ := cellsS (HC.out.below HW.out).1 k hlt m hm
      have HCE := Aside0.mk hcell
      have HCA := Aside0.mk (HA.out.2 wr HW.out m hrm)
      have HM := Aside0.mk hm
      have HTK := Aside0.mk (any_take q l k m hm)
      have hml : k < maxLen := by unfold maxLen; omega
      clear hcell hrm hm
      go_wp2_with (((with_reducible refine gate_dst (N := 15) rfl ?_); refine wpList_load_any (by rfl) 51 (.tmp 14) rfl (ad.add (k * 20)) rfl (encS m) _ (HCE.out) Tryz.underlying51 rfl s51 ?_))
      rw [HA.out.1, Oper.upon_enter]
      refine HCA.out.mono ?_
      rintro e1 w1 ⟨rfl, hB⟩
      have HW1 := Aside0.mk (below_step HW.out hB)
      clear hB HCA HCE HW
      cases hb : q m with
      | true =>
        have HN : Aside0 (idxP l q = k) := ⟨idxP_at HM.out hb HQ.out⟩
        go_wp2_with (fail)
        go_ret
        exact ⟨by rw [HN.out]; rfl, HW1.out⟩
      | false =>
        have HN : Aside0 ((l.take (k + 1)).any q = false) := ⟨by rw [HTK.out, HQ.out, hb]; rfl⟩
        go_wp2_with (fail)
        go_roundw
        case rel => exact ⟨k + 1, hlt, by go_simp, HN, HW1⟩
        case measure => simp [intOf]; omega
    · obtain rfl : k = l.length := by omega
      have HN : Aside0 (l.any q = false) := ⟨by have := HQ.out; rwa [List.take_length] at this⟩
      go_wp2_with (fail)
      go_ret
      exact ⟨by rw [idxP_none HN.out]; rfl, HW.out⟩
theorem idxP_ge {α : Type} (l : List α) (q : α → Bool) : decide (0 ≤ idxP l q) = l.any q := by
  unfold idxP
  cases l.any q <;> simp
set_option maxHeartbeats 4000000 in
set_option maxRecDepth 100000 in
theorem contains_calls (A : Option Addr) (c : Nat) (l : List Sp) (f : FuncId) (cap : Array Value) (q : Sp → Bool) (w : World) (h : CS w A l) (hl : l.length ≤ 10000) (hq : Asks w f cap l q) :
    Calls Tryz.prog 70 #[.slice A l.length c, .func (.func f) #[] cap] w fun e w' => e = .returned (.bool (l.any q)) ∧ Below w.heap.size w w' := by
  have HG := Aside0.mk (idxP_ge l q)
  have HC := Aside0.mk (index_calls A c l f cap q w h hl hq)
  clear h hq
  go_enter Tryz.func70, Tryz.ntmps70
  go_wp2_with (fail)
  refine HC.out.mono ?_
  rintro e1 w1 ⟨rfl, hB⟩
  have HB := Aside0.mk hB
  clear hB HC
  generalize idxP l q = r at HG ⊢
  obtain ⟨b, hb⟩ : ∃ b, b = l.any q := ⟨_, rfl⟩
  have d1 : decide (0 ≤ r) = b := by rw [hb]; exact HG.out
  have HBQ := Aside0.mk hb
  clear HG hb
  go_wp2_with (fail)
  go_ret
  exact ⟨by rw [← HBQ.out]; rfl, HB.out⟩
set_option maxHeartbeats 4000000 in
set_option maxRecDepth 100000 in
theorem any_calls (A : Option Addr) (c : Nat) (n : Int) (l : List Sp) (f : FuncId) (cap : Array Value) (q : Sp → Bool) (w : World) (h : CS w A l) (hl : l.length ≤ 10000) (hq : Asks w f cap l q) :
    Calls Tryz.prog 40 #[.agg #[.slice A l.length c, .int .i64 n], .func (.func f) #[] cap] w fun e w' => e = .returned (.bool (l.any q)) ∧ Below w.heap.size w w' := by
  have HB0 : Aside0 (Below w.heap.size w (w.alloc (.cells #[.slice A l.length c, .int .i64 n] 47))) := ⟨below_alloc (Below.refl _ _) _⟩
  have HC := Aside0.mk h
  have HA := Aside0.mk hq
  clear h hq
  go_enter Tryz.func40, Tryz.ntmps40
  go_wp2_with (fail)
  refine (contains_calls A c l f cap q _ (HC.out.below HB0.out) hl (HA.out.below HB0.out)).mono ?_
  rintro e1 w1 ⟨rfl, hB⟩
  have HB1 := Aside0.mk (below_step HB0.out hB)
  clear hB
  go_wp2_with (fail)
  go_ret
  exact ⟨rfl, HB1.out⟩
end Go.Proofs.YtkicenkljjpcfaaGreatDoor.Q
/- The program's questions about one span, walked. -/
set_option linter.unusedSimpArgs false
namespace Go.Proofs.YtkicenkljjpcfaaGreatDoor.Q
open Go.RowKit Go.Shelf Go.Proofs.YtkicenkljjpcfaaGreatDoorW.PrintWords Go.Proofs.YtkicenkljjpcfaaGreatDoorW.PrintLast Go.Proofs.YtkicenkljjpcfaaGreatDoorW.PrintMore
def makesP (s : Sp) : Bool := s.c.kind == 2 && (!s.op && s.r.code == 0)
theorem makesP_eq (s : Sp) : makesP s = (s.c.kind == 2 && (!s.op && s.r.code == 0)) := rfl
theorem madeP_makes (s : Sp) (x : ByteArray) : madeP s x = (makesP s && eqT s.r.id x) := by unfold madeP makesP; rw [Bool.and_assoc, Bool.and_assoc]
def unsureP (s : Sp) : Bool := s.op || s.r.code != 0
theorem unsureP_eq (s : Sp) : unsureP s = (s.op || s.r.code != 0) := rfl
set_option maxHeartbeats 8000000 in
set_option maxRecDepth 100000 in
theorem makes_calls (s : Sp) (w : World) : Calls Tryz.prog 19 #[aggS s] w fun e w' => e = .returned (.bool (makesP s)) ∧ Below w.heap.size w w' := by
  have HB0 : Aside0 (Below w.heap.size w (w.alloc (.cells #[.int .i64 s.c.kind, .slice s.c.eA s.c.eN s.c.eC, .int .i64 s.c.time, .string s.c.host, .string s.c.parent, .slice s.c.iA s.c.iN s.c.iC, .string s.c.path, .slice s.c.uA s.c.uN s.c.uC, .int .i64 s.c.percent, .bool s.c.rd, .int .i64 s.r.code, .string s.r.id, .int .i64 s.r.n, .slice s.r.jA s.r.jN s.r.jC, .slice s.r.tA s.r.tN s.r.tC, .slice s.r.fA s.r.fN s.r.fC, .slice s.r.sA s.r.sN s.r.sC, .int .i64 s.b, .int .i64 s.e, .bool s.op] 51))) := ⟨below_alloc (Below.refl _ _) _⟩
  have HK0 : Aside0 ((w.alloc (.cells #[.int .i64 s.c.kind, .slice s.c.eA s.c.eN s.c.eC, .int .i64 s.c.time, .string s.c.host, .string s.c.parent, .slice s.c.iA s.c.iN s.c.iC, .string s.c.path, .slice s.c.uA s.c.uN s.c.uC, .int .i64 s.c.percent, .bool s.c.rd, .int .i64 s.r.code, .string s.r.id, .int .i64 s.r.n, .slice s.r.jA s.r.jN s.r.jC, .slice s.r.tA s.r.tN s.r.tC, .slice s.r.fA s.r.fN s.r.fC, .slice s.r.sA s.r.sN s.r.sC, .int .i64 s.b, .int .i64 s.e, .bool s.op] 51)).heap[w.heap.size]? = some (.cells (encS s).toArray 51 (0, 0))) := ⟨(MapKept.heap_alloc w _).1⟩
  go_enter Tryz.func19, Tryz.ntmps19
  go_upto_region 1 with (fail)
  generalize (w.alloc (.cells #[.int .i64 s.c.kind, .slice s.c.eA s.c.eN s.c.eC, .int .i64 s.c.time, .string s.c.host, .string s.c.parent, .slice s.c.iA s.c.iN s.c.iC, .string s.c.path, .slice s.c.uA s.c.uN s.c.uC, .int .i64 s.c.percent, .bool s.c.rd, .int .i64 s.r.code, .string s.r.id, .int .i64 s.r.n, .slice s.r.jA s.r.jN s.r.jC, .slice s.r.tA s.r.tN s.r.tC, .slice s.r.fA s.r.fN s.r.fC, .slice s.r.sA s.r.sN s.r.sC, .int .i64 s.b, .int .i64 s.e, .bool s.op] 51)) = W0 at HB0 HK0 ⊢
  obtain ⟨g, hg⟩ : ∃ g, g = w.heap.size := ⟨_, rfl⟩
  rw [← hg] at HK0 ⊢
  clear hg
  have k0 : W0.cell? ⟨g, 0, none⟩ = some (.int .i64 s.c.kind) := (blk_cell HK0.out 0).trans rfl
  have k10 : W0.cell? ⟨g, 10, none⟩ = some (.int .i64 s.r.code) := (blk_cell HK0.out 10).trans rfl
  have k19 : W0.cell? ⟨g, 19, none⟩ = some (.bool s.op) := (blk_cell HK0.out 19).trans rfl
  cases h1 : (s.c.kind == 2) with
  | false =>
    go_wp2_with (fail)
    go_ret
    exact ⟨by rw [makesP_eq, h1]; rfl, HB0.out⟩
  | true =>
    cases h2 : s.op with
    | true =>
      rw [h2] at k19
      go_wp2_with (fail)
      go_ret
      exact ⟨by rw [makesP_eq, h1, h2]; rfl, HB0.out⟩
    | false =>
      rw [h2] at k19
      cases h3 : (s.r.code == 0) with
      | false =>
        go_wp2_with (fail)
        go_ret
        exact ⟨by rw [makesP_eq, h1, h2, h3]; rfl, HB0.out⟩
      | true =>
        go_wp2_with (fail)
        go_ret
        exact ⟨by rw [makesP_eq, h1, h2, h3]; rfl, HB0.out⟩
set_option maxHeartbeats 8000000 in
set_option maxRecDepth 100000 in
theorem unsure_calls (s : Sp) (w : World) : Calls Tryz.prog 71 #[aggS s] w fun e w' => e = .returned (.bool (unsureP s)) ∧ Below w.heap.size w w' := by
  have HB0 : Aside0 (Below w.heap.size w (w.alloc (.cells #[.int .i64 s.c.kind, .slice s.c.eA s.c.eN s.c.eC, .int .i64 s.c.time, .string s.c.host, .string s.c.parent, .slice s.c.iA s.c.iN s.c.iC, .string s.c.path, .slice s.c.uA s.c.uN s.c.uC, .int .i64 s.c.percent, .bool s.c.rd, .int .i64 s.r.code, .string s.r.id, .int .i64 s.r.n, .slice s.r.jA s.r.jN s.r.jC, .slice s.r.tA s.r.tN s.r.tC, .slice s.r.fA s.r.fN s.r.fC, .slice s.r.sA s.r.sN s.r.sC, .int .i64 s.b, .int .i64 s.e, .bool s.op] 51))) := ⟨below_alloc (Below.refl _ _) _⟩
  have HK0 : Aside0 ((w.alloc (.cells #[.int .i64 s.c.kind, .slice s.c.eA s.c.eN s.c.eC, .int .i64 s.c.time, .string s.c.host, .string s.c.parent, .slice s.c.iA s.c.iN s.c.iC, .string s.c.path, .slice s.c.uA s.c.uN s.c.uC, .int .i64 s.c.percent, .bool s.c.rd, .int .i64 s.r.code, .string s.r.id, .int .i64 s.r.n, .slice s.r.jA s.r.jN s.r.jC, .slice s.r.tA s.r.tN s.r.tC, .slice s.r.fA s.r.fN s.r.fC, .slice s.r.sA s.r.sN s.r.sC, .int .i64 s.b, .int .i64 s.e, .bool s.op] 51)).heap[w.heap.size]? = some (.cells (encS s).toArray 51 (0, 0))) := ⟨(MapKept.heap_alloc w _).1⟩
  go_enter Tryz.func71, Tryz.ntmps71
  go_upto_region 1 with (fail)
  generalize (w.alloc (.cells #[.int .i64 s.c.kind, .slice s.c.eA s.c.eN s.c.eC, .int .i64 s.c.time, .string s.c.host, .string s.c.parent, .slice s.c.iA s.c.iN s.c.iC, .string s.c.path, .slice s.c.uA s.c.uN s.c.uC, .int .i64 s.c.percent, .bool s.c.rd, .int .i64 s.r.code, .string s.r.id, .int .i64 s.r.n, .slice s.r.jA s.r.jN s.r.jC, .slice s.r.tA s.r.tN s.r.tC, .slice s.r.fA s.r.fN s.r.fC, .slice s.r.sA s.r.sN s.r.sC, .int .i64 s.b, .int .i64 s.e, .bool s.op] 51)) = W0 at HB0 HK0 ⊢
  obtain ⟨g, hg⟩ : ∃ g, g = w.heap.size := ⟨_, rfl⟩
  rw [← hg] at HK0 ⊢
  clear hg
  have k10 : W0.cell? ⟨g, 10, none⟩ = some (.int .i64 s.r.code) := (blk_cell HK0.out 10).trans rfl
  have k19 : W0.cell? ⟨g, 19, none⟩ = some (.bool s.op) := (blk_cell HK0.out 19).trans rfl
  cases h2 : s.op with
  | true =>
    rw [h2] at k19
    go_wp2_with (fail)
    go_ret
    exact ⟨by rw [unsureP_eq, h2]; rfl, HB0.out⟩
  | false =>
    rw [h2] at k19
    cases h3 : (s.r.code == 0) with
    | false =>
      have h4 : (s.r.code != 0) = true := by rw [bne, h3]; rfl
      go_wp2_with (fail)
      go_ret
      exact ⟨by rw [unsureP_eq, h2, h4]; rfl, HB0.out⟩
    | true =>
      have h4 : (s.r.code != 0) = false := by rw [bne, h3]; rfl
      go_wp2_with (fail)
      go_ret
      exact ⟨by rw [unsureP_eq, h2, h4]; rfl, HB0.out⟩
set_option maxHeartbeats 8000000 in
set_option maxRecDepth 100000 in
theorem pmade_calls (s : Sp) (x : ByteArray) (w : World) : Calls Tryz.prog 42 #[aggS s, .string x] w fun e w' => e = .returned (.bool (madeP s x)) ∧ Below w.heap.size w w' := by
  have HB0 : Aside0 (Below w.heap.size w (w.alloc (.cells #[.int .i64 s.c.kind, .slice s.c.eA s.c.eN s.c.eC, .int .i64 s.c.time, .string s.c.host, .string s.c.parent, .slice s.c.iA s.c.iN s.c.iC, .string s.c.path, .slice s.c.uA s.c.uN s.c.uC, .int .i64 s.c.percent, .bool s.c.rd, .int .i64 s.r.code, .string s.r.id, .int .i64 s.r.n, .slice s.r.jA s.r.jN s.r.jC, .slice s.r.tA s.r.tN s.r.tC, .slice s.r.fA s.r.fN s.r.fC, .slice s.r.sA s.r.sN s.r.sC, .int .i64 s.b, .int .i64 s.e, .bool s.op] 51))) := ⟨below_alloc (Below.refl _ _) _⟩
  have HK0 : Aside0 ((w.alloc (.cells #[.int .i64 s.c.kind, .slice s.c.eA s.c.eN s.c.eC, .int .i64 s.c.time, .string s.c.host, .string s.c.parent, .slice s.c.iA s.c.iN s.c.iC, .string s.c.path, .slice s.c.uA s.c.uN s.c.uC, .int .i64 s.c.percent, .bool s.c.rd, .int .i64 s.r.code, .string s.r.id, .int .i64 s.r.n, .slice s.r.jA s.r.jN s.r.jC, .slice s.r.tA s.r.tN s.r.tC, .slice s.r.fA s.r.fN s.r.fC, .slice s.r.sA s.r.sN s.r.sC, .int .i64 s.b, .int .i64 s.e, .bool s.op] 51)).heap[w.heap.size]? = some (.cells (encS s).toArray 51 (0, 0))) := ⟨(MapKept.heap_alloc w _).1⟩
  go_enter Tryz.func42, Tryz.ntmps42
  go_upto_region 1 with (fail)
  generalize (w.alloc (.cells #[.int .i64 s.c.kind, .slice s.c.eA s.c.eN s.c.eC, .int .i64 s.c.time, .string s.c.host, .string s.c.parent, .slice s.c.iA s.c.iN s.c.iC, .string s.c.path, .slice s.c.uA s.c.uN s.c.uC, .int .i64 s.c.percent, .bool s.c.rd, .int .i64 s.r.code, .string s.r.id, .int .i64 s.r.n, .slice s.r.jA s.r.jN s.r.jC, .slice s.r.tA s.r.tN s.r.tC, .slice s.r.fA s.r.fN s.r.fC, .slice s.r.sA s.r.sN s.r.sC, .int .i64 s.b, .int .i64 s.e, .bool s.op] 51)) = W0 at HB0 HK0 ⊢
  obtain ⟨g, hg⟩ : ∃ g, g = w.heap.size := ⟨_, rfl⟩
  rw [← hg] at HK0 ⊢
  clear hg
  go_wp2_with (((with_reducible refine gate_dst (N := 5) rfl ?_); refine wpList_load_any (by rfl) 51 (.tmp 2) rfl ⟨g, 0, none⟩ rfl (encS s) _ (cells_blk HK0.out) Tryz.underlying51 rfl s51 ?_))
  refine (makes_calls s _).mono ?_
  rintro e1 w1 ⟨rfl, hB⟩
  have HB1 := Aside0.mk (below_step HB0.out hB)
  have HK1 := Aside0.mk (blk_below HK0.out hB)
  clear hB HB0 HK0
  have k11 : w1.cell? ⟨g, 11, none⟩ = some (.string s.r.id) := (blk_cell HK1.out 11).trans rfl
  cases h1 : makesP s with
  | false =>
    go_wp2_with (fail)
    go_ret
    exact ⟨by rw [madeP_makes, h1]; rfl, HB1.out⟩
  | true =>
    cases h2 : eqT s.r.id x with
    | false =>
      have q1 : (s.r.id.toList == x.toList) = false := h2
      go_wp2_with (fail)
      go_ret
      exact ⟨by rw [madeP_makes, h1, h2]; rfl, HB1.out⟩
    | true =>
      have q1 : (s.r.id.toList == x.toList) = true := h2
      go_wp2_with (fail)
      go_ret
      exact ⟨by rw [madeP_makes, h1, h2]; rfl, HB1.out⟩
theorem eqT_comm (a b : ByteArray) : eqT a b = eqT b a := by
  unfold eqT
  cases h : (b.toList == a.toList) with
  | true => rw [beq_iff_eq] at h ⊢; exact h.symm
  | false => rw [beq_eq_false_iff_ne] at h ⊢; exact fun e => h e.symm
set_option maxHeartbeats 8000000 in
set_option maxRecDepth 100000 in
theorem sindex_calls (x : ByteArray) (l : List ByteArray) (A : Option Addr) (c : Nat) (w : World) (hr : Kd.C Kd.string w A l.length l) (hl : l.length ≤ 10000) :
    Calls Tryz.prog 81 #[.slice A l.length c, .string x] w fun e w' => e = .returned (.int .i64 (idxP l (fun y => eqT y x))) ∧ w' = w := by
  have HC := Aside0.mk hr
  clear hr
  go_enter Tryz.func81, Tryz.ntmps81
  go_wp2_with (fail)
  go_loopw [8] (fun v8 wr => ∃ k : Nat, k ≤ l.length ∧ v8 = .int .i64 k ∧ Aside0 ((l.take k).any (fun y => eqT y x) = false) ∧ wr = w) (fun v8 _ => l.length - (intOf v8).toNat)
  case atStart => exact ⟨0, Nat.zero_le _, rfl, ⟨rfl⟩, rfl⟩
  case round =>
    obtain ⟨k, hk, rfl, HQ, rfl⟩ := hrel
    by_cases hlt : k < l.length
    · obtain ⟨m, hm⟩ : ∃ r, l[k]? = some r := ⟨_, List.getElem?_eq_getElem hlt⟩
      obtain ⟨ad, rfl, s0⟩ := Kd.at_string HC.out (k : Int) (by omega) (by omega)
      rw [rd9_at hm, Int.toNat_natCast] at s0
      have HM := Aside0.mk hm
      have HTK := Aside0.mk (any_take (fun y => eqT y x) l k m hm)
      have hml : k < maxLen := by unfold maxLen; omega
      clear hm
      cases hb : eqT x m with
      | true =>
        have q1 : (x.toList == m.toList) = true := hb
        have HN : Aside0 (idxP l (fun y => eqT y x) = k) := ⟨idxP_at HM.out (by rw [eqT_comm]; exact hb) HQ.out⟩
        clear hb
        go_wp2_with (fail)
        go_ret
        exact ⟨by rw [HN.out]; rfl, rfl⟩
      | false =>
        have q1 : (x.toList == m.toList) = false := hb
        have HN : Aside0 ((l.take (k + 1)).any (fun y => eqT y x) = false) := ⟨by rw [HTK.out, HQ.out, eqT_comm, hb]; rfl⟩
        clear hb
        go_wp2_with (fail)
        go_roundw
        case rel => exact ⟨k + 1, hlt, by go_simp, HN, trivial⟩
        case measure => simp [intOf]; omega
    · obtain rfl : k = l.length := by omega
      have HN : Aside0 (l.any (fun y => eqT y x) = false) := ⟨by have := HQ.out; rwa [List.take_length] at this⟩
      go_wp2_with (fail)
      go_ret
      exact ⟨by rw [idxP_none HN.out]; rfl, rfl⟩
set_option maxHeartbeats 8000000 in
set_option maxRecDepth 100000 in
theorem mem_calls (x : ByteArray) (l : List ByteArray) (A : Option Addr) (n c : Nat) (w : World) (hr : Kd.C Kd.string w A n l) (hn : l.length = n) (hl : n ≤ 10000) :
    Calls Tryz.prog 61 #[.slice A n c, .string x] w fun e w' => e = .returned (.bool (memT x l)) ∧ w' = w := by
  subst hn
  have HG : Aside0 (decide (0 ≤ idxP l (fun y => eqT y x)) = memT x l) := ⟨idxP_ge l _⟩
  have HC := Aside0.mk (sindex_calls x l A c w hr hl)
  clear hr
  go_enter Tryz.func61, Tryz.ntmps61
  go_wp2_with (fail)
  refine HC.out.mono ?_
  rintro e1 w1 ⟨rfl, rfl⟩
  clear HC
  generalize idxP l (fun y => eqT y x) = r at HG ⊢
  obtain ⟨b, hb⟩ : ∃ b, b = memT x l := ⟨_, rfl⟩
  have d1 : decide (0 ≤ r) = b := by rw [hb]; exact HG.out
  have HBQ := Aside0.mk hb
  clear HG hb
  go_wp2_with (fail)
  go_ret
  exact ⟨by rw [← HBQ.out]; rfl, rfl⟩
theorem rem_no_unsure {s : Sp} {x : ByteArray} (h1 : tookP s x = false) (h2 : unsureP s = false) : (tookP s x || mayTakeP s x) = false := by
  have : (s.op || s.r.code != 0) = false := h2
  unfold mayTakeP; rw [h1, this]; simp
theorem rem_six {s : Sp} {x : ByteArray} (h1 : tookP s x = false) (h2 : unsureP s = true) (h3 : s.c.kind = 6) : (tookP s x || mayTakeP s x) = true := by
  have : (s.op || s.r.code != 0) = true := h2
  unfold mayTakeP remP; rw [h1, this, h3]; rfl
theorem rem_seven {s : Sp} {x : ByteArray} (h1 : tookP s x = false) (h2 : unsureP s = true) (h3 : s.c.kind = 7) : (tookP s x || mayTakeP s x) = memT x s.c.ids := by
  have : (s.op || s.r.code != 0) = true := h2
  unfold mayTakeP remP; rw [h1, this, h3]; rfl
set_option maxHeartbeats 8000000 in
set_option maxRecDepth 100000 in
theorem removes_calls (s : Sp) (x : ByteArray) (w : World) (h : RdS w s) (hl1 : s.r.jN ≤ 10000) (hl2 : s.c.iN ≤ 10000) : Calls Tryz.prog 44 #[aggS s, .string x] w fun e w' => e = .returned (.tuple #[.bool (tookP s x), .bool (tookP s x || mayTakeP s x)]) ∧ Below w.heap.size w w' := by
  have HR := Aside0.mk h
  clear h
  have HB0 : Aside0 (Below w.heap.size w (w.alloc (.cells #[.int .i64 s.c.kind, .slice s.c.eA s.c.eN s.c.eC, .int .i64 s.c.time, .string s.c.host, .string s.c.parent, .slice s.c.iA s.c.iN s.c.iC, .string s.c.path, .slice s.c.uA s.c.uN s.c.uC, .int .i64 s.c.percent, .bool s.c.rd, .int .i64 s.r.code, .string s.r.id, .int .i64 s.r.n, .slice s.r.jA s.r.jN s.r.jC, .slice s.r.tA s.r.tN s.r.tC, .slice s.r.fA s.r.fN s.r.fC, .slice s.r.sA s.r.sN s.r.sC, .int .i64 s.b, .int .i64 s.e, .bool s.op] 51))) := ⟨below_alloc (Below.refl _ _) _⟩
  have HK0 : Aside0 ((w.alloc (.cells #[.int .i64 s.c.kind, .slice s.c.eA s.c.eN s.c.eC, .int .i64 s.c.time, .string s.c.host, .string s.c.parent, .slice s.c.iA s.c.iN s.c.iC, .string s.c.path, .slice s.c.uA s.c.uN s.c.uC, .int .i64 s.c.percent, .bool s.c.rd, .int .i64 s.r.code, .string s.r.id, .int .i64 s.r.n, .slice s.r.jA s.r.jN s.r.jC, .slice s.r.tA s.r.tN s.r.tC, .slice s.r.fA s.r.fN s.r.fC, .slice s.r.sA s.r.sN s.r.sC, .int .i64 s.b, .int .i64 s.e, .bool s.op] 51)).heap[w.heap.size]? = some (.cells (encS s).toArray 51 (0, 0))) := ⟨(MapKept.heap_alloc w _).1⟩
  go_enter Tryz.func44, Tryz.ntmps44
  go_upto_region 1 with (fail)
  generalize (w.alloc (.cells #[.int .i64 s.c.kind, .slice s.c.eA s.c.eN s.c.eC, .int .i64 s.c.time, .string s.c.host, .string s.c.parent, .slice s.c.iA s.c.iN s.c.iC, .string s.c.path, .slice s.c.uA s.c.uN s.c.uC, .int .i64 s.c.percent, .bool s.c.rd, .int .i64 s.r.code, .string s.r.id, .int .i64 s.r.n, .slice s.r.jA s.r.jN s.r.jC, .slice s.r.tA s.r.tN s.r.tC, .slice s.r.fA s.r.fN s.r.fC, .slice s.r.sA s.r.sN s.r.sC, .int .i64 s.b, .int .i64 s.e, .bool s.op] 51)) = W0 at HB0 HK0 ⊢
  obtain ⟨g, hg⟩ : ∃ g, g = w.heap.size := ⟨_, rfl⟩
  rw [← hg] at HK0 ⊢
  clear hg
  have k0 : W0.cell? ⟨g, 0, none⟩ = some (.int .i64 s.c.kind) := (blk_cell HK0.out 0).trans rfl
  have k13 : W0.cell? ⟨g, 13, none⟩ = some (.slice s.r.jA s.r.jN s.r.jC) := (blk_cell HK0.out 13).trans rfl
  have k19 : W0.cell? ⟨g, 19, none⟩ = some (.bool s.op) := (blk_cell HK0.out 19).trans rfl
  by_cases hk6 : s.c.kind = 6
  · have hkk := hk6
    have a6 : (s.c.kind == 6) = true := beq_iff_eq.2 hk6
    clear hk6
    cases h2 : s.op with
    | true =>
      rw [h2] at k19
      go_wp2_with (((with_reducible refine gate_dst (N := 24) rfl ?_); refine wpList_load_any (by rfl) 51 (.tmp 2) rfl ⟨g, 0, none⟩ rfl (encS s) _ (cells_blk HK0.out) Tryz.underlying51 rfl s51 ?_))
      refine (unsure_calls s _).mono ?_
      rintro e2 w2 ⟨rfl, hB⟩
      have HB2 := Aside0.mk (below_step HB0.out hB)
      have HK2 := Aside0.mk (blk_below HK0.out hB)
      clear hB
      have z0 : w2.cell? ⟨g, 0, none⟩ = some (.int .i64 s.c.kind) := (blk_cell HK2.out 0).trans rfl
      have z5 : w2.cell? ⟨g, 5, none⟩ = some (.slice s.c.iA s.c.iN s.c.iC) := (blk_cell HK2.out 5).trans rfl
      cases h4 : unsureP s with
      | false =>
        have HT : Aside0 (tookP s x = false) := ⟨by unfold tookP; rw [h2]; simp⟩
        have HM : Aside0 ((tookP s x || mayTakeP s x) = false) := ⟨rem_no_unsure HT.out h4⟩
        go_wp2_with (fail)
        go_ret2
        exact ⟨by rw [HM.out, HT.out]; rfl, HB2.out⟩
      | true =>
        have HT : Aside0 (tookP s x = false) := ⟨by unfold tookP; rw [h2]; simp⟩
        have HM : Aside0 ((tookP s x || mayTakeP s x) = true) := ⟨rem_six HT.out h4 hkk⟩
        go_wp2_with (fail)
        go_ret2
        exact ⟨by rw [HM.out, HT.out]; rfl, HB2.out⟩
    | false =>
      rw [h2] at k19
      go_wp2_with (fail)
      refine (mem_calls x s.r.rids s.r.jA s.r.jN s.r.jC _ (Kd.C_below HR.out.2.ids.2.2 HB0.out) HR.out.2.ids.2.1 hl1).mono ?_
      rintro e1 w1 ⟨rfl, rfl⟩
      cases h3 : memT x s.r.rids with
      | true =>
        have HT : Aside0 (tookP s x = true) := ⟨by unfold tookP remP; rw [h2, h3, hkk]; rfl⟩
        have HM : Aside0 ((tookP s x || mayTakeP s x) = true) := ⟨by rw [HT.out]; rfl⟩
        go_wp2_with (fail)
        go_ret2
        exact ⟨by rw [HM.out, HT.out]; rfl, HB0.out⟩
      | false =>
        go_wp2_with (((with_reducible refine gate_dst (N := 24) rfl ?_); refine wpList_load_any (by rfl) 51 (.tmp 2) rfl ⟨g, 0, none⟩ rfl (encS s) _ (cells_blk HK0.out) Tryz.underlying51 rfl s51 ?_))
        refine (unsure_calls s _).mono ?_
        rintro e2 w2 ⟨rfl, hB⟩
        have HB2 := Aside0.mk (below_step HB0.out hB)
        have HK2 := Aside0.mk (blk_below HK0.out hB)
        clear hB
        have z0 : w2.cell? ⟨g, 0, none⟩ = some (.int .i64 s.c.kind) := (blk_cell HK2.out 0).trans rfl
        have z5 : w2.cell? ⟨g, 5, none⟩ = some (.slice s.c.iA s.c.iN s.c.iC) := (blk_cell HK2.out 5).trans rfl
        cases h4 : unsureP s with
        | false =>
          have HT : Aside0 (tookP s x = false) := ⟨by unfold tookP; rw [h2, h3]; simp⟩
          have HM : Aside0 ((tookP s x || mayTakeP s x) = false) := ⟨rem_no_unsure HT.out h4⟩
          go_wp2_with (fail)
          go_ret2
          exact ⟨by rw [HM.out, HT.out]; rfl, HB2.out⟩
        | true =>
          have HT : Aside0 (tookP s x = false) := ⟨by unfold tookP; rw [h2, h3]; simp⟩
          have HM : Aside0 ((tookP s x || mayTakeP s x) = true) := ⟨rem_six HT.out h4 hkk⟩
          go_wp2_with (fail)
          go_ret2
          exact ⟨by rw [HM.out, HT.out]; rfl, HB2.out⟩
  · have a6 : (s.c.kind == 6) = false := beq_eq_false_iff_ne.2 hk6
    by_cases hk7 : s.c.kind = 7
    · have hkk := hk7
      have a7 : (s.c.kind == 7) = true := beq_iff_eq.2 hk7
      clear hk7 hk6
      cases h2 : s.op with
      | true =>
        rw [h2] at k19
        go_wp2_with (((with_reducible refine gate_dst (N := 24) rfl ?_); refine wpList_load_any (by rfl) 51 (.tmp 2) rfl ⟨g, 0, none⟩ rfl (encS s) _ (cells_blk HK0.out) Tryz.underlying51 rfl s51 ?_))
        refine (unsure_calls s _).mono ?_
        rintro e2 w2 ⟨rfl, hB⟩
        have HB2 := Aside0.mk (below_step HB0.out hB)
        have HK2 := Aside0.mk (blk_below HK0.out hB)
        clear hB
        have z0 : w2.cell? ⟨g, 0, none⟩ = some (.int .i64 s.c.kind) := (blk_cell HK2.out 0).trans rfl
        have z5 : w2.cell? ⟨g, 5, none⟩ = some (.slice s.c.iA s.c.iN s.c.iC) := (blk_cell HK2.out 5).trans rfl
        cases h4 : unsureP s with
        | false =>
          have HT : Aside0 (tookP s x = false) := ⟨by unfold tookP; rw [h2]; simp⟩
          have HM : Aside0 ((tookP s x || mayTakeP s x) = false) := ⟨rem_no_unsure HT.out h4⟩
          go_wp2_with (fail)
          go_ret2
          exact ⟨by rw [HM.out, HT.out]; rfl, HB2.out⟩
        | true =>
          have HT : Aside0 (tookP s x = false) := ⟨by unfold tookP; rw [h2]; simp⟩
          have HM : Aside0 ((tookP s x || mayTakeP s x) = memT x s.c.ids) := ⟨rem_seven HT.out h4 hkk⟩
          go_wp2_with (fail)
          refine (mem_calls x s.c.ids s.c.iA s.c.iN s.c.iC _ (Kd.C_below HR.out.1.ids.2.2 HB2.out) HR.out.1.ids.2.1 hl2).mono ?_
          rintro e3 w3 ⟨rfl, rfl⟩
          cases h5 : memT x s.c.ids with
          | false =>
            go_wp2_with (fail)
            go_ret2
            exact ⟨by rw [HM.out, HT.out, h5]; rfl, HB2.out⟩
          | true =>
            go_wp2_with (fail)
            go_ret2
            exact ⟨by rw [HM.out, HT.out, h5]; rfl, HB2.out⟩
      | false =>
        rw [h2] at k19
        go_wp2_with (fail)
        refine (mem_calls x s.r.rids s.r.jA s.r.jN s.r.jC _ (Kd.C_below HR.out.2.ids.2.2 HB0.out) HR.out.2.ids.2.1 hl1).mono ?_
        rintro e1 w1 ⟨rfl, rfl⟩
        cases h3 : memT x s.r.rids with
        | true =>
          have HT : Aside0 (tookP s x = true) := ⟨by unfold tookP remP; rw [h2, h3, hkk]; rfl⟩
          have HM : Aside0 ((tookP s x || mayTakeP s x) = true) := ⟨by rw [HT.out]; rfl⟩
          go_wp2_with (fail)
          go_ret2
          exact ⟨by rw [HM.out, HT.out]; rfl, HB0.out⟩
        | false =>
          go_wp2_with (((with_reducible refine gate_dst (N := 24) rfl ?_); refine wpList_load_any (by rfl) 51 (.tmp 2) rfl ⟨g, 0, none⟩ rfl (encS s) _ (cells_blk HK0.out) Tryz.underlying51 rfl s51 ?_))
          refine (unsure_calls s _).mono ?_
          rintro e2 w2 ⟨rfl, hB⟩
          have HB2 := Aside0.mk (below_step HB0.out hB)
          have HK2 := Aside0.mk (blk_below HK0.out hB)
          clear hB
          have z0 : w2.cell? ⟨g, 0, none⟩ = some (.int .i64 s.c.kind) := (blk_cell HK2.out 0).trans rfl
          have z5 : w2.cell? ⟨g, 5, none⟩ = some (.slice s.c.iA s.c.iN s.c.iC) := (blk_cell HK2.out 5).trans rfl
          cases h4 : unsureP s with
          | false =>
            have HT : Aside0 (tookP s x = false) := ⟨by unfold tookP; rw [h2, h3]; simp⟩
            have HM : Aside0 ((tookP s x || mayTakeP s x) = false) := ⟨rem_no_unsure HT.out h4⟩
            go_wp2_with (fail)
            go_ret2
            exact ⟨by rw [HM.out, HT.out]; rfl, HB2.out⟩
          | true =>
            have HT : Aside0 (tookP s x = false) := ⟨by unfold tookP; rw [h2, h3]; simp⟩
            have HM : Aside0 ((tookP s x || mayTakeP s x) = memT x s.c.ids) := ⟨rem_seven HT.out h4 hkk⟩
            go_wp2_with (fail)
            refine (mem_calls x s.c.ids s.c.iA s.c.iN s.c.iC _ (Kd.C_below HR.out.1.ids.2.2 HB2.out) HR.out.1.ids.2.1 hl2).mono ?_
            rintro e3 w3 ⟨rfl, rfl⟩
            cases h5 : memT x s.c.ids with
            | false =>
              go_wp2_with (fail)
              go_ret2
              exact ⟨by rw [HM.out, HT.out, h5]; rfl, HB2.out⟩
            | true =>
              go_wp2_with (fail)
              go_ret2
              exact ⟨by rw [HM.out, HT.out, h5]; rfl, HB2.out⟩
    · have a7 : (s.c.kind == 7) = false := beq_eq_false_iff_ne.2 hk7
      have HRM : Aside0 (remP s = false) := ⟨by unfold remP; rw [a6, a7]; rfl⟩
      have HT : Aside0 (tookP s x = false) := ⟨by unfold tookP; rw [HRM.out]; rfl⟩
      have HM : Aside0 ((tookP s x || mayTakeP s x) = false) := ⟨by rw [HT.out]; unfold mayTakeP; rw [HRM.out]; rfl⟩
      clear hk6 hk7
      go_wp2_with (fail)
      go_ret2
      exact ⟨by rw [HM.out, HT.out]; rfl, HB0.out⟩
set_option maxHeartbeats 8000000 in
set_option maxRecDepth 100000 in
theorem pid_calls (c : Cm) (w : World) (h : RdC w c) : Calls Tryz.prog 56 #[aggC c] w fun e w' => e = .returned (.string (idP c)) ∧ Below w.heap.size w w' := by
  have HB : Aside0 (Below w.heap.size w (w.alloc (.cells #[.int .i64 c.kind, .slice c.eA c.eN c.eC, .int .i64 c.time, .string c.host, .string c.parent, .slice c.iA c.iN c.iC, .string c.path, .slice c.uA c.uN c.uC, .int .i64 c.percent, .bool c.rd] 28))) := ⟨below_alloc (Below.refl _ _) _⟩
  have HI := Aside0.mk h
  clear h
  have hl := HI.out.ids.2.1
  cases hq : c.ids with
  | nil =>
    have hn : c.iN = 0 := by rw [hq] at hl; exact hl.symm
    have e1 : (c.iN : Int) = 0 := by omega
    have e2 : ((c.iN : Int) == 0) = true := beq_iff_eq.2 e1
    clear hn e1 hl
    go_enter Tryz.func56, Tryz.ntmps56
    go_wp2_with (fail)
    go_ret
    exact ⟨by unfold idP; rw [hq]; rfl, HB.out⟩
  | cons x xs =>
    have hn : 0 < c.iN := by rw [hq] at hl; simp at hl; omega
    have e1 : ¬ (c.iN : Int) = 0 := by omega
    have e2 : ((c.iN : Int) == 0) = false := beq_eq_false_iff_ne.2 e1
    have e4 : (0 : Int) < (c.iN : Int) := by omega
    clear hl e1
    go_enter Tryz.func56, Tryz.ntmps56
    go_upto_region 1 with (fail)
    have HK0 : Aside0 ((w.alloc (.cells #[.int .i64 c.kind, .slice c.eA c.eN c.eC, .int .i64 c.time, .string c.host, .string c.parent, .slice c.iA c.iN c.iC, .string c.path, .slice c.uA c.uN c.uC, .int .i64 c.percent, .bool c.rd] 28)).heap[w.heap.size]? = some (.cells (encC c).toArray 28 (0, 0))) := ⟨(MapKept.heap_alloc w _).1⟩
    generalize (w.alloc (.cells #[.int .i64 c.kind, .slice c.eA c.eN c.eC, .int .i64 c.time, .string c.host, .string c.parent, .slice c.iA c.iN c.iC, .string c.path, .slice c.uA c.uN c.uC, .int .i64 c.percent, .bool c.rd] 28)) = W0 at HB HK0 ⊢
    obtain ⟨ad, hA, hx⟩ := Kd.at_string HI.out.ids.2.2 (0 : Int) (by omega) (by omega)
    have hr : rdOf ByteArray.empty c.ids 0 = x := by rw [hq]; rfl
    rw [hr] at hx
    have hz : ad.add (0 : Int).toNat = ad := by unfold Addr.add; simp
    rw [hz] at hx
    have hx2 := pw_cell_below HB.out hx
    have k5 : W0.cell? ⟨w.heap.size, 5, none⟩ = some (.slice (some ad) c.iN c.iC) := (blk_cell HK0.out 5).trans (by rw [← hA]; rfl)
    go_wp2_with (fail)
    go_ret
    exact ⟨by unfold idP; rw [hq]; rfl, HB.out⟩
end Go.Proofs.YtkicenkljjpcfaaGreatDoor.Q
/- The program's sure, and its closures; the closure of seen. -/
set_option linter.unusedSimpArgs false
namespace Go.Proofs.YtkicenkljjpcfaaGreatDoor.Q
open Go.RowKit Go.Shelf Go.Proofs.YtkicenkljjpcfaaGreatDoorW.PrintWords Go.Proofs.YtkicenkljjpcfaaGreatDoorW.PrintLast Go.Proofs.YtkicenkljjpcfaaGreatDoorW.PrintMore
theorem nkq_eq (m : Sp) (x : ByteArray) (e : Int) (r : Sp) : (!(kq m x e r)) = ((tookP r x || mayTakeP r x) && (!(!r.op && decide (r.e < m.b)) && !decide (e < r.b))) := by
  unfold kq; cases (tookP r x || mayTakeP r x) <;> cases r.op <;> cases decide (r.e < m.b) <;> cases decide (e < r.b) <;> rfl
set_option maxHeartbeats 8000000 in
set_option maxRecDepth 100000 in
theorem q43_calls (m s : Sp) (x : ByteArray) (e : Int) (gi gm ge : Nat) (w : World) (hi : w.cell? ⟨gi, 0, none⟩ = some (.string x)) (hm : w.cell? ⟨gm, 17, none⟩ = some (.int .i64 m.b)) (he : w.cell? ⟨ge, 0, none⟩ = some (.int .i64 e)) (h : RdS w s) (hl : LenS s) :
    Calls Tryz.prog 43 #[aggS s, .pointer (some ⟨gi, 0, none⟩), .pointer (some ⟨gm, 0, none⟩), .pointer (some ⟨ge, 0, none⟩)] w fun e' w' => e' = .returned (.bool (!(kq m x e s))) ∧ Below w.heap.size w w' := by
  have HR := Aside0.mk h
  have HI := Aside0.mk hi
  have HM := Aside0.mk hm
  have HE := Aside0.mk he
  clear h hi hm he
  have HB0 : Aside0 (Below w.heap.size w (w.alloc (.cells #[.int .i64 s.c.kind, .slice s.c.eA s.c.eN s.c.eC, .int .i64 s.c.time, .string s.c.host, .string s.c.parent, .slice s.c.iA s.c.iN s.c.iC, .string s.c.path, .slice s.c.uA s.c.uN s.c.uC, .int .i64 s.c.percent, .bool s.c.rd, .int .i64 s.r.code, .string s.r.id, .int .i64 s.r.n, .slice s.r.jA s.r.jN s.r.jC, .slice s.r.tA s.r.tN s.r.tC, .slice s.r.fA s.r.fN s.r.fC, .slice s.r.sA s.r.sN s.r.sC, .int .i64 s.b, .int .i64 s.e, .bool s.op] 51))) := ⟨below_alloc (Below.refl _ _) _⟩
  have HK0 : Aside0 ((w.alloc (.cells #[.int .i64 s.c.kind, .slice s.c.eA s.c.eN s.c.eC, .int .i64 s.c.time, .string s.c.host, .string s.c.parent, .slice s.c.iA s.c.iN s.c.iC, .string s.c.path, .slice s.c.uA s.c.uN s.c.uC, .int .i64 s.c.percent, .bool s.c.rd, .int .i64 s.r.code, .string s.r.id, .int .i64 s.r.n, .slice s.r.jA s.r.jN s.r.jC, .slice s.r.tA s.r.tN s.r.tC, .slice s.r.fA s.r.fN s.r.fC, .slice s.r.sA s.r.sN s.r.sC, .int .i64 s.b, .int .i64 s.e, .bool s.op] 51)).heap[w.heap.size]? = some (.cells (encS s).toArray 51 (0, 0))) := ⟨(MapKept.heap_alloc w _).1⟩
  go_enter Tryz.func43, Tryz.ntmps43
  go_upto_region 1 with (fail)
  generalize (w.alloc (.cells #[.int .i64 s.c.kind, .slice s.c.eA s.c.eN s.c.eC, .int .i64 s.c.time, .string s.c.host, .string s.c.parent, .slice s.c.iA s.c.iN s.c.iC, .string s.c.path, .slice s.c.uA s.c.uN s.c.uC, .int .i64 s.c.percent, .bool s.c.rd, .int .i64 s.r.code, .string s.r.id, .int .i64 s.r.n, .slice s.r.jA s.r.jN s.r.jC, .slice s.r.tA s.r.tN s.r.tC, .slice s.r.fA s.r.fN s.r.fC, .slice s.r.sA s.r.sN s.r.sC, .int .i64 s.b, .int .i64 s.e, .bool s.op] 51)) = W0 at HB0 HK0 ⊢
  obtain ⟨g, hg⟩ : ∃ g, g = w.heap.size := ⟨_, rfl⟩
  rw [← hg] at HK0 ⊢
  clear hg
  have i0 := pw_cell_below HB0.out HI.out
  go_wp2_with (((with_reducible refine gate_dst (N := 10) rfl ?_); refine wpList_load_any (by rfl) 51 (.tmp 4) rfl ⟨g, 0, none⟩ rfl (encS s) _ (cells_blk HK0.out) Tryz.underlying51 rfl s51 ?_))
  refine (removes_calls s x _ (HR.out.below HB0.out) hl.1 hl.2.1).mono ?_
  rintro e2 w2 ⟨rfl, hB⟩
  have HB2 := Aside0.mk (below_step HB0.out hB)
  have HK2 := Aside0.mk (blk_below HK0.out hB)
  clear hB i0 HB0 HK0
  have k17 : w2.cell? ⟨g, 17, none⟩ = some (.int .i64 s.b) := (blk_cell HK2.out 17).trans rfl
  have k18 : w2.cell? ⟨g, 18, none⟩ = some (.int .i64 s.e) := (blk_cell HK2.out 18).trans rfl
  have k19 : w2.cell? ⟨g, 19, none⟩ = some (.bool s.op) := (blk_cell HK2.out 19).trans rfl
  have m17 := pw_cell_below HB2.out HM.out
  have e0 := pw_cell_below HB2.out HE.out
  clear HK2
  cases h1 : (tookP s x || mayTakeP s x) with
  | false =>
    cases h2 : s.op with
    | true =>
      rw [h2] at k19
      go_wp2_with (fail)
      go_ret
      exact ⟨by rw [nkq_eq, h1]; rfl, HB2.out⟩
    | false =>
      rw [h2] at k19
      by_cases h3 : s.e < m.b
      · have d3 : decide (s.e < m.b) = true := decide_eq_true h3
        go_wp2_with (fail)
        go_ret
        exact ⟨by rw [nkq_eq, h1]; rfl, HB2.out⟩
      · have d3 : decide (s.e < m.b) = false := decide_eq_false h3
        go_wp2_with (fail)
        go_ret
        exact ⟨by rw [nkq_eq, h1]; rfl, HB2.out⟩
  | true =>
    cases h2 : s.op with
    | true =>
      rw [h2] at k19
      by_cases h5 : s.b ≤ e
      · have d5 : decide (s.b ≤ e) = true := decide_eq_true h5
        have d6 : decide (e < s.b) = false := decide_eq_false (by omega)
        go_wp2_with (fail)
        go_ret
        exact ⟨by rw [nkq_eq, h1, h2, d6]; rfl, HB2.out⟩
      · have d5 : decide (s.b ≤ e) = false := decide_eq_false h5
        have d6 : decide (e < s.b) = true := decide_eq_true (by omega)
        go_wp2_with (fail)
        go_ret
        exact ⟨by rw [nkq_eq, h1, h2, d6]; rfl, HB2.out⟩
    | false =>
      rw [h2] at k19
      by_cases h3 : s.e < m.b
      · have d3 : decide (s.e < m.b) = true := decide_eq_true h3
        go_wp2_with (fail)
        go_ret
        exact ⟨by rw [nkq_eq, h1, h2, d3]; rfl, HB2.out⟩
      · have d3 : decide (s.e < m.b) = false := decide_eq_false h3
        by_cases h5 : s.b ≤ e
        · have d5 : decide (s.b ≤ e) = true := decide_eq_true h5
          have d6 : decide (e < s.b) = false := decide_eq_false (by omega)
          go_wp2_with (fail)
          go_ret
          exact ⟨by rw [nkq_eq, h1, h2, d3, d6]; rfl, HB2.out⟩
        · have d5 : decide (s.b ≤ e) = false := decide_eq_false h5
          have d6 : decide (e < s.b) = true := decide_eq_true (by omega)
          go_wp2_with (fail)
          go_ret
          exact ⟨by rw [nkq_eq, h1, h2, d3, d6]; rfl, HB2.out⟩
def rq79 (m : Sp) (x : ByteArray) (b : Int) (r : Sp) : Bool := tookP r x && (decide (m.e < r.b) && decide (r.e < b))
theorem rq79_eq (m : Sp) (x : ByteArray) (b : Int) (r : Sp) : rq79 m x b r = (tookP r x && (decide (m.e < r.b) && decide (r.e < b))) := rfl
set_option maxHeartbeats 8000000 in
set_option maxRecDepth 100000 in
theorem q79_calls (m s : Sp) (x : ByteArray) (b : Int) (gi gm gb : Nat) (w : World) (hi : w.cell? ⟨gi, 0, none⟩ = some (.string x)) (hm : w.cell? ⟨gm, 18, none⟩ = some (.int .i64 m.e)) (he : w.cell? ⟨gb, 0, none⟩ = some (.int .i64 b)) (h : RdS w s) (hl : LenS s) :
    Calls Tryz.prog 79 #[aggS s, .pointer (some ⟨gi, 0, none⟩), .pointer (some ⟨gm, 0, none⟩), .pointer (some ⟨gb, 0, none⟩)] w fun e' w' => e' = .returned (.bool (rq79 m x b s)) ∧ Below w.heap.size w w' := by
  have HR := Aside0.mk h
  have HI := Aside0.mk hi
  have HM := Aside0.mk hm
  have HE := Aside0.mk he
  clear h hi hm he
  have HB0 : Aside0 (Below w.heap.size w (w.alloc (.cells #[.int .i64 s.c.kind, .slice s.c.eA s.c.eN s.c.eC, .int .i64 s.c.time, .string s.c.host, .string s.c.parent, .slice s.c.iA s.c.iN s.c.iC, .string s.c.path, .slice s.c.uA s.c.uN s.c.uC, .int .i64 s.c.percent, .bool s.c.rd, .int .i64 s.r.code, .string s.r.id, .int .i64 s.r.n, .slice s.r.jA s.r.jN s.r.jC, .slice s.r.tA s.r.tN s.r.tC, .slice s.r.fA s.r.fN s.r.fC, .slice s.r.sA s.r.sN s.r.sC, .int .i64 s.b, .int .i64 s.e, .bool s.op] 51))) := ⟨below_alloc (Below.refl _ _) _⟩
  have HK0 : Aside0 ((w.alloc (.cells #[.int .i64 s.c.kind, .slice s.c.eA s.c.eN s.c.eC, .int .i64 s.c.time, .string s.c.host, .string s.c.parent, .slice s.c.iA s.c.iN s.c.iC, .string s.c.path, .slice s.c.uA s.c.uN s.c.uC, .int .i64 s.c.percent, .bool s.c.rd, .int .i64 s.r.code, .string s.r.id, .int .i64 s.r.n, .slice s.r.jA s.r.jN s.r.jC, .slice s.r.tA s.r.tN s.r.tC, .slice s.r.fA s.r.fN s.r.fC, .slice s.r.sA s.r.sN s.r.sC, .int .i64 s.b, .int .i64 s.e, .bool s.op] 51)).heap[w.heap.size]? = some (.cells (encS s).toArray 51 (0, 0))) := ⟨(MapKept.heap_alloc w _).1⟩
  go_enter Tryz.func79, Tryz.ntmps79
  go_upto_region 1 with (fail)
  generalize (w.alloc (.cells #[.int .i64 s.c.kind, .slice s.c.eA s.c.eN s.c.eC, .int .i64 s.c.time, .string s.c.host, .string s.c.parent, .slice s.c.iA s.c.iN s.c.iC, .string s.c.path, .slice s.c.uA s.c.uN s.c.uC, .int .i64 s.c.percent, .bool s.c.rd, .int .i64 s.r.code, .string s.r.id, .int .i64 s.r.n, .slice s.r.jA s.r.jN s.r.jC, .slice s.r.tA s.r.tN s.r.tC, .slice s.r.fA s.r.fN s.r.fC, .slice s.r.sA s.r.sN s.r.sC, .int .i64 s.b, .int .i64 s.e, .bool s.op] 51)) = W0 at HB0 HK0 ⊢
  obtain ⟨g, hg⟩ : ∃ g, g = w.heap.size := ⟨_, rfl⟩
  rw [← hg] at HK0 ⊢
  clear hg
  have i0 := pw_cell_below HB0.out HI.out
  go_wp2_with (((with_reducible refine gate_dst (N := 9) rfl ?_); refine wpList_load_any (by rfl) 51 (.tmp 4) rfl ⟨g, 0, none⟩ rfl (encS s) _ (cells_blk HK0.out) Tryz.underlying51 rfl s51 ?_))
  refine (removes_calls s x _ (HR.out.below HB0.out) hl.1 hl.2.1).mono ?_
  rintro e2 w2 ⟨rfl, hB⟩
  have HB2 := Aside0.mk (below_step HB0.out hB)
  have HK2 := Aside0.mk (blk_below HK0.out hB)
  clear hB i0 HB0 HK0
  have k17 : w2.cell? ⟨g, 17, none⟩ = some (.int .i64 s.b) := (blk_cell HK2.out 17).trans rfl
  have k18 : w2.cell? ⟨g, 18, none⟩ = some (.int .i64 s.e) := (blk_cell HK2.out 18).trans rfl
  have k19 : w2.cell? ⟨g, 19, none⟩ = some (.bool s.op) := (blk_cell HK2.out 19).trans rfl
  have m18 := pw_cell_below HB2.out HM.out
  have e0 := pw_cell_below HB2.out HE.out
  clear HK2
  generalize (tookP s x || mayTakeP s x) = t2
  cases h1 : tookP s x with
  | false =>
    go_wp2_with (fail)
    go_ret
    exact ⟨by rw [rq79_eq, h1]; rfl, HB2.out⟩
  | true =>
    by_cases h3 : m.e < s.b
    · have d3 : decide (m.e < s.b) = true := decide_eq_true h3
      by_cases h4 : s.e < b
      · have d4 : decide (s.e < b) = true := decide_eq_true h4
        go_wp2_with (fail)
        go_ret
        exact ⟨by rw [rq79_eq, h1, d3, d4]; rfl, HB2.out⟩
      · have d4 : decide (s.e < b) = false := decide_eq_false h4
        go_wp2_with (fail)
        go_ret
        exact ⟨by rw [rq79_eq, h1, d3, d4]; rfl, HB2.out⟩
    · have d3 : decide (m.e < s.b) = false := decide_eq_false h3
      go_wp2_with (fail)
      go_ret
      exact ⟨by rw [rq79_eq, h1, d3]; rfl, HB2.out⟩
theorem all_any {α : Type} (q : α → Bool) (l : List α) : (!(l.any fun r => !(q r))) = l.all q := by
  induction l with
  | nil => rfl
  | cons a l ih => rw [List.any_cons, List.all_cons, ← ih]; cases q a <;> simp
theorem blk_old {w : World} {o p : Obj} {k : Nat} (h : w.heap[k]? = some p) : (w.alloc o).heap[k]? = some p := by
  have hk : k < w.heap.size := (Array.getElem?_eq_some_iff.1 h).1
  exact ((below_alloc (Below.refl w.heap.size w) o).block k hk).trans h
theorem blk_new {w : World} {o : Obj} {k : Nat} (h : k = w.heap.size) : (w.alloc o).heap[k]? = some o := h ▸ (MapKept.heap_alloc w o).1
theorem cell_one {w : World} {g t : Nat} {v : Value} (h : w.heap[g]? = some (.cells #[v] t (0, 0))) : w.cell? ⟨g, 0, none⟩ = some v := (blk_cell h 0).trans rfl
/-- What a closure captured of a history. -/
def HistAt (w : World) (g : Nat) (A : Option Addr) (c : Nat) (l : List Sp) (n : Int) : Prop := w.heap[g]? = some (.cells #[.slice A l.length c, .int .i64 n] 47 (0, 0))
set_option maxHeartbeats 8000000 in
set_option maxRecDepth 100000 in
theorem q41_calls (A : Option Addr) (c : Nat) (n : Int) (l : List Sp) (s : Sp) (x : ByteArray) (b e : Int) (gi gb gh ge : Nat) (w : World) (hC : CS w A l) (hl : l.length ≤ 10000) (hs : ∀ s ∈ l, LenS s)
    (hi : w.cell? ⟨gi, 0, none⟩ = some (.string x)) (hb : w.cell? ⟨gb, 0, none⟩ = some (.int .i64 b)) (hh : HistAt w gh A c l n) (he : w.cell? ⟨ge, 0, none⟩ = some (.int .i64 e)) :
    Calls Tryz.prog 41 #[aggS s, .pointer (some ⟨gi, 0, none⟩), .pointer (some ⟨gb, 0, none⟩), .pointer (some ⟨gh, 0, none⟩), .pointer (some ⟨ge, 0, none⟩)] w fun e' w' => e' = .returned (.bool (keepsP l s x b e)) ∧ Below w.heap.size w w' := by
  have HC := Aside0.mk hC
  have HL := Aside0.mk hs
  have HI := Aside0.mk hi
  have HBG := Aside0.mk hb
  have HH := Aside0.mk hh
  have HE := Aside0.mk he
  clear hC hs hi hb hh he
  have HB0 : Aside0 (Below w.heap.size w (w.alloc (.cells #[.int .i64 s.c.kind, .slice s.c.eA s.c.eN s.c.eC, .int .i64 s.c.time, .string s.c.host, .string s.c.parent, .slice s.c.iA s.c.iN s.c.iC, .string s.c.path, .slice s.c.uA s.c.uN s.c.uC, .int .i64 s.c.percent, .bool s.c.rd, .int .i64 s.r.code, .string s.r.id, .int .i64 s.r.n, .slice s.r.jA s.r.jN s.r.jC, .slice s.r.tA s.r.tN s.r.tC, .slice s.r.fA s.r.fN s.r.fC, .slice s.r.sA s.r.sN s.r.sC, .int .i64 s.b, .int .i64 s.e, .bool s.op] 51))) := ⟨below_alloc (Below.refl _ _) _⟩
  have HK0 : Aside0 ((w.alloc (.cells #[.int .i64 s.c.kind, .slice s.c.eA s.c.eN s.c.eC, .int .i64 s.c.time, .string s.c.host, .string s.c.parent, .slice s.c.iA s.c.iN s.c.iC, .string s.c.path, .slice s.c.uA s.c.uN s.c.uC, .int .i64 s.c.percent, .bool s.c.rd, .int .i64 s.r.code, .string s.r.id, .int .i64 s.r.n, .slice s.r.jA s.r.jN s.r.jC, .slice s.r.tA s.r.tN s.r.tC, .slice s.r.fA s.r.fN s.r.fC, .slice s.r.sA s.r.sN s.r.sC, .int .i64 s.b, .int .i64 s.e, .bool s.op] 51)).heap[w.heap.size]? = some (.cells (encS s).toArray 51 (0, 0))) := ⟨(MapKept.heap_alloc w _).1⟩
  go_enter Tryz.func41, Tryz.ntmps41
  go_upto_region 1 with (fail)
  generalize (w.alloc (.cells #[.int .i64 s.c.kind, .slice s.c.eA s.c.eN s.c.eC, .int .i64 s.c.time, .string s.c.host, .string s.c.parent, .slice s.c.iA s.c.iN s.c.iC, .string s.c.path, .slice s.c.uA s.c.uN s.c.uC, .int .i64 s.c.percent, .bool s.c.rd, .int .i64 s.r.code, .string s.r.id, .int .i64 s.r.n, .slice s.r.jA s.r.jN s.r.jC, .slice s.r.tA s.r.tN s.r.tC, .slice s.r.fA s.r.fN s.r.fC, .slice s.r.sA s.r.sN s.r.sC, .int .i64 s.b, .int .i64 s.e, .bool s.op] 51)) = W0 at HB0 HK0 ⊢
  obtain ⟨g, hg⟩ : ∃ g, g = w.heap.size := ⟨_, rfl⟩
  rw [← hg] at HK0 ⊢
  clear hg
  have i0 := pw_cell_below HB0.out HI.out
  go_wp2_with (((with_reducible refine gate_dst (N := 7) rfl ?_); refine wpList_load_any (by rfl) 51 (.tmp 5) rfl ⟨g, 0, none⟩ rfl (encS s) _ (cells_blk HK0.out) Tryz.underlying51 rfl s51 ?_))
  refine (pmade_calls s x _).mono ?_
  rintro e2 w2 ⟨rfl, hB⟩
  have HB2 := Aside0.mk (below_step HB0.out hB)
  have HK2 := Aside0.mk (blk_below HK0.out hB)
  clear hB i0 HB0 HK0
  have k18 : w2.cell? ⟨g, 18, none⟩ = some (.int .i64 s.e) := (blk_cell HK2.out 18).trans rfl
  have b0 := pw_cell_below HB2.out HBG.out
  cases h1 : madeP s x with
  | false =>
    go_wp2_with (fail)
    go_ret
    exact ⟨by rw [keepsP_kq, h1]; rfl, HB2.out⟩
  | true =>
    by_cases h2 : s.e < b
    · have d2 : decide (b ≤ s.e) = false := decide_eq_false (by omega)
      have d3 : decide (s.e < b) = true := decide_eq_true h2
      have HH2 : Aside0 (w2.heap[gh]? = some (.cells #[.slice A l.length c, .int .i64 n] 47 (0, 0))) := ⟨blk_below HH.out HB2.out⟩
      have z0 : w2.cell? ⟨gh, 0, none⟩ = some (.slice A l.length c) := (blk_cell HH2.out 0).trans rfl
      have z1 : w2.cell? ⟨gh, 1, none⟩ = some (.int .i64 n) := (blk_cell HH2.out 1).trans rfl
      have hbs : decide (s.e ≥ b) = false := decide_eq_false (by omega)
      clear h2
      go_wp2_with (fail)
      refine (any_calls A c n l 43 #[.pointer (some ⟨gi, 0, none⟩), .pointer (some ⟨g, 0, none⟩), .pointer (some ⟨ge, 0, none⟩)] (fun r => !(kq s x e r)) _ (HC.out.below HB2.out) hl ⟨enters_of Tryz.func43 (by kernel_rfl) rfl, fun w3 hw r hr => q43_calls s r x e gi g ge w3 (pw_cell_below hw (pw_cell_below HB2.out HI.out)) (pw_cell_below hw ((blk_cell HK2.out 17).trans rfl)) (pw_cell_below hw (pw_cell_below HB2.out HE.out)) (((HC.out.below HB2.out).below hw).2 r hr) (HL.out r hr)⟩).mono ?_
      rintro e4 w4 ⟨rfl, hB⟩
      have HB4 := Aside0.mk (below_step HB2.out hB)
      clear hB HB2 HK2 z0 z1 HH2 k18 b0
      have HAA := Aside0.mk (all_any (kq s x e) l)
      generalize (l.any fun r => !(kq s x e r)) = t at HAA ⊢
      cases t with
      | true =>
        have HK : Aside0 (l.all (kq s x e) = false) := ⟨HAA.out.symm⟩
        go_wp2_with (fail)
        go_ret
        exact ⟨by rw [keepsP_kq, h1, d3, HK.out]; rfl, HB4.out⟩
      | false =>
        have HK : Aside0 (l.all (kq s x e) = true) := ⟨HAA.out.symm⟩
        go_wp2_with (fail)
        go_ret
        exact ⟨by rw [keepsP_kq, h1, d3, HK.out]; rfl, HB4.out⟩
    · have d2 : decide (b ≤ s.e) = true := decide_eq_true (by omega)
      have d3 : decide (s.e < b) = false := decide_eq_false h2
      have h2' : b ≤ s.e := by omega
      go_wp2_with (fail)
      go_ret
      exact ⟨by rw [keepsP_kq, h1, d3]; rfl, HB2.out⟩
set_option maxHeartbeats 8000000 in
set_option maxRecDepth 100000 in
theorem psure_calls (A : Option Addr) (c : Nat) (n : Int) (l : List Sp) (x : ByteArray) (b e : Int) (w : World) (h : CS w A l) (hl : l.length ≤ 10000) (hs : ∀ s ∈ l, LenS s) :
    Calls Tryz.prog 20 #[.agg #[.slice A l.length c, .int .i64 n], .string x, .int .i64 b, .int .i64 e] w fun e' w' => e' = .returned (.bool (sureP l x b e)) ∧ Below w.heap.size w w' := by
  have HC := Aside0.mk h
  have HL := Aside0.mk hs
  have HB0 : Aside0 (Below w.heap.size w ((((w.alloc (.cells #[.slice A l.length c, .int .i64 n] 47)).alloc (.cells #[.string x] 9)).alloc (.cells #[.int .i64 b] 3)).alloc (.cells #[.int .i64 e] 3))) := ⟨below_alloc (below_alloc (below_alloc (below_alloc (Below.refl _ _) _) _) _) _⟩
  have HK0 : Aside0 (HistAt ((((w.alloc (.cells #[.slice A l.length c, .int .i64 n] 47)).alloc (.cells #[.string x] 9)).alloc (.cells #[.int .i64 b] 3)).alloc (.cells #[.int .i64 e] 3)) w.heap.size A c l n) := ⟨blk_old (blk_old (blk_old (blk_new rfl)))⟩
  have HI : Aside0 (((((w.alloc (.cells #[.slice A l.length c, .int .i64 n] 47)).alloc (.cells #[.string x] 9)).alloc (.cells #[.int .i64 b] 3)).alloc (.cells #[.int .i64 e] 3)).heap[w.heap.size + 1]? = some (.cells #[.string x] 9 (0, 0))) := ⟨blk_old (blk_old (blk_new (by simp)))⟩
  have HBG : Aside0 (((((w.alloc (.cells #[.slice A l.length c, .int .i64 n] 47)).alloc (.cells #[.string x] 9)).alloc (.cells #[.int .i64 b] 3)).alloc (.cells #[.int .i64 e] 3)).heap[w.heap.size + 1 + 1]? = some (.cells #[.int .i64 b] 3 (0, 0))) := ⟨blk_old (blk_new (by simp))⟩
  have HE : Aside0 (((((w.alloc (.cells #[.slice A l.length c, .int .i64 n] 47)).alloc (.cells #[.string x] 9)).alloc (.cells #[.int .i64 b] 3)).alloc (.cells #[.int .i64 e] 3)).heap[w.heap.size + 1 + 1 + 1]? = some (.cells #[.int .i64 e] 3 (0, 0))) := ⟨blk_new (by simp)⟩
  clear h hs
  go_enter Tryz.func20, Tryz.ntmps20
  go_upto_region 1 with (fail)
  generalize ((((w.alloc (.cells #[.slice A l.length c, .int .i64 n] 47)).alloc (.cells #[.string x] 9)).alloc (.cells #[.int .i64 b] 3)).alloc (.cells #[.int .i64 e] 3)) = W0 at HB0 HK0 HI HBG HE ⊢
  generalize w.heap.size + 1 + 1 + 1 = ge at HE ⊢
  generalize w.heap.size + 1 + 1 = gb at HBG ⊢
  generalize w.heap.size + 1 = gi at HI ⊢
  obtain ⟨g, hg⟩ : ∃ g, g = w.heap.size := ⟨_, rfl⟩
  rw [← hg] at HK0 ⊢
  clear hg
  have z0 : W0.cell? ⟨g, 0, none⟩ = some (.slice A l.length c) := (blk_cell HK0.out 0).trans rfl
  have z1 : W0.cell? ⟨g, 1, none⟩ = some (.int .i64 n) := (blk_cell HK0.out 1).trans rfl
  go_wp2_with (fail)
  refine (any_calls A c n l 41 #[.pointer (some ⟨gi, 0, none⟩), .pointer (some ⟨gb, 0, none⟩), .pointer (some ⟨g, 0, none⟩), .pointer (some ⟨ge, 0, none⟩)] (fun r => keepsP l r x b e) _ (HC.out.below HB0.out) hl ⟨enters_of Tryz.func41 (by kernel_rfl) rfl, fun w3 hw r _ => q41_calls A c n l r x b e gi gb g ge w3 ((HC.out.below HB0.out).below hw) hl HL.out (pw_cell_below hw (cell_one HI.out)) (pw_cell_below hw (cell_one HBG.out)) (blk_below HK0.out hw) (pw_cell_below hw (cell_one HE.out))⟩).mono ?_
  rintro e4 w4 ⟨rfl, hB⟩
  have HB4 := Aside0.mk (below_step HB0.out hB)
  clear hB HB0 HK0 z0 z1 HI HBG HE
  go_wp2_with (fail)
  go_ret
  exact ⟨rfl, HB4.out⟩
end Go.Proofs.YtkicenkljjpcfaaGreatDoor.Q
/- The program's seen. -/
set_option linter.unusedSimpArgs false
namespace Go.Proofs.YtkicenkljjpcfaaGreatDoor.Q
open Go.RowKit Go.Shelf Go.Proofs.YtkicenkljjpcfaaGreatDoorW.PrintWords Go.Proofs.YtkicenkljjpcfaaGreatDoorW.PrintLast Go.Proofs.YtkicenkljjpcfaaGreatDoorW.PrintMore
theorem seen_kind {m : Sp} {x : ByteArray} (h : (m.c.kind == 2) = false) : (madeP m x || mayP m) = false := by unfold madeP mayP; rw [h]; rfl
theorem seen_unsure {m : Sp} {x : ByteArray} (h : (m.c.kind == 2) = true) (h2 : unsureP m = true) : (madeP m x || mayP m) = true := by
  have : (m.op || m.r.code != 0) = true := h2
  unfold mayP; rw [h, this]; simp
theorem seen_made {m : Sp} {x : ByteArray} (h : (m.c.kind == 2) = true) (h2 : unsureP m = false) : (madeP m x || mayP m) = madeP m x := by
  have : (m.op || m.r.code != 0) = false := h2
  unfold mayP; rw [h, this]; simp
theorem unsure_m (m : Sp) (w : World) {b : Bool} (h : unsureP m = b) : Calls Tryz.prog 71 #[aggS m] w fun e w' => e = .returned (.bool b) ∧ Below w.heap.size w w' := h ▸ unsure_calls m w
set_option maxHeartbeats 8000000 in
set_option maxRecDepth 100000 in
theorem pseen_calls (A : Option Addr) (c : Nat) (n : Int) (l : List Sp) (m : Sp) (x : ByteArray) (b e : Int) (w : World) (h : CS w A l) (hl : l.length ≤ 10000) (hs : ∀ s ∈ l, LenS s) :
    Calls Tryz.prog 55 #[.agg #[.slice A l.length c, .int .i64 n], aggS m, .string x, .int .i64 b, .int .i64 e] w fun e' w' => e' = .returned (.bool (seenP l m x b e)) ∧ Below w.heap.size w w' := by
  have HC := Aside0.mk h
  have HL := Aside0.mk hs
  have HB0 : Aside0 (Below w.heap.size w ((((w.alloc (.cells #[.slice A l.length c, .int .i64 n] 47)).alloc (.cells #[.int .i64 m.c.kind, .slice m.c.eA m.c.eN m.c.eC, .int .i64 m.c.time, .string m.c.host, .string m.c.parent, .slice m.c.iA m.c.iN m.c.iC, .string m.c.path, .slice m.c.uA m.c.uN m.c.uC, .int .i64 m.c.percent, .bool m.c.rd, .int .i64 m.r.code, .string m.r.id, .int .i64 m.r.n, .slice m.r.jA m.r.jN m.r.jC, .slice m.r.tA m.r.tN m.r.tC, .slice m.r.fA m.r.fN m.r.fC, .slice m.r.sA m.r.sN m.r.sC, .int .i64 m.b, .int .i64 m.e, .bool m.op] 51)).alloc (.cells #[.string x] 9)).alloc (.cells #[.int .i64 b] 3))) := ⟨below_alloc (below_alloc (below_alloc (below_alloc (Below.refl _ _) _) _) _) _⟩
  have K0H : Aside0 (HistAt ((((w.alloc (.cells #[.slice A l.length c, .int .i64 n] 47)).alloc (.cells #[.int .i64 m.c.kind, .slice m.c.eA m.c.eN m.c.eC, .int .i64 m.c.time, .string m.c.host, .string m.c.parent, .slice m.c.iA m.c.iN m.c.iC, .string m.c.path, .slice m.c.uA m.c.uN m.c.uC, .int .i64 m.c.percent, .bool m.c.rd, .int .i64 m.r.code, .string m.r.id, .int .i64 m.r.n, .slice m.r.jA m.r.jN m.r.jC, .slice m.r.tA m.r.tN m.r.tC, .slice m.r.fA m.r.fN m.r.fC, .slice m.r.sA m.r.sN m.r.sC, .int .i64 m.b, .int .i64 m.e, .bool m.op] 51)).alloc (.cells #[.string x] 9)).alloc (.cells #[.int .i64 b] 3)) w.heap.size A c l n) := ⟨blk_old (blk_old (blk_old (blk_new rfl)))⟩
  have K0M : Aside0 (((((w.alloc (.cells #[.slice A l.length c, .int .i64 n] 47)).alloc (.cells #[.int .i64 m.c.kind, .slice m.c.eA m.c.eN m.c.eC, .int .i64 m.c.time, .string m.c.host, .string m.c.parent, .slice m.c.iA m.c.iN m.c.iC, .string m.c.path, .slice m.c.uA m.c.uN m.c.uC, .int .i64 m.c.percent, .bool m.c.rd, .int .i64 m.r.code, .string m.r.id, .int .i64 m.r.n, .slice m.r.jA m.r.jN m.r.jC, .slice m.r.tA m.r.tN m.r.tC, .slice m.r.fA m.r.fN m.r.fC, .slice m.r.sA m.r.sN m.r.sC, .int .i64 m.b, .int .i64 m.e, .bool m.op] 51)).alloc (.cells #[.string x] 9)).alloc (.cells #[.int .i64 b] 3)).heap[w.heap.size + 1]? = some (.cells (encS m).toArray 51 (0, 0))) := ⟨blk_old (blk_old (blk_new (by simp)))⟩
  have K0I : Aside0 (((((w.alloc (.cells #[.slice A l.length c, .int .i64 n] 47)).alloc (.cells #[.int .i64 m.c.kind, .slice m.c.eA m.c.eN m.c.eC, .int .i64 m.c.time, .string m.c.host, .string m.c.parent, .slice m.c.iA m.c.iN m.c.iC, .string m.c.path, .slice m.c.uA m.c.uN m.c.uC, .int .i64 m.c.percent, .bool m.c.rd, .int .i64 m.r.code, .string m.r.id, .int .i64 m.r.n, .slice m.r.jA m.r.jN m.r.jC, .slice m.r.tA m.r.tN m.r.tC, .slice m.r.fA m.r.fN m.r.fC, .slice m.r.sA m.r.sN m.r.sC, .int .i64 m.b, .int .i64 m.e, .bool m.op] 51)).alloc (.cells #[.string x] 9)).alloc (.cells #[.int .i64 b] 3)).heap[w.heap.size + 1 + 1]? = some (.cells #[.string x] 9 (0, 0))) := ⟨blk_old (blk_new (by simp))⟩
  have K0B : Aside0 (((((w.alloc (.cells #[.slice A l.length c, .int .i64 n] 47)).alloc (.cells #[.int .i64 m.c.kind, .slice m.c.eA m.c.eN m.c.eC, .int .i64 m.c.time, .string m.c.host, .string m.c.parent, .slice m.c.iA m.c.iN m.c.iC, .string m.c.path, .slice m.c.uA m.c.uN m.c.uC, .int .i64 m.c.percent, .bool m.c.rd, .int .i64 m.r.code, .string m.r.id, .int .i64 m.r.n, .slice m.r.jA m.r.jN m.r.jC, .slice m.r.tA m.r.tN m.r.tC, .slice m.r.fA m.r.fN m.r.fC, .slice m.r.sA m.r.sN m.r.sC, .int .i64 m.b, .int .i64 m.e, .bool m.op] 51)).alloc (.cells #[.string x] 9)).alloc (.cells #[.int .i64 b] 3)).heap[w.heap.size + 1 + 1 + 1]? = some (.cells #[.int .i64 b] 3 (0, 0))) := ⟨blk_new (by simp)⟩
  clear h hs
  go_enter Tryz.func55, Tryz.ntmps55
  go_upto_region 1 with (fail)
  generalize ((((w.alloc (.cells #[.slice A l.length c, .int .i64 n] 47)).alloc (.cells #[.int .i64 m.c.kind, .slice m.c.eA m.c.eN m.c.eC, .int .i64 m.c.time, .string m.c.host, .string m.c.parent, .slice m.c.iA m.c.iN m.c.iC, .string m.c.path, .slice m.c.uA m.c.uN m.c.uC, .int .i64 m.c.percent, .bool m.c.rd, .int .i64 m.r.code, .string m.r.id, .int .i64 m.r.n, .slice m.r.jA m.r.jN m.r.jC, .slice m.r.tA m.r.tN m.r.tC, .slice m.r.fA m.r.fN m.r.fC, .slice m.r.sA m.r.sN m.r.sC, .int .i64 m.b, .int .i64 m.e, .bool m.op] 51)).alloc (.cells #[.string x] 9)).alloc (.cells #[.int .i64 b] 3)) = W0 at HB0 K0H K0M K0I K0B ⊢
  generalize w.heap.size + 1 + 1 + 1 = gb at K0B ⊢
  generalize w.heap.size + 1 + 1 = gi at K0I ⊢
  generalize w.heap.size + 1 = gm at K0M ⊢
  obtain ⟨g, hg⟩ : ∃ g, g = w.heap.size := ⟨_, rfl⟩
  rw [← hg] at K0H ⊢
  clear hg
  have mk : W0.cell? ⟨gm, 0, none⟩ = some (.int .i64 m.c.kind) := (blk_cell K0M.out 0).trans rfl
  cases h1 : (m.c.kind == 2) with
  | false =>
    go_wp2_with (fail)
    go_ret
    exact ⟨by rw [seenP_sq, seen_kind h1]; rfl, HB0.out⟩
  | true =>
    go_wp2_with (((with_reducible refine gate_dst (N := 17) rfl ?_); refine wpList_load_any (by rfl) 51 (.tmp 6) rfl ⟨gm, 0, none⟩ rfl (encS m) _ (cells_blk K0M.out) Tryz.underlying51 rfl s51 ?_))
    cases h2 : unsureP m with
    | true =>
      refine (unsure_m m _ h2).mono ?_
      rintro e2 w2 ⟨rfl, hB⟩
      have HB2 := Aside0.mk (below_step HB0.out hB)
      have K2H := Aside0.mk (blk_below K0H.out hB)
      have K2M := Aside0.mk (blk_below K0M.out hB)
      have K2I := Aside0.mk (blk_below K0I.out hB)
      have K2B := Aside0.mk (blk_below K0B.out hB)
      clear hB
      clear mk K0H K0M K0I K0B
      have z0 : w2.cell? ⟨g, 0, none⟩ = some (.slice A l.length c) := (blk_cell K2H.out 0).trans rfl
      have z1 : w2.cell? ⟨g, 1, none⟩ = some (.int .i64 n) := (blk_cell K2H.out 1).trans rfl
      have m17 : w2.cell? ⟨gm, 17, none⟩ = some (.int .i64 m.b) := (blk_cell K2M.out 17).trans rfl
      have m18 : w2.cell? ⟨gm, 18, none⟩ = some (.int .i64 m.e) := (blk_cell K2M.out 18).trans rfl
      have m19 : w2.cell? ⟨gm, 19, none⟩ = some (.bool m.op) := (blk_cell K2M.out 19).trans rfl
      have i0 : w2.cell? ⟨gi, 0, none⟩ = some (.string x) := cell_one K2I.out
      by_cases h6 : m.b < e
      · have d6 : decide (m.b < e) = true := decide_eq_true h6
        have d7 : decide (e ≤ m.b) = false := decide_eq_false (by omega)
        cases h7 : m.op with
        | true =>
          rw [h7] at m19
          have HAL : Aside0 (l.all (sq m x b) = true) := ⟨by rw [List.all_eq_true]; intro r _; unfold sq; rw [h7]; rfl⟩
          go_wp2_with (fail)
          go_ret
          exact ⟨by rw [seenP_sq, seen_unsure h1 h2, d6, HAL.out]; rfl, HB2.out⟩
        | false =>
          rw [h7] at m19
          have HAL : Aside0 (l.all (sq m x b) = !(l.any (rq79 m x b))) := ⟨by rw [← all_any]; congr 1; congr 1; funext r; unfold sq rq79; rw [h7]; simp⟩
          go_wp2_with (fail)
          refine (any_calls A c n l 79 #[.pointer (some ⟨gi, 0, none⟩), .pointer (some ⟨gm, 0, none⟩), .pointer (some ⟨gb, 0, none⟩)] (rq79 m x b) _ (HC.out.below HB2.out) hl ⟨enters_of Tryz.func79 (by kernel_rfl) rfl, fun w3 hw r hr => q79_calls m r x b gi gm gb w3 (pw_cell_below hw (cell_one K2I.out)) (pw_cell_below hw ((blk_cell K2M.out 18).trans rfl)) (pw_cell_below hw (cell_one K2B.out)) (((HC.out.below HB2.out).below hw).2 r hr) (HL.out r hr)⟩).mono ?_
          rintro e4 w4 ⟨rfl, hB⟩
          have HB4 := Aside0.mk (below_step HB2.out hB)
          clear hB z0 z1 m17 m18 m19
          generalize l.any (rq79 m x b) = t at HAL ⊢
          cases t with
          | true =>
            go_wp2_with (fail)
            go_ret
            exact ⟨by rw [seenP_sq, seen_unsure h1 h2, d6, HAL.out]; rfl, HB4.out⟩
          | false =>
            go_wp2_with (fail)
            go_ret
            exact ⟨by rw [seenP_sq, seen_unsure h1 h2, d6, HAL.out]; rfl, HB4.out⟩
      · have d6 : decide (m.b < e) = false := decide_eq_false h6
        have d7 : decide (e ≤ m.b) = true := decide_eq_true (by omega)
        have h6' : e ≤ m.b := by omega
        go_wp2_with (fail)
        go_ret
        exact ⟨by rw [seenP_sq, seen_unsure h1 h2, d6]; rfl, HB2.out⟩
    | false =>
      refine (unsure_m m _ h2).mono ?_
      rintro e2 w2 ⟨rfl, hB⟩
      have HB2 := Aside0.mk (below_step HB0.out hB)
      have K2H := Aside0.mk (blk_below K0H.out hB)
      have K2M := Aside0.mk (blk_below K0M.out hB)
      have K2I := Aside0.mk (blk_below K0I.out hB)
      have K2B := Aside0.mk (blk_below K0B.out hB)
      clear hB
      clear mk K0H K0M K0I K0B
      have i0 : w2.cell? ⟨gi, 0, none⟩ = some (.string x) := cell_one K2I.out
      go_wp2_with (((with_reducible refine gate_dst (N := 20) rfl ?_); refine wpList_load_any (by rfl) 51 (.tmp 6) rfl ⟨gm, 0, none⟩ rfl (encS m) _ (cells_blk K2M.out) Tryz.underlying51 rfl s51 ?_))
      refine (pmade_calls m x _).mono ?_
      rintro e3 w3 ⟨rfl, hB⟩
      clear i0
      have HB3 := Aside0.mk (below_step HB2.out hB)
      have K3H := Aside0.mk (blk_below K2H.out hB)
      have K3M := Aside0.mk (blk_below K2M.out hB)
      have K3I := Aside0.mk (blk_below K2I.out hB)
      have K3B := Aside0.mk (blk_below K2B.out hB)
      clear hB
      clear K2H K2M K2I K2B HB2
      have z0 : w3.cell? ⟨g, 0, none⟩ = some (.slice A l.length c) := (blk_cell K3H.out 0).trans rfl
      have z1 : w3.cell? ⟨g, 1, none⟩ = some (.int .i64 n) := (blk_cell K3H.out 1).trans rfl
      have m17 : w3.cell? ⟨gm, 17, none⟩ = some (.int .i64 m.b) := (blk_cell K3M.out 17).trans rfl
      have m18 : w3.cell? ⟨gm, 18, none⟩ = some (.int .i64 m.e) := (blk_cell K3M.out 18).trans rfl
      have m19 : w3.cell? ⟨gm, 19, none⟩ = some (.bool m.op) := (blk_cell K3M.out 19).trans rfl
      have i0 : w3.cell? ⟨gi, 0, none⟩ = some (.string x) := cell_one K3I.out
      cases h3 : madeP m x with
      | false =>
        have HSM : Aside0 ((madeP m x || mayP m) = false) := ⟨(seen_made h1 h2).trans h3⟩
        go_wp2_with (fail)
        go_ret
        exact ⟨by rw [seenP_sq, HSM.out]; rfl, HB3.out⟩
      | true =>
        have HSM : Aside0 ((madeP m x || mayP m) = true) := ⟨(seen_made h1 h2).trans h3⟩
        by_cases h6 : m.b < e
        · have d6 : decide (m.b < e) = true := decide_eq_true h6
          have d7 : decide (e ≤ m.b) = false := decide_eq_false (by omega)
          cases h7 : m.op with
          | true =>
            rw [h7] at m19
            have HAL : Aside0 (l.all (sq m x b) = true) := ⟨by rw [List.all_eq_true]; intro r _; unfold sq; rw [h7]; rfl⟩
            go_wp2_with (fail)
            go_ret
            exact ⟨by rw [seenP_sq, HSM.out, d6, HAL.out]; rfl, HB3.out⟩
          | false =>
            rw [h7] at m19
            have HAL : Aside0 (l.all (sq m x b) = !(l.any (rq79 m x b))) := ⟨by rw [← all_any]; congr 1; congr 1; funext r; unfold sq rq79; rw [h7]; simp⟩
            go_wp2_with (fail)
            refine (any_calls A c n l 79 #[.pointer (some ⟨gi, 0, none⟩), .pointer (some ⟨gm, 0, none⟩), .pointer (some ⟨gb, 0, none⟩)] (rq79 m x b) _ (HC.out.below HB3.out) hl ⟨enters_of Tryz.func79 (by kernel_rfl) rfl, fun w3 hw r hr => q79_calls m r x b gi gm gb w3 (pw_cell_below hw (cell_one K3I.out)) (pw_cell_below hw ((blk_cell K3M.out 18).trans rfl)) (pw_cell_below hw (cell_one K3B.out)) (((HC.out.below HB3.out).below hw).2 r hr) (HL.out r hr)⟩).mono ?_
            rintro e4 w4 ⟨rfl, hB⟩
            have HB4 := Aside0.mk (below_step HB3.out hB)
            clear hB z0 z1 m17 m18 m19
            generalize l.any (rq79 m x b) = t at HAL ⊢
            cases t with
            | true =>
              go_wp2_with (fail)
              go_ret
              exact ⟨by rw [seenP_sq, HSM.out, d6, HAL.out]; rfl, HB4.out⟩
            | false =>
              go_wp2_with (fail)
              go_ret
              exact ⟨by rw [seenP_sq, HSM.out, d6, HAL.out]; rfl, HB4.out⟩
        · have d6 : decide (m.b < e) = false := decide_eq_false h6
          have d7 : decide (e ≤ m.b) = true := decide_eq_true (by omega)
          have h6' : e ≤ m.b := by omega
          go_wp2_with (fail)
          go_ret
          exact ⟨by rw [seenP_sq, HSM.out, d6]; rfl, HB3.out⟩
end Go.Proofs.YtkicenkljjpcfaaGreatDoor.Q
