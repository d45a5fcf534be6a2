/- ModelJudges, of inputs of bulk at most 1048576: the law returns true; the history reads behind as it read before. No package-level variable is read. -/
import Derived.Test.YtkicenkljjpcfaaGreatDoorMK
import Derived.Test.YtkicenkljjpcfaaGreatDoorBulk
import Derived.Test.YtkicenkljjpcfaaGreatDoorCards
import Derived.Test.YtkicenkljjpcfaaGreatDoorTie
import Derived.ProofKit
import Derived.LaidMore
import Derived.OpenShut
import Derived.Stop.Joined
import Derived.Deep.DeepHandedRow
import Derived.Deep.Slices
import Derived.SliceStrings
import Derived.SizedLaws
import Derived.Lib.LaidU8
import Derived.Lay
import Derived.LaidOnce
import Derived.SevenTiedAt
namespace Go.Proofs.YtkicenkljjpcfaaGreatDoor.modelJudges
open Go.ChangeShapes Go.WideShapes Go.ChangeAt Go.RowKit Go.Deep
open Go.Proofs.YtkicenkljjpcfaaGreatDoorW.PrintWords
theorem own : ownKnob Tryz.prog.godebug = none := by kernel_rfl
theorem laidOut : laidOutB Tryz.prog = true := by kernel_rfl
section
variable {H : Type} {enc : TypeId × Value → H} {w : World} {base : Nat} {spare : Nat → Bool} {held : Bool}
theorem some_of {α : Type} {xs : List α} {n i : Nat} (h : xs.length = n) (hi : i < n) : ∃ y, xs[i]? = some y := ⟨xs[i], List.getElem?_eq_getElem (by omega)⟩
theorem bulk_agg {xs : List (DataW H × List MemPlace)} {i : Nat} {y : DataW H × List MemPlace} (h : xs[i]? = some y) : Rows.uptoBulk y.1 ≤ Rows.uptoBulk (.agg (xs.map (·.1)) : DataW H) := by
  have := bulks.part_le (List.mem_map_of_mem (f := fun z : DataW H × List MemPlace => z.1) (List.mem_of_getElem? h))
  simp only [Rows.uptoBulk]
  omega
/-- A slice of long elements that came in. -/
theorem row_of {α : Type} {t e sz : Nat} (f : α → List Value) (Qe : α → DataW H → Prop) (ht : Tryz.prog.underlying t = some (.slice e)) (hc : Tryz.prog.cellsOf e = sz) (hf : ∀ x, (f x).length = sz) (z : α)
    (el : ∀ {n : Nat} {cs : List Value} {y : DataW H × List MemPlace}, DataW.trod enc Tryz.prog w base spare held n e cs = some y → ∃ x, cs = f x ∧ Qe x y.1)
    {n : Nat} {v : Value} {y : DataW H × List MemPlace} (h : DataW.trod enc Tryz.prog w base spare held n t [v] = some y) :
    ∃ (A : Option Addr) (m c : Nat) (l : List α), v = .slice A m c ∧ l.length = m ∧ m ≤ c ∧ m ≤ 9223372036854775807 ∧ (0 < m → ∃ ad, A = some ad ∧ ∀ j p, l[j]? = some p → ∀ i u, (f p)[i]? = some u → w.cell? (ad.add (j * sz + i)) = some u) ∧ ∀ p ∈ l, ∃ d, Qe p d ∧ Rows.uptoBulk d ≤ Rows.uptoBulk y.1 := by
  rcases open_slice ht h with ⟨h1, _⟩ | ⟨a, len, cap, m, k, D, P, hcs, _, hl, hm, hmm, hx, hcell⟩
  · simp only [List.cons.injEq, and_true] at h1
    exact ⟨none, 0, 0, [], h1, rfl, Nat.le_refl _, by omega, fun h => absurd h (Nat.lt_irrefl _), fun p hp => by cases hp⟩
  · simp only [List.cons.injEq, and_true] at hcs
    have hlm : len ≤ m := by rw [hmm]; split <;> omega
    have each : ∀ i, i < len → ∃ x : α, (∀ j u, (f x)[j]? = some u → w.cell? (a.add (i * sz + j)) = some u) ∧ Qe x (D i) := by
      intro i hi
      obtain ⟨cs, hcc, htr⟩ := hcell i (by omega)
      obtain ⟨x, rfl, hQ⟩ := el htr
      refine ⟨x, fun j u hu => ?_, hQ⟩
      rw [hc] at hcc
      obtain ⟨_, _, hat⟩ := World.cells?_some hcc
      have hj : j < sz := by have := (List.getElem?_eq_some_iff.1 hu).1; rwa [hf] at this
      rw [← Go.Deep.add_add, hat j hj, hu]
    obtain ⟨X, hX⟩ : ∃ X : Nat → α, ∀ i, i < len → (∀ j u, (f (X i))[j]? = some u → w.cell? (a.add (i * sz + j)) = some u) ∧ Qe (X i) (D i) := ⟨fun i => if hi : i < len then (each i hi).choose else z, fun i hi => by simp only [dif_pos hi]; exact (each i hi).choose_spec⟩
    refine ⟨some a, len, cap, (List.range len).map X, hcs, by rw [List.length_map, List.length_range], hl, by unfold maxLen at hm; omega, fun _ => ⟨a, rfl, fun j q hj => ?_⟩, fun p hp => ?_⟩
    · have hjn : j < len := by
        have := (List.getElem?_eq_some_iff.1 hj).1
        rwa [List.length_map, List.length_range] at this
      rw [List.getElem?_map, List.getElem?_range hjn] at hj
      simp only [Option.map_some, Option.some.injEq] at hj
      subst hj
      exact (hX j hjn).1
    · obtain ⟨i, hi, rfl⟩ := List.mem_map.1 hp
      have hil := List.mem_range.1 hi
      refine ⟨D i, (hX i hil).2, ?_⟩
      rw [hx]
      have h1 := bulks.part_le (show D i ∈ (List.range len).map D from List.mem_map_of_mem hi)
      have h2 := bulks.slice_elems ((List.range len).map D) ((List.range (m - len)).map fun j => D (len + j))
      exact Nat.le_trans h1 (Nat.le_trans (Nat.le_succ _) h2)
theorem shape_of {t e : Nat} (ht : Tryz.prog.underlying t = some (.slice e)) {n : Nat} {v : Value} {y : DataW H × List MemPlace} (h : DataW.trod enc Tryz.prog w base spare held n t [v] = some y) : ∃ (A : Option Addr) (m c : Nat), v = .slice A m c := by
  rcases open_slice ht h with ⟨h1, _⟩ | ⟨a, len, cap, m, k, D, P, hcs, _⟩
  · simp only [List.cons.injEq, and_true] at h1
    exact ⟨none, 0, 0, h1⟩
  · simp only [List.cons.injEq, and_true] at hcs
    exact ⟨_, _, _, hcs⟩
theorem st {k : Nat} {v : Value} {y : DataW H × List MemPlace} (h : DataW.trod enc Tryz.prog w base spare held k 9 [v] = some y) : ∃ s : ByteArray, v = .string s ∧ s.size ≤ Rows.uptoBulk y.1 := by
  obtain ⟨s, e, hx, _⟩ := DataW.trod_string Tryz.underlying9 h
  simp only [List.cons.injEq, and_true] at e
  refine ⟨s, e, ?_⟩
  rw [hx]
  show s.data.size ≤ Rows.uptoBulk (DataW.lit (H := H) (.string s.data.toList))
  rw [bulks.string_eq, Array.length_toList]
  exact Nat.le_succ _
theorem it {k t : Nat} (ht : Tryz.prog.underlying t = some (.int .i64)) {v : Value} {y : DataW H × List MemPlace} (h : DataW.trod enc Tryz.prog w base spare held k t [v] = some y) : ∃ z : Int, v = .int .i64 z ∧ -9223372036854775808 ≤ z ∧ z ≤ 9223372036854775807 := by
  obtain ⟨s, e, _, hw⟩ := DataW.trod_int ht h
  simp only [List.cons.injEq, and_true] at e
  refine ⟨s, e, ?_⟩
  simp only [Lit.wf, IntKind.min, IntKind.max, IntKind.signed, IntKind.bits, Bool.and_eq_true, decide_eq_true_eq, if_true] at hw
  omega
theorem bo {k : Nat} {v : Value} {y : DataW H × List MemPlace} (h : DataW.trod enc Tryz.prog w base spare held k 4 [v] = some y) : ∃ z : Bool, v = .bool z := by
  obtain ⟨s, e, _⟩ := DataW.trod_bool Tryz.underlying4 h
  simp only [List.cons.injEq, and_true] at e
  exact ⟨s, e⟩
/-- A list of texts that came in. -/
theorem ids_of {n : Nat} {v : Value} {y : DataW H × List MemPlace} (h : DataW.trod enc Tryz.prog w base spare held n 25 [v] = some y) :
    ∃ (A : Option Addr) (m c : Nat) (ids : List ByteArray), v = .slice A m c ∧ m ≤ c ∧ ids.length = m ∧ Kd.C Kd.string w A m ids := by
  obtain ⟨A, m, c, l, e, hl, hc, hm, hr, _⟩ := row_of (w := w) (enc := enc) (base := base) (spare := spare) (held := held) (fun s : ByteArray => [.string s]) (fun _ _ => True) Tryz.underlying25 (show Tryz.prog.cellsOf 9 = 1 by kernel_rfl) (fun _ => rfl) ByteArray.empty
    (fun {n cs y} hh => by obtain ⟨s, e, _⟩ := DataW.trod_string Tryz.underlying9 hh; exact ⟨s, e, trivial⟩) h
  refine ⟨A, m, c, l, e, hc, hl, hl, hm, fun h0 => ?_⟩
  obtain ⟨ad, ha, hx⟩ := hr h0
  exact ⟨ad, ha, fun j p hj => ⟨[.string p], rfl, rfl, hx j p hj⟩⟩
theorem len6 {α : Type} : ∀ (l : List α), l.length = 6 → ∃ a0 a1 a2 a3 a4 a5, l = [a0, a1, a2, a3, a4, a5]
  | [a0, a1, a2, a3, a4, a5], _ => ⟨a0, a1, a2, a3, a4, a5, rfl⟩
theorem len19 {α : Type} : ∀ (l : List α), l.length = 19 → ∃ a0 a1 a2 a3 a4 a5 a6 a7 a8 a9 b0 b1 b2 b3 b4 b5 b6 b7 b8, l = [a0, a1, a2, a3, a4, a5, a6, a7, a8, a9, b0, b1, b2, b3, b4, b5, b6, b7, b8]
  | [a0, a1, a2, a3, a4, a5, a6, a7, a8, a9, b0, b1, b2, b3, b4, b5, b6, b7, b8], _ => ⟨a0, a1, a2, a3, a4, a5, a6, a7, a8, a9, b0, b1, b2, b3, b4, b5, b6, b7, b8, rfl⟩
theorem c9 : Tryz.prog.cellsOf 9 = 1 := by kernel_rfl
theorem c3 : Tryz.prog.cellsOf 3 = 1 := by kernel_rfl
theorem c4 : Tryz.prog.cellsOf 4 = 1 := by kernel_rfl
theorem c29 : Tryz.prog.cellsOf 29 = 1 := by kernel_rfl
theorem c24 : Tryz.prog.cellsOf 24 = 1 := by kernel_rfl
theorem c25 : Tryz.prog.cellsOf 25 = 1 := by kernel_rfl
theorem c26 : Tryz.prog.cellsOf 26 = 1 := by kernel_rfl
theorem cSn : Tryz.prog.cellsOf 30 = 1 := by kernel_rfl
theorem c101 : Tryz.prog.cellsOf 101 = 6 := by kernel_rfl
theorem c28 : Tryz.prog.cellsOf 28 = 10 := by kernel_rfl
theorem c32 : Tryz.prog.cellsOf 32 = 7 := by kernel_rfl
theorem c34 : Tryz.prog.cellsOf 34 = 19 := by kernel_rfl
abbrev enc1 (x : Q.S101) : List Value := [.string x.f0, .int .i64 x.f1, .int .i64 x.f2, .int .i64 x.f3, .int .i64 x.f4, .string x.f5]
/-- An entry that came in. -/
theorem el_entry {n : Nat} {cs : List Value} {y : DataW H × List MemPlace} (h : DataW.trod enc Tryz.prog w base spare held n 101 cs = some y) : ∃ x : Q.S101, cs = enc1 x ∧ x.f0.size ≤ Rows.uptoBulk y.1 := by
  obtain ⟨xs, m, _, hx, hl, hxl, hf⟩ := DataW.trod_struct Tryz.underlying101 h
  rw [c101] at hl
  obtain ⟨v0, v1, v2, v3, v4, v5, rfl⟩ := len6 cs hl
  obtain ⟨y0, hy0⟩ := some_of (i := 0) hxl (by decide)
  have g0 : DataW.trod enc Tryz.prog w base spare held m 9 (([v0, v1, v2, v3, v4, v5].drop 0).take (Tryz.prog.cellsOf 9)) = some y0 := (hf 0 _ rfl).trans hy0
  obtain ⟨y1, hy1⟩ := some_of (i := 1) hxl (by decide)
  have g1 : DataW.trod enc Tryz.prog w base spare held m 3 (([v0, v1, v2, v3, v4, v5].drop 1).take (Tryz.prog.cellsOf 3)) = some y1 := (hf 1 _ rfl).trans hy1
  obtain ⟨y2, hy2⟩ := some_of (i := 2) hxl (by decide)
  have g2 : DataW.trod enc Tryz.prog w base spare held m 3 (([v0, v1, v2, v3, v4, v5].drop 2).take (Tryz.prog.cellsOf 3)) = some y2 := (hf 2 _ rfl).trans hy2
  obtain ⟨y3, hy3⟩ := some_of (i := 3) hxl (by decide)
  have g3 : DataW.trod enc Tryz.prog w base spare held m 3 (([v0, v1, v2, v3, v4, v5].drop 3).take (Tryz.prog.cellsOf 3)) = some y3 := (hf 3 _ rfl).trans hy3
  obtain ⟨y4, hy4⟩ := some_of (i := 4) hxl (by decide)
  have g4 : DataW.trod enc Tryz.prog w base spare held m 3 (([v0, v1, v2, v3, v4, v5].drop 4).take (Tryz.prog.cellsOf 3)) = some y4 := (hf 4 _ rfl).trans hy4
  obtain ⟨y5, hy5⟩ := some_of (i := 5) hxl (by decide)
  have g5 : DataW.trod enc Tryz.prog w base spare held m 9 (([v0, v1, v2, v3, v4, v5].drop 5).take (Tryz.prog.cellsOf 9)) = some y5 := (hf 5 _ rfl).trans hy5
  rw [c9] at g0 g5
  rw [c3] at g1 g2 g3 g4
  obtain ⟨s0, rfl, hs0⟩ := st g0
  obtain ⟨i1, rfl, _⟩ := it Tryz.underlying3 g1
  obtain ⟨i2, rfl, _⟩ := it Tryz.underlying3 g2
  obtain ⟨i3, rfl, _⟩ := it Tryz.underlying3 g3
  obtain ⟨i4, rfl, _⟩ := it Tryz.underlying3 g4
  obtain ⟨s5, rfl, _⟩ := st g5
  have hb := bulk_agg hy0
  rw [hx]
  exact ⟨⟨s0, i1, i2, i3, i4, s5⟩, rfl, Nat.le_trans hs0 hb⟩
theorem ents_of {n : Nat} {v : Value} {y : DataW H × List MemPlace} (h : DataW.trod enc Tryz.prog w base spare held n 24 [v] = some y) :
    ∃ (A : Option Addr) (m c : Nat) (es : List Q.S101), v = .slice A m c ∧ m ≤ c ∧ es.length = m ∧ Kd.C Q.k101 w A m es ∧ ∀ e ∈ es, e.f0.size ≤ Rows.uptoBulk y.1 := by
  obtain ⟨A, m, c, l, e, hl, hc, hm, hr, hq⟩ := row_of (w := w) (enc := enc) (base := base) (spare := spare) (held := held) enc1 (fun x d => x.f0.size ≤ Rows.uptoBulk d) Tryz.underlying24 c101 (fun _ => rfl) Q.z101 el_entry h
  refine ⟨A, m, c, l, e, hc, hl, ⟨hl, hm, fun h0 => ?_⟩, fun x hx => ?_⟩
  · obtain ⟨ad, ha, hx⟩ := hr h0
    exact ⟨ad, ha, fun j p hj => ⟨enc1 p, rfl, Q.k101_mk w p, hx j p hj⟩⟩
  · obtain ⟨d, h1, h2⟩ := hq x hx
    exact Nat.le_trans h1 h2
def EvOk (w : World) (x : Q.Ev) (b : Nat) : Prop := Q.RdE w x ∧ (-9223372036854775808 ≤ x.job ∧ x.job ≤ 9223372036854775807) ∧ (∀ e ∈ x.c.ents, e.f0.size ≤ b) ∧ x.r.id.size ≤ b
/-- An event that came in. -/
theorem el_event {n : Nat} {cs : List Value} {y : DataW H × List MemPlace} (h : DataW.trod enc Tryz.prog w base spare held n 34 cs = some y) : ∃ x : Q.Ev, cs = Q.encE x ∧ EvOk w x (Rows.uptoBulk y.1) := by
  obtain ⟨xs, m, _, hx, hl, hxl, hf⟩ := DataW.trod_struct Tryz.underlying34 h
  rw [c34] at hl
  obtain ⟨v0, v1, v2, v3, v4, v5, v6, v7, v8, v9, v10, v11, v12, v13, v14, v15, v16, v17, v18, rfl⟩ := len19 cs hl
  obtain ⟨y0, hy0⟩ := some_of (i := 0) hxl (by decide)
  have g0 : DataW.trod enc Tryz.prog w base spare held m 3 (([v0, v1, v2, v3, v4, v5, v6, v7, v8, v9, v10, v11, v12, v13, v14, v15, v16, v17, v18].drop 0).take (Tryz.prog.cellsOf 3)) = some y0 := (hf 0 _ rfl).trans hy0
  obtain ⟨y1, hy1⟩ := some_of (i := 1) hxl (by decide)
  have g1 : DataW.trod enc Tryz.prog w base spare held m 4 (([v0, v1, v2, v3, v4, v5, v6, v7, v8, v9, v10, v11, v12, v13, v14, v15, v16, v17, v18].drop 1).take (Tryz.prog.cellsOf 4)) = some y1 := (hf 1 _ rfl).trans hy1
  obtain ⟨y2, hy2⟩ := some_of (i := 2) hxl (by decide)
  have g2 : DataW.trod enc Tryz.prog w base spare held m 28 (([v0, v1, v2, v3, v4, v5, v6, v7, v8, v9, v10, v11, v12, v13, v14, v15, v16, v17, v18].drop 2).take (Tryz.prog.cellsOf 28)) = some y2 := (hf 2 _ rfl).trans hy2
  obtain ⟨y3, hy3⟩ := some_of (i := 3) hxl (by decide)
  have g3 : DataW.trod enc Tryz.prog w base spare held m 32 (([v0, v1, v2, v3, v4, v5, v6, v7, v8, v9, v10, v11, v12, v13, v14, v15, v16, v17, v18].drop 12).take (Tryz.prog.cellsOf 32)) = some y3 := (hf 3 _ rfl).trans hy3
  rw [c3] at g0
  rw [c4] at g1
  rw [c28] at g2
  rw [c32] at g3
  obtain ⟨job, rfl, hjob⟩ := it Tryz.underlying3 g0
  obtain ⟨beg, rfl⟩ := bo g1
  replace g2 : DataW.trod enc Tryz.prog w base spare held m 28 [v2, v3, v4, v5, v6, v7, v8, v9, v10, v11] = some y2 := g2
  replace g3 : DataW.trod enc Tryz.prog w base spare held m 32 [v12, v13, v14, v15, v16, v17, v18] = some y3 := g3
  obtain ⟨cx, cm, _, hcx, _, clen, cf⟩ := DataW.trod_struct Tryz.underlying28 g2
  obtain ⟨rx, rm, _, hrx, _, rlen, rf⟩ := DataW.trod_struct Tryz.underlying32 g3
  obtain ⟨cy0, chy0⟩ := some_of (i := 0) clen (by decide)
  have cg0 : DataW.trod enc Tryz.prog w base spare held cm 3 (([v2, v3, v4, v5, v6, v7, v8, v9, v10, v11].drop 0).take (Tryz.prog.cellsOf 3)) = some cy0 := (cf 0 _ rfl).trans chy0
  obtain ⟨cy1, chy1⟩ := some_of (i := 1) clen (by decide)
  have cg1 : DataW.trod enc Tryz.prog w base spare held cm 24 (([v2, v3, v4, v5, v6, v7, v8, v9, v10, v11].drop 1).take (Tryz.prog.cellsOf 24)) = some cy1 := (cf 1 _ rfl).trans chy1
  obtain ⟨cy2, chy2⟩ := some_of (i := 2) clen (by decide)
  have cg2 : DataW.trod enc Tryz.prog w base spare held cm 3 (([v2, v3, v4, v5, v6, v7, v8, v9, v10, v11].drop 2).take (Tryz.prog.cellsOf 3)) = some cy2 := (cf 2 _ rfl).trans chy2
  obtain ⟨cy3, chy3⟩ := some_of (i := 3) clen (by decide)
  have cg3 : DataW.trod enc Tryz.prog w base spare held cm 9 (([v2, v3, v4, v5, v6, v7, v8, v9, v10, v11].drop 3).take (Tryz.prog.cellsOf 9)) = some cy3 := (cf 3 _ rfl).trans chy3
  obtain ⟨cy4, chy4⟩ := some_of (i := 4) clen (by decide)
  have cg4 : DataW.trod enc Tryz.prog w base spare held cm 9 (([v2, v3, v4, v5, v6, v7, v8, v9, v10, v11].drop 4).take (Tryz.prog.cellsOf 9)) = some cy4 := (cf 4 _ rfl).trans chy4
  obtain ⟨cy5, chy5⟩ := some_of (i := 5) clen (by decide)
  have cg5 : DataW.trod enc Tryz.prog w base spare held cm 25 (([v2, v3, v4, v5, v6, v7, v8, v9, v10, v11].drop 5).take (Tryz.prog.cellsOf 25)) = some cy5 := (cf 5 _ rfl).trans chy5
  obtain ⟨cy6, chy6⟩ := some_of (i := 6) clen (by decide)
  have cg6 : DataW.trod enc Tryz.prog w base spare held cm 9 (([v2, v3, v4, v5, v6, v7, v8, v9, v10, v11].drop 6).take (Tryz.prog.cellsOf 9)) = some cy6 := (cf 6 _ rfl).trans chy6
  obtain ⟨cy7, chy7⟩ := some_of (i := 7) clen (by decide)
  have cg7 : DataW.trod enc Tryz.prog w base spare held cm 26 (([v2, v3, v4, v5, v6, v7, v8, v9, v10, v11].drop 7).take (Tryz.prog.cellsOf 26)) = some cy7 := (cf 7 _ rfl).trans chy7
  obtain ⟨cy8, chy8⟩ := some_of (i := 8) clen (by decide)
  have cg8 : DataW.trod enc Tryz.prog w base spare held cm 3 (([v2, v3, v4, v5, v6, v7, v8, v9, v10, v11].drop 8).take (Tryz.prog.cellsOf 3)) = some cy8 := (cf 8 _ rfl).trans chy8
  obtain ⟨cy9, chy9⟩ := some_of (i := 9) clen (by decide)
  have cg9 : DataW.trod enc Tryz.prog w base spare held cm 4 (([v2, v3, v4, v5, v6, v7, v8, v9, v10, v11].drop 9).take (Tryz.prog.cellsOf 4)) = some cy9 := (cf 9 _ rfl).trans chy9
  obtain ⟨ry0, rhy0⟩ := some_of (i := 0) rlen (by decide)
  have rg0 : DataW.trod enc Tryz.prog w base spare held rm 29 (([v12, v13, v14, v15, v16, v17, v18].drop 0).take (Tryz.prog.cellsOf 29)) = some ry0 := (rf 0 _ rfl).trans rhy0
  obtain ⟨ry1, rhy1⟩ := some_of (i := 1) rlen (by decide)
  have rg1 : DataW.trod enc Tryz.prog w base spare held rm 9 (([v12, v13, v14, v15, v16, v17, v18].drop 1).take (Tryz.prog.cellsOf 9)) = some ry1 := (rf 1 _ rfl).trans rhy1
  obtain ⟨ry2, rhy2⟩ := some_of (i := 2) rlen (by decide)
  have rg2 : DataW.trod enc Tryz.prog w base spare held rm 3 (([v12, v13, v14, v15, v16, v17, v18].drop 2).take (Tryz.prog.cellsOf 3)) = some ry2 := (rf 2 _ rfl).trans rhy2
  obtain ⟨ry3, rhy3⟩ := some_of (i := 3) rlen (by decide)
  have rg3 : DataW.trod enc Tryz.prog w base spare held rm 25 (([v12, v13, v14, v15, v16, v17, v18].drop 3).take (Tryz.prog.cellsOf 25)) = some ry3 := (rf 3 _ rfl).trans rhy3
  obtain ⟨ry4, rhy4⟩ := some_of (i := 4) rlen (by decide)
  have rg4 : DataW.trod enc Tryz.prog w base spare held rm 25 (([v12, v13, v14, v15, v16, v17, v18].drop 4).take (Tryz.prog.cellsOf 25)) = some ry4 := (rf 4 _ rfl).trans rhy4
  obtain ⟨ry5, rhy5⟩ := some_of (i := 5) rlen (by decide)
  have rg5 : DataW.trod enc Tryz.prog w base spare held rm 24 (([v12, v13, v14, v15, v16, v17, v18].drop 5).take (Tryz.prog.cellsOf 24)) = some ry5 := (rf 5 _ rfl).trans rhy5
  obtain ⟨ry6, rhy6⟩ := some_of (i := 6) rlen (by decide)
  have rg6 : DataW.trod enc Tryz.prog w base spare held rm 30 (([v12, v13, v14, v15, v16, v17, v18].drop 6).take (Tryz.prog.cellsOf 30)) = some ry6 := (rf 6 _ rfl).trans rhy6
  rw [c3] at cg0
  rw [c24] at cg1
  rw [c3] at cg2
  rw [c9] at cg3
  rw [c9] at cg4
  rw [c25] at cg5
  rw [c9] at cg6
  rw [c26] at cg7
  rw [c3] at cg8
  rw [c4] at cg9
  rw [c29] at rg0
  rw [c9] at rg1
  rw [c3] at rg2
  rw [c25] at rg3
  rw [c25] at rg4
  rw [c24] at rg5
  rw [cSn] at rg6
  obtain ⟨kind, rfl, _⟩ := it Tryz.underlying3 cg0
  obtain ⟨eA, eN, eC, ents, rfl, he1, he2, he3, he4⟩ := ents_of cg1
  obtain ⟨time, rfl, _⟩ := it Tryz.underlying3 cg2
  obtain ⟨host, rfl, _⟩ := st cg3
  obtain ⟨parent, rfl, _⟩ := st cg4
  obtain ⟨iA, iN, iC, ids, rfl, hi1, hi2, hi3⟩ := ids_of cg5
  obtain ⟨path, rfl, _⟩ := st cg6
  obtain ⟨uA, uN, uC, rfl⟩ := shape_of Tryz.underlying26 cg7
  obtain ⟨percent, rfl, _⟩ := it Tryz.underlying3 cg8
  obtain ⟨rd, rfl⟩ := bo cg9
  obtain ⟨code, rfl, _⟩ := it Tryz.underlying29 rg0
  obtain ⟨rid, rfl, hid⟩ := st rg1
  obtain ⟨rn, rfl, _⟩ := it Tryz.underlying3 rg2
  obtain ⟨jA, jN, jC, rids, rfl, hj1, hj2, hj3⟩ := ids_of rg3
  obtain ⟨tA, tN, tC, rfl⟩ := shape_of Tryz.underlying25 rg4
  obtain ⟨fA, fN, fC, rents, rfl, hf1, hf2, hf3, _⟩ := ents_of rg5
  obtain ⟨sA, sN, sC, rfl⟩ := shape_of Tryz.underlying30 rg6
  have b2 := bulk_agg hy2
  have b3 := bulk_agg hy3
  have bc : Rows.uptoBulk cy1.1 ≤ Rows.uptoBulk y2.1 := by rw [hcx]; exact bulk_agg chy1
  have br : Rows.uptoBulk ry1.1 ≤ Rows.uptoBulk y3.1 := by rw [hrx]; exact bulk_agg rhy1
  rw [hx]
  exact ⟨⟨job, beg, ⟨kind, eA, eN, eC, time, host, parent, iA, iN, iC, path, uA, uN, uC, percent, rd, ents, ids⟩, ⟨code, rid, rn, jA, jN, jC, tA, tN, tC, fA, fN, fC, sA, sN, sC, rids, rents⟩⟩, rfl,
    ⟨⟨⟨hi1, hi2, hi3⟩, ⟨he1, he2, he3⟩⟩, ⟨⟨hj1, hj2, hj3⟩, ⟨hf1, hf2, hf3⟩⟩⟩, hjob, fun e he => Nat.le_trans (he4 e he) (Nat.le_trans bc b2), Nat.le_trans hid (Nat.le_trans br b3)⟩
end
/-- A history that came in. -/
theorem open_events {H : Type} {enc : TypeId × Value → H} {w : World} {base : Nat} {spare : Nat → Bool} {held : Bool} {v : Value} {d : DataW H} {p : List MemPlace} (hb : v.cells.toList = [v]) (h : DataW.Trod enc Tryz.prog w base spare held 22 v d p) :
    ∃ (A : Option Addr) (c : Nat) (l : List Q.Ev), v = .slice A l.length c ∧ l.length ≤ c ∧ Kd.C Q.kE w A l.length l ∧ ∀ x ∈ l, EvOk w x (Rows.uptoBulk d) := by
  obtain ⟨fuel, hf⟩ := h
  rw [hb] at hf
  obtain ⟨A, m, c, l, e, hl, hc, hm, hr, hq⟩ := row_of (w := w) (enc := enc) (base := base) (spare := spare) (held := held) Q.encE (fun x d => EvOk w x (Rows.uptoBulk d)) Tryz.underlying22 c34 (fun _ => rfl) Q.E0 el_event hf
  subst hl
  refine ⟨A, c, l, e, hc, ⟨rfl, hm, fun h0 => ?_⟩, fun x hx => ?_⟩
  · obtain ⟨ad, ha, hx⟩ := hr h0
    exact ⟨ad, ha, fun j q hj => ⟨Q.encE q, rfl, rfl, hx j q hj⟩⟩
  · obtain ⟨dd, ⟨h1, h2, h3, h4⟩, h5⟩ := hq x hx
    exact ⟨h1, h2, fun e he => Nat.le_trans (h3 e he) h5, Nat.le_trans h4 h5⟩
set_option maxRecDepth 100000 in
theorem contract (H : Type) (enc : TypeId × Value → H) (W : World) (base : Nat) (args : Array Value) (ds gs : List (DataW H)) (before : List MemPlace)
    (hval0 : ∀ (j : Nat) t v, Tryz.f3.params[j]? = some t → args[j]? = some v → Value.okWide Tryz.prog W .any base t v)
    (hW : DataW.Whole enc Tryz.prog Tryz.f3.params.toList Rows.modelJudgesSpec.vars false W args.toList ds gs before) (hk : Rows.uptoSmall H (ds ++ gs) = true) :
    Calls Tryz.prog 3 args W fun e W' => ∃ v, e = .returned v ∧ Rows.modelJudgesSpec.post enc Tryz.prog Tryz.f3 false true false false W args v W' := by
  have hval : ∀ (j : Nat) t v, Tryz.f3.params[j]? = some t → args[j]? = some v → Value.okWide Tryz.prog W .any base t v := hval0
  have hW' := hW
  obtain ⟨p, q, hA0, hV, rfl, _, _⟩ := hW
  have hA : DataW.TrodAll enc Tryz.prog W 0 (fun _ => true) true Tryz.f3.params.toList args.toList ds p := hA0
  rw [Tryz.params3] at hA hval
  obtain ⟨v0, vs0, d0, ds0, p0, q0, hargs, rfl, rfl, h0, r0⟩ := trodAll_cons hA
  obtain ⟨rfl, rfl, rfl⟩ := trodAll_nil r0
  obtain rfl : args = #[v0] := by cases args; simp_all
  obtain ⟨rfl, rfl⟩ := trodVars_none hV
  clear hA0
  have hlt : ∀ x ∈ p0, x.block < W.heap.size := fun x hx => by simpa using hW'.lt x (by simpa using hx)
  have h0k := h0
  have hbulk : Rows.uptoBulk d0 ≤ 1048576 := by
    have h1 := bulks.bound hk
    have h2 : Rows.uptoBulk d0 ≤ Rows.uptoBulkAll ([d0] ++ []) := bulks.part_le (by simp)
    exact Nat.le_trans h2 h1
  obtain ⟨A0, n0, c0, rfl⟩ := okWide_slice Tryz.underlying22 (hval 0 22 v0 rfl rfl)
  obtain ⟨A, c, l, he, hc, hC, hE⟩ := open_events (by simp [Value.cells]) h0
  rw [he] at hW' h0k ⊢
  simp only [List.append_nil] at hW'
  refine (Q.law_calls A c l W hC hc (fun x hx => (hE x hx).1) (fun x hx => (hE x hx).2.1) (fun x hx => ⟨fun e he => Nat.le_trans ((hE x hx).2.2.1 e he) hbulk, Nat.le_trans (hE x hx).2.2.2 hbulk⟩)).mono fun e W' ⟨he, hb⟩ => ?_
  subst he
  exact ⟨_, rfl, _, _, _, [], _, [], hW', trodAll_mk1 (shut_bool Tryz.underlying4 _), trodAll_mk1 (Below.trod laidOut (by kernel_rfl) (of_decide_eq_true (by kernel_rfl)) h0k hb (fun x hx => hlt x (by simpa using hx))), rfl, hb.frame _, fun h => by cases h⟩
theorem reads (os : Os) {H : Type} (enc : TypeId × Value → H) : ∃ places, DataW.whole enc Tryz.prog ((World.laidAll Tryz.prog os Rows.modelJudgesUptoRow.laid).forCall (fun _ _ => 0) ⟨#[], #[.slice none 0 0], []⟩).memory Tryz.f3.params.toList Rows.modelJudgesSpec.vars false #[Value.slice none 0 0].toList 8 = some ([.nil], [], places) :=
  ⟨[], by kernel_rfl⟩
set_option maxRecDepth 100000 in
theorem liftedUpto (os : Os) (started : os.Started) (H : Type) (enc : TypeId × Value → H) (F : Stop.Interp) :
    ReturnsInHanded {} Tryz.checked os 3 .any ((Rows.OpenSpec.upto Rows.modelJudgesSpec).preRow enc Tryz.prog Tryz.f3 Rows.modelJudgesUptoRow.domain false Rows.modelJudgesUptoRow.laid) (((Rows.OpenSpec.upto Rows.modelJudgesSpec).at F).post enc Tryz.prog Tryz.f3 false true false false) := by
  obtain ⟨places, hx⟩ := reads os enc
  have hok : Input.okWideB Tryz.checked.prog ((World.laidAll Tryz.prog os Rows.modelJudgesUptoRow.laid).forCall (fun _ _ => 0) ⟨#[], #[.slice none 0 0], []⟩) 3 ⟨#[], #[.slice none 0 0], []⟩ = true := by kernel_rfl
  refine returnsInHanded_of_row (C := Tryz.checked) (s := Rows.OpenSpec.upto Rows.modelJudgesSpec) own started (by kernel_rfl) Tryz.func3
    ⟨World.laidAll Tryz.prog os Rows.modelJudgesUptoRow.laid, fun _ _ => 0, ⟨#[], #[.slice none 0 0], []⟩, World.laidAll_os _ _ _, World.shaped_of_ZipB (by kernel_rfl) (by kernel_rfl), (Input.okWide_of_okWideB (base := 0) hok).1, (Input.okWide_of_okWideB hok).2,
      OpenSpec.preRow_of_cond 8 hx (by kernel_rfl) (fun k hk => by cases hk; kernel_rfl) (by kernel_rfl) (by rw [MakeChecks.laidMetH_plain _ _ _ (by kernel_rfl)]; exact laidMet_laidAll _ (by kernel_rfl) (by kernel_rfl)), by
      simp only [Assume.holds]
      exact ⟨by simp, by simp, fun _ => Modest.zero, by simp, by simp⟩⟩ ?_
  intro W base args ds gs before hval hW _ hcond _ _ _ _
  exact contract H enc W base args ds gs before hval hW (hcond _ rfl)
theorem saidUpto : Rows.ModelJudgesUptoSaid :=
  OpenClaim.holds_of_cond 3 Tryz.f3 rfl rfl rfl rfl rfl rfl rfl ⟨rfl, rfl, rfl, rfl, rfl⟩ rfl rfl rfl rfl rfl (by kernel_rfl) Tryz.func3 (by kernel_rfl)
    (of_decide_eq_true (by kernel_rfl)) (by unfold Func.isWrapper; first | (rw [if_pos (by decide +kernel)]; kernel_rfl) | (rw [if_neg (by decide +kernel)]; exact ⟨rfl, rfl⟩))
    (fun os started H enc _ F => by rw [OpenClaim.pre_eq_preRow]; exact liftedUpto os started H enc F)
theorem plain (f : FuncId) (fn : Func) (hf : Tryz.pinned.checked.prog.funcNamed "garret/garretlaw33.ModelJudges" = some f) (hfn : Tryz.pinned.checked.prog.funcs[f]? = some fn) :
    false = Tryz.pinned.checked.prog.looks [] ∧ ∀ (j : Nat) t, fn.params[j]? = some t → Tryz.pinned.checked.prog.wantsStandIn t = false := by
  obtain rfl : f = 3 := Option.some.inj ((show Tryz.prog.funcNamed "garret/garretlaw33.ModelJudges" = some 3 by kernel_rfl).symm.trans hf) |>.symm
  obtain rfl : fn = Tryz.f3 := (Option.some.inj (Tryz.func3.symm.trans hfn)).symm
  refine ⟨by kernel_rfl, fun j t ht => ?_⟩
  rw [Tryz.params3] at ht
  obtain rfl : t = 22 := by simpa using Array.mem_of_getElem? ht
  exact (show Tryz.prog.wantsStandIn 22 = false by kernel_rfl)
theorem cardUpto : Rows.ModelJudgesUptoCardSaid :=
  Claim7.holds_tied_plain_at .later [] _ _ _ _ saidUpto (fun _ h => by cases h) (by kernel_rfl) (fun _ h => by cases h) modelJudgesUpto_row_tie rfl ⟨rfl, rfl⟩ (by kernel_rfl) rfl plain (by kernel_rfl)
#print axioms cardUpto
end Go.Proofs.YtkicenkljjpcfaaGreatDoor.modelJudges
namespace Go.Proofs.YtkicenkljjpcfaaGreatDoor
/-- The card, under a short name, for the claim. -/
theorem modelJudges_upto_card_holds : Rows.ModelJudgesUptoCardSaid := modelJudges.cardUpto
end Go.Proofs.YtkicenkljjpcfaaGreatDoor
