/- rising at any list: walked. -/
import Derived.Test.YtkbofkpkemfedaaDoorHTreesG
namespace Go.Proofs.YtkbofkpkemfedaaDoor.Q
open Go.RowKit Go.Proofs.YtkbofkpkemfedaaDoorW.PrintWords Go.Proofs.YtkbofkpkemfedaaDoorW.PrintLast Go.Proofs.YtkbofkpkemfedaaDoorW.PrintMore
attribute [local go_sem] max2_int min2_int max_two min_two max_three min_three max_four min_four
theorem alloc_drewR (w : World) (o : Obj) : (w.alloc o).drew = w.drew.alloc o := rfl
theorem encF_len (x : F) : (encF x).length = 10 := rfl
theorem encF_one (x : F) : ∀ u ∈ encF x, u.oneCell' = true := by
  intro u hu
  simp only [encF, List.mem_cons, List.not_mem_nil, or_false] at hu
  rcases hu with rfl | rfl | rfl | rfl | rfl | rfl | rfl | rfl | rfl | rfl <;> rfl
/-- What is found, as ten cells; the ids are not looked at. -/
def kF : Kd F where
  sz := 10
  E := []
  K := fun _ x cs => cs = encF x
  M := fun _ _ _ x cs => cs = encF x
  K_len := by rintro w x cs rfl; rfl
  K_one := by rintro w x cs rfl; exact encF_one x
  K_below := by rintro w w1 x cs _ rfl; rfl
  K_of_M := by rintro w base ok x cs rfl; rfl
  M_mono := by rintro w base ok ok' x cs _ rfl; rfl
  M_bound := by rintro w base ok x cs rfl; rfl
  M_move := by rintro w w1 base ok x cs _ rfl; rfl
  M_lower := by rintro w base base' ok x cs _ rfl; rfl
theorem info47 : (Tryd.prog.info? 47).map (fun i => (i.zero, i.size, i.bytes)) = some (some (.agg #[.string ⟨#[]⟩, .string ⟨#[]⟩, .int .i64 0, .int .i64 0, .int .i64 0, .int .i64 0, .int .i64 0, .slice none 0 0, .string ⟨#[]⟩, .string ⟨#[]⟩]), 10, 128) := by kernel_rfl
theorem info50 : (Tryd.prog.info? 50).map (fun i => (i.zero, i.size, i.bytes)) = some (some (.agg #[.string ⟨#[]⟩, .string ⟨#[]⟩, .int .i64 0, .int .i64 0, .int .i64 0, .int .i64 0, .int .i64 0, .slice none 0 0, .string ⟨#[]⟩, .string ⟨#[]⟩]), 10, 128) := by kernel_rfl
theorem two_apart {w : World} {b1 b2 : Nat} {ok1 ok2 : Nat → Prop} {v1 v2 : Value} {xs ys : List F} (h1 : Kd.R kF 47 w b1 ok1 v1 xs) (h2 : Kd.R kF 50 w b2 ok2 v2 ys) : ∀ k, v1.ownBlock = some k → some k ≠ v2.ownBlock := by
  intro k hk he
  obtain ⟨i1, ho1⟩ := Kd.R_own h1
  obtain ⟨i2, ho2⟩ := Kd.R_own h2
  obtain ⟨c1, hc1⟩ := own_typed ho1 k hk
  obtain ⟨c2, hc2⟩ := own_typed ho2 k he.symm
  rw [hc1] at hc2
  injection hc2 with hc2
  injection hc2 with _ hc2
  injection hc2 with hc2
  exact absurd hc2 (by decide)
theorem at_F {w : World} {A : Option Addr} {n : Nat} {xs : List F} (h : Kd.C kF w A n xs) (i : Int) (h0 : 0 ≤ i) (h1 : i < n) (x : F) (hx : xs[i.toNat]? = some x) : ∃ ad, A = some ad ∧ w.cell? (ad.add (i.toNat * 10)) = some (.string x.p) ∧ w.cell? ⟨(ad.add (i.toNat * 10)).block, (ad.add (i.toNat * 10)).off + 1, none⟩ = some (.string x.name) ∧ w.cell? ⟨(ad.add (i.toNat * 10)).block, (ad.add (i.toNat * 10)).off + 1 + 1, none⟩ = some (.int .i64 x.kind) ∧ w.cell? ⟨(ad.add (i.toNat * 10)).block, (ad.add (i.toNat * 10)).off + 1 + 2, none⟩ = some (.int .i64 x.mode) ∧ w.cell? ⟨(ad.add (i.toNat * 10)).block, (ad.add (i.toNat * 10)).off + 1 + 3, none⟩ = some (.int .i64 x.mtime) ∧ w.cell? ⟨(ad.add (i.toNat * 10)).block, (ad.add (i.toNat * 10)).off + 1 + 4, none⟩ = some (.int .i64 x.ctime) ∧ w.cell? ⟨(ad.add (i.toNat * 10)).block, (ad.add (i.toNat * 10)).off + 1 + 5, none⟩ = some (.int .i64 x.size) ∧ w.cell? ⟨(ad.add (i.toNat * 10)).block, (ad.add (i.toNat * 10)).off + 1 + 6, none⟩ = some (.slice x.A x.n x.c) ∧ w.cell? ⟨(ad.add (i.toNat * 10)).block, (ad.add (i.toNat * 10)).off + 1 + 7, none⟩ = some (.string x.sub) ∧ w.cell? ⟨(ad.add (i.toNat * 10)).block, (ad.add (i.toNat * 10)).off + 1 + 8, none⟩ = some (.string x.target) := by
  obtain ⟨ad, c, e, _, hK, hc0⟩ := Kd.C_get h x i h0 h1
  have hg : xs.getD i.toNat x = x := by rw [List.getD_eq_getElem?_getD, hx]; rfl
  rw [hg] at hK
  have hc : ∀ j u, c[j]? = some u → w.cell? (ad.add (i.toNat * 10 + j)) = some u := hc0
  have hK' : c = encF x := hK
  subst hK'
  exact ⟨ad, e, hc 0 _ rfl, by rw [← add_field _ _ 1 (by omega)]; exact hc 1 _ rfl, by rw [Nat.add_assoc, ← add_field _ _ 2 (by omega)]; exact hc 2 _ rfl, by rw [Nat.add_assoc, ← add_field _ _ 3 (by omega)]; exact hc 3 _ rfl, by rw [Nat.add_assoc, ← add_field _ _ 4 (by omega)]; exact hc 4 _ rfl, by rw [Nat.add_assoc, ← add_field _ _ 5 (by omega)]; exact hc 5 _ rfl, by rw [Nat.add_assoc, ← add_field _ _ 6 (by omega)]; exact hc 6 _ rfl, by rw [Nat.add_assoc, ← add_field _ _ 7 (by omega)]; exact hc 7 _ rfl, by rw [Nat.add_assoc, ← add_field _ _ 8 (by omega)]; exact hc 8 _ rfl, by rw [Nat.add_assoc, ← add_field _ _ 9 (by omega)]; exact hc 9 _ rfl⟩
/-- An own row's cells. -/
theorem own_F {e : Nat} {w : World} {base : Nat} {ok : Nat → Prop} {v : Value} {o : List F} (h : Kd.R kF e w base ok v o) : ∃ A c, v = .slice A o.length c ∧ o.length ≤ c ∧ RowF w A o ∧ (∀ g, v.ownBlock = some g → base ≤ g) := by
  obtain ⟨A, c, hv, hle, hC⟩ := Kd.R_reads h
  obtain ⟨inner, ho⟩ := Kd.R_own h
  refine ⟨A, c, hv, hle, ?_, fun g hg => own_base ho g hg⟩
  rcases o with _ | ⟨x0, o⟩
  · exact .inl rfl
  · right
    rcases ho.2 with ⟨h1, h2⟩ | ⟨g, cap, cur, hs, hg, hh, r⟩
    · simp at h2
    · rw [hs] at hv
      injection hv with hA _ _
      refine ⟨g, hA.symm, fun i x hi j u hu => ?_⟩
      have hil : i < (x0 :: o).length := (List.getElem?_eq_some_iff.1 hi).1
      obtain ⟨ad, cc, e, _, hK, hc0⟩ := Kd.C_get hC x (i : Int) (by omega) (by omega)
      have hgd : (x0 :: o).getD (i : Int).toNat x = x := by rw [List.getD_eq_getElem?_getD, Int.toNat_natCast, hi]; rfl
      rw [hgd] at hK
      have hK' : cc = encF x := hK
      subst hK'
      have h2 := hc0 j u hu
      rw [← hA] at e
      injection e with e
      subst e
      have h3 : (⟨g, 0, none⟩ : Addr).add ((i : Int).toNat * kF.sz + j) = ⟨g, i * 10 + j, none⟩ := by
        show (if (i : Int).toNat * 10 + j = 0 then _ else _) = _
        rw [Int.toNat_natCast]
        split
        · rename_i h; rw [h]
        · exact congrArg (fun z => (⟨g, z, none⟩ : Addr)) (Nat.zero_add (i * 10 + j))
      rw [h3] at h2
      exact h2
/-- In order, and within bounds. -/
def Good (l o : List F) : Prop := (∀ x ∈ o, x ∈ l ∧ x.p.size ≤ 300 ∧ x.n ≤ 50) ∧ (∀ (i : Nat) (x y : F), o[i]? = some x → o[i + 1]? = some y → lessP x.p y.p = true) ∧ o.length ≤ 30
theorem Good.nil (l : List F) : Good l [] := ⟨by simp, by simp, by simp⟩
theorem Good.one {l : List F} {x : F} (h1 : x ∈ l) (h2 : x.p.size ≤ 300) (h3 : x.n ≤ 50) : Good l [x] := ⟨by simpa using ⟨h1, h2, h3⟩, by intro i x y _ h; simp at h, by simp⟩
theorem Good.more {l o : List F} {x la : F} (h : Good l o) (hla : o[o.length - 1]? = some la) (h1 : x ∈ l) (h2 : x.p.size ≤ 300) (h3 : x.n ≤ 50) (hL : lessP la.p x.p = true) (h30 : o.length < 30) : Good l (o ++ [x]) := by
  refine ⟨fun y hy => ?_, fun i y z hy hz => ?_, by simp; omega⟩
  · rcases List.mem_append.1 hy with hy | hy
    · exact h.1 y hy
    · obtain rfl := List.mem_singleton.1 hy
      exact ⟨h1, h2, h3⟩
  · by_cases hi : i + 1 < o.length
    · rw [List.getElem?_append_left (by omega)] at hy
      rw [List.getElem?_append_left hi] at hz
      exact h.2.1 i y z hy hz
    · have hl : i + 1 < (o ++ [x]).length := (List.getElem?_eq_some_iff.1 hz).1
      rw [List.length_append, List.length_singleton] at hl
      have hio : i = o.length - 1 := by omega
      have hi1 : i + 1 = o.length := by omega
      rw [List.getElem?_append_left (by omega), hio, hla] at hy
      rw [hi1, List.getElem?_append_right (Nat.le_refl _), Nat.sub_self] at hz
      simp only [List.getElem?_cons_zero, Option.some.injEq] at hy hz
      subst hy hz
      exact hL
theorem r0_of {x : F} {wr : World} {ad : Addr} {i : Int} (h : wr.cell? (ad.add (i.toNat * 10)) = some (.string x.p) ∧ wr.cell? ⟨(ad.add (i.toNat * 10)).block, (ad.add (i.toNat * 10)).off + 1, none⟩ = some (.string x.name) ∧ wr.cell? ⟨(ad.add (i.toNat * 10)).block, (ad.add (i.toNat * 10)).off + 1 + 1, none⟩ = some (.int .i64 x.kind) ∧ wr.cell? ⟨(ad.add (i.toNat * 10)).block, (ad.add (i.toNat * 10)).off + 1 + 2, none⟩ = some (.int .i64 x.mode) ∧ wr.cell? ⟨(ad.add (i.toNat * 10)).block, (ad.add (i.toNat * 10)).off + 1 + 3, none⟩ = some (.int .i64 x.mtime) ∧ wr.cell? ⟨(ad.add (i.toNat * 10)).block, (ad.add (i.toNat * 10)).off + 1 + 4, none⟩ = some (.int .i64 x.ctime) ∧ wr.cell? ⟨(ad.add (i.toNat * 10)).block, (ad.add (i.toNat * 10)).off + 1 + 5, none⟩ = some (.int .i64 x.size) ∧ wr.cell? ⟨(ad.add (i.toNat * 10)).block, (ad.add (i.toNat * 10)).off + 1 + 6, none⟩ = some (.slice x.A x.n x.c) ∧ wr.cell? ⟨(ad.add (i.toNat * 10)).block, (ad.add (i.toNat * 10)).off + 1 + 7, none⟩ = some (.string x.sub) ∧ wr.cell? ⟨(ad.add (i.toNat * 10)).block, (ad.add (i.toNat * 10)).off + 1 + 8, none⟩ = some (.string x.target)) : wr.cell? (ad.add (i.toNat * 10)) = some (.string x.p) ∧ wr.cell? ⟨(ad.add (i.toNat * 10)).block, (ad.add (i.toNat * 10)).off + 1, none⟩ = some (.string x.name) ∧ wr.cell? ⟨(ad.add (i.toNat * 10)).block, (ad.add (i.toNat * 10)).off + 1 + 1, none⟩ = some (.int .i64 x.kind) ∧ wr.cell? ⟨(ad.add (i.toNat * 10)).block, (ad.add (i.toNat * 10)).off + 1 + 2, none⟩ = some (.int .i64 x.mode) ∧ wr.cell? ⟨(ad.add (i.toNat * 10)).block, (ad.add (i.toNat * 10)).off + 1 + 3, none⟩ = some (.int .i64 x.mtime) ∧ wr.cell? ⟨(ad.add (i.toNat * 10)).block, (ad.add (i.toNat * 10)).off + 1 + 4, none⟩ = some (.int .i64 x.ctime) ∧ wr.cell? ⟨(ad.add (i.toNat * 10)).block, (ad.add (i.toNat * 10)).off + 1 + 5, none⟩ = some (.int .i64 x.size) ∧ wr.cell? ⟨(ad.add (i.toNat * 10)).block, (ad.add (i.toNat * 10)).off + 1 + 6, none⟩ = some (.slice x.A x.n x.c) ∧ wr.cell? ⟨(ad.add (i.toNat * 10)).block, (ad.add (i.toNat * 10)).off + 1 + 7, none⟩ = some (.string x.sub) ∧ wr.cell? ⟨(ad.add (i.toNat * 10)).block, (ad.add (i.toNat * 10)).off + 1 + 8, none⟩ = some (.string x.target) ∧ Below wr.heap.size wr wr := ⟨h.1, h.2.1, h.2.2.1, h.2.2.2.1, h.2.2.2.2.1, h.2.2.2.2.2.1, h.2.2.2.2.2.2.1, h.2.2.2.2.2.2.2.1, h.2.2.2.2.2.2.2.2.1, h.2.2.2.2.2.2.2.2.2, Below.refl _ _⟩
theorem r0_keep {x : F} {wr W w' : World} {ad : Addr} {i : Int} (hb : Below W.heap.size W w') (h : W.cell? (ad.add (i.toNat * 10)) = some (.string x.p) ∧ W.cell? ⟨(ad.add (i.toNat * 10)).block, (ad.add (i.toNat * 10)).off + 1, none⟩ = some (.string x.name) ∧ W.cell? ⟨(ad.add (i.toNat * 10)).block, (ad.add (i.toNat * 10)).off + 1 + 1, none⟩ = some (.int .i64 x.kind) ∧ W.cell? ⟨(ad.add (i.toNat * 10)).block, (ad.add (i.toNat * 10)).off + 1 + 2, none⟩ = some (.int .i64 x.mode) ∧ W.cell? ⟨(ad.add (i.toNat * 10)).block, (ad.add (i.toNat * 10)).off + 1 + 3, none⟩ = some (.int .i64 x.mtime) ∧ W.cell? ⟨(ad.add (i.toNat * 10)).block, (ad.add (i.toNat * 10)).off + 1 + 4, none⟩ = some (.int .i64 x.ctime) ∧ W.cell? ⟨(ad.add (i.toNat * 10)).block, (ad.add (i.toNat * 10)).off + 1 + 5, none⟩ = some (.int .i64 x.size) ∧ W.cell? ⟨(ad.add (i.toNat * 10)).block, (ad.add (i.toNat * 10)).off + 1 + 6, none⟩ = some (.slice x.A x.n x.c) ∧ W.cell? ⟨(ad.add (i.toNat * 10)).block, (ad.add (i.toNat * 10)).off + 1 + 7, none⟩ = some (.string x.sub) ∧ W.cell? ⟨(ad.add (i.toNat * 10)).block, (ad.add (i.toNat * 10)).off + 1 + 8, none⟩ = some (.string x.target) ∧ Below wr.heap.size wr W) : w'.cell? (ad.add (i.toNat * 10)) = some (.string x.p) ∧ w'.cell? ⟨(ad.add (i.toNat * 10)).block, (ad.add (i.toNat * 10)).off + 1, none⟩ = some (.string x.name) ∧ w'.cell? ⟨(ad.add (i.toNat * 10)).block, (ad.add (i.toNat * 10)).off + 1 + 1, none⟩ = some (.int .i64 x.kind) ∧ w'.cell? ⟨(ad.add (i.toNat * 10)).block, (ad.add (i.toNat * 10)).off + 1 + 2, none⟩ = some (.int .i64 x.mode) ∧ w'.cell? ⟨(ad.add (i.toNat * 10)).block, (ad.add (i.toNat * 10)).off + 1 + 3, none⟩ = some (.int .i64 x.mtime) ∧ w'.cell? ⟨(ad.add (i.toNat * 10)).block, (ad.add (i.toNat * 10)).off + 1 + 4, none⟩ = some (.int .i64 x.ctime) ∧ w'.cell? ⟨(ad.add (i.toNat * 10)).block, (ad.add (i.toNat * 10)).off + 1 + 5, none⟩ = some (.int .i64 x.size) ∧ w'.cell? ⟨(ad.add (i.toNat * 10)).block, (ad.add (i.toNat * 10)).off + 1 + 6, none⟩ = some (.slice x.A x.n x.c) ∧ w'.cell? ⟨(ad.add (i.toNat * 10)).block, (ad.add (i.toNat * 10)).off + 1 + 7, none⟩ = some (.string x.sub) ∧ w'.cell? ⟨(ad.add (i.toNat * 10)).block, (ad.add (i.toNat * 10)).off + 1 + 8, none⟩ = some (.string x.target) ∧ Below wr.heap.size wr w' := by
  obtain ⟨c0, c1, c2, c3, c4, c5, c6, c7, c8, c9, h1⟩ := h
  exact ⟨cells_keep hb c0, cells_keep hb c1, cells_keep hb c2, cells_keep hb c3, cells_keep hb c4, cells_keep hb c5, cells_keep hb c6, cells_keep hb c7, cells_keep hb c8, cells_keep hb c9, below_step h1 hb⟩
theorem r0_drew {x : F} {wr W : World} {ad : Addr} {i : Int} (h : W.cell? (ad.add (i.toNat * 10)) = some (.string x.p) ∧ W.cell? ⟨(ad.add (i.toNat * 10)).block, (ad.add (i.toNat * 10)).off + 1, none⟩ = some (.string x.name) ∧ W.cell? ⟨(ad.add (i.toNat * 10)).block, (ad.add (i.toNat * 10)).off + 1 + 1, none⟩ = some (.int .i64 x.kind) ∧ W.cell? ⟨(ad.add (i.toNat * 10)).block, (ad.add (i.toNat * 10)).off + 1 + 2, none⟩ = some (.int .i64 x.mode) ∧ W.cell? ⟨(ad.add (i.toNat * 10)).block, (ad.add (i.toNat * 10)).off + 1 + 3, none⟩ = some (.int .i64 x.mtime) ∧ W.cell? ⟨(ad.add (i.toNat * 10)).block, (ad.add (i.toNat * 10)).off + 1 + 4, none⟩ = some (.int .i64 x.ctime) ∧ W.cell? ⟨(ad.add (i.toNat * 10)).block, (ad.add (i.toNat * 10)).off + 1 + 5, none⟩ = some (.int .i64 x.size) ∧ W.cell? ⟨(ad.add (i.toNat * 10)).block, (ad.add (i.toNat * 10)).off + 1 + 6, none⟩ = some (.slice x.A x.n x.c) ∧ W.cell? ⟨(ad.add (i.toNat * 10)).block, (ad.add (i.toNat * 10)).off + 1 + 7, none⟩ = some (.string x.sub) ∧ W.cell? ⟨(ad.add (i.toNat * 10)).block, (ad.add (i.toNat * 10)).off + 1 + 8, none⟩ = some (.string x.target) ∧ Below wr.heap.size wr W) : W.drew.cell? (ad.add (i.toNat * 10)) = some (.string x.p) ∧ W.drew.cell? ⟨(ad.add (i.toNat * 10)).block, (ad.add (i.toNat * 10)).off + 1, none⟩ = some (.string x.name) ∧ W.drew.cell? ⟨(ad.add (i.toNat * 10)).block, (ad.add (i.toNat * 10)).off + 1 + 1, none⟩ = some (.int .i64 x.kind) ∧ W.drew.cell? ⟨(ad.add (i.toNat * 10)).block, (ad.add (i.toNat * 10)).off + 1 + 2, none⟩ = some (.int .i64 x.mode) ∧ W.drew.cell? ⟨(ad.add (i.toNat * 10)).block, (ad.add (i.toNat * 10)).off + 1 + 3, none⟩ = some (.int .i64 x.mtime) ∧ W.drew.cell? ⟨(ad.add (i.toNat * 10)).block, (ad.add (i.toNat * 10)).off + 1 + 4, none⟩ = some (.int .i64 x.ctime) ∧ W.drew.cell? ⟨(ad.add (i.toNat * 10)).block, (ad.add (i.toNat * 10)).off + 1 + 5, none⟩ = some (.int .i64 x.size) ∧ W.drew.cell? ⟨(ad.add (i.toNat * 10)).block, (ad.add (i.toNat * 10)).off + 1 + 6, none⟩ = some (.slice x.A x.n x.c) ∧ W.drew.cell? ⟨(ad.add (i.toNat * 10)).block, (ad.add (i.toNat * 10)).off + 1 + 7, none⟩ = some (.string x.sub) ∧ W.drew.cell? ⟨(ad.add (i.toNat * 10)).block, (ad.add (i.toNat * 10)).off + 1 + 8, none⟩ = some (.string x.target) ∧ Below wr.heap.size wr W.drew := r0_keep (below_drew1 (Below.refl _ _)) h
theorem r0_end {x : F} {wr W : World} {ad : Addr} {i : Int} (h : W.cell? (ad.add (i.toNat * 10)) = some (.string x.p) ∧ W.cell? ⟨(ad.add (i.toNat * 10)).block, (ad.add (i.toNat * 10)).off + 1, none⟩ = some (.string x.name) ∧ W.cell? ⟨(ad.add (i.toNat * 10)).block, (ad.add (i.toNat * 10)).off + 1 + 1, none⟩ = some (.int .i64 x.kind) ∧ W.cell? ⟨(ad.add (i.toNat * 10)).block, (ad.add (i.toNat * 10)).off + 1 + 2, none⟩ = some (.int .i64 x.mode) ∧ W.cell? ⟨(ad.add (i.toNat * 10)).block, (ad.add (i.toNat * 10)).off + 1 + 3, none⟩ = some (.int .i64 x.mtime) ∧ W.cell? ⟨(ad.add (i.toNat * 10)).block, (ad.add (i.toNat * 10)).off + 1 + 4, none⟩ = some (.int .i64 x.ctime) ∧ W.cell? ⟨(ad.add (i.toNat * 10)).block, (ad.add (i.toNat * 10)).off + 1 + 5, none⟩ = some (.int .i64 x.size) ∧ W.cell? ⟨(ad.add (i.toNat * 10)).block, (ad.add (i.toNat * 10)).off + 1 + 6, none⟩ = some (.slice x.A x.n x.c) ∧ W.cell? ⟨(ad.add (i.toNat * 10)).block, (ad.add (i.toNat * 10)).off + 1 + 7, none⟩ = some (.string x.sub) ∧ W.cell? ⟨(ad.add (i.toNat * 10)).block, (ad.add (i.toNat * 10)).off + 1 + 8, none⟩ = some (.string x.target) ∧ Below wr.heap.size wr W) : Below wr.heap.size wr W := by
  obtain ⟨_, _, _, _, _, _, _, _, _, _, h1⟩ := h
  exact h1
theorem r1_of {x la : F} {o : List F} {wr : World} {ad : Addr} {g4 : Nat} {i : Int} (h : wr.cell? (ad.add (i.toNat * 10)) = some (.string x.p) ∧ wr.cell? ⟨(ad.add (i.toNat * 10)).block, (ad.add (i.toNat * 10)).off + 1, none⟩ = some (.string x.name) ∧ wr.cell? ⟨(ad.add (i.toNat * 10)).block, (ad.add (i.toNat * 10)).off + 1 + 1, none⟩ = some (.int .i64 x.kind) ∧ wr.cell? ⟨(ad.add (i.toNat * 10)).block, (ad.add (i.toNat * 10)).off + 1 + 2, none⟩ = some (.int .i64 x.mode) ∧ wr.cell? ⟨(ad.add (i.toNat * 10)).block, (ad.add (i.toNat * 10)).off + 1 + 3, none⟩ = some (.int .i64 x.mtime) ∧ wr.cell? ⟨(ad.add (i.toNat * 10)).block, (ad.add (i.toNat * 10)).off + 1 + 4, none⟩ = some (.int .i64 x.ctime) ∧ wr.cell? ⟨(ad.add (i.toNat * 10)).block, (ad.add (i.toNat * 10)).off + 1 + 5, none⟩ = some (.int .i64 x.size) ∧ wr.cell? ⟨(ad.add (i.toNat * 10)).block, (ad.add (i.toNat * 10)).off + 1 + 6, none⟩ = some (.slice x.A x.n x.c) ∧ wr.cell? ⟨(ad.add (i.toNat * 10)).block, (ad.add (i.toNat * 10)).off + 1 + 7, none⟩ = some (.string x.sub) ∧ wr.cell? ⟨(ad.add (i.toNat * 10)).block, (ad.add (i.toNat * 10)).off + 1 + 8, none⟩ = some (.string x.target)) (hl : wr.cell? ⟨g4, (o.length - 1) * 10, none⟩ = some (.string la.p)) : wr.cell? (ad.add (i.toNat * 10)) = some (.string x.p) ∧ wr.cell? ⟨(ad.add (i.toNat * 10)).block, (ad.add (i.toNat * 10)).off + 1, none⟩ = some (.string x.name) ∧ wr.cell? ⟨(ad.add (i.toNat * 10)).block, (ad.add (i.toNat * 10)).off + 1 + 1, none⟩ = some (.int .i64 x.kind) ∧ wr.cell? ⟨(ad.add (i.toNat * 10)).block, (ad.add (i.toNat * 10)).off + 1 + 2, none⟩ = some (.int .i64 x.mode) ∧ wr.cell? ⟨(ad.add (i.toNat * 10)).block, (ad.add (i.toNat * 10)).off + 1 + 3, none⟩ = some (.int .i64 x.mtime) ∧ wr.cell? ⟨(ad.add (i.toNat * 10)).block, (ad.add (i.toNat * 10)).off + 1 + 4, none⟩ = some (.int .i64 x.ctime) ∧ wr.cell? ⟨(ad.add (i.toNat * 10)).block, (ad.add (i.toNat * 10)).off + 1 + 5, none⟩ = some (.int .i64 x.size) ∧ wr.cell? ⟨(ad.add (i.toNat * 10)).block, (ad.add (i.toNat * 10)).off + 1 + 6, none⟩ = some (.slice x.A x.n x.c) ∧ wr.cell? ⟨(ad.add (i.toNat * 10)).block, (ad.add (i.toNat * 10)).off + 1 + 7, none⟩ = some (.string x.sub) ∧ wr.cell? ⟨(ad.add (i.toNat * 10)).block, (ad.add (i.toNat * 10)).off + 1 + 8, none⟩ = some (.string x.target) ∧ wr.cell? ⟨g4, (o.length - 1) * 10, none⟩ = some (.string la.p) ∧ Below wr.heap.size wr wr := ⟨h.1, h.2.1, h.2.2.1, h.2.2.2.1, h.2.2.2.2.1, h.2.2.2.2.2.1, h.2.2.2.2.2.2.1, h.2.2.2.2.2.2.2.1, h.2.2.2.2.2.2.2.2.1, h.2.2.2.2.2.2.2.2.2, hl, Below.refl _ _⟩
theorem r1_keep {x la : F} {o : List F} {wr W w' : World} {ad : Addr} {g4 : Nat} {i : Int} (hb : Below W.heap.size W w') (h : W.cell? (ad.add (i.toNat * 10)) = some (.string x.p) ∧ W.cell? ⟨(ad.add (i.toNat * 10)).block, (ad.add (i.toNat * 10)).off + 1, none⟩ = some (.string x.name) ∧ W.cell? ⟨(ad.add (i.toNat * 10)).block, (ad.add (i.toNat * 10)).off + 1 + 1, none⟩ = some (.int .i64 x.kind) ∧ W.cell? ⟨(ad.add (i.toNat * 10)).block, (ad.add (i.toNat * 10)).off + 1 + 2, none⟩ = some (.int .i64 x.mode) ∧ W.cell? ⟨(ad.add (i.toNat * 10)).block, (ad.add (i.toNat * 10)).off + 1 + 3, none⟩ = some (.int .i64 x.mtime) ∧ W.cell? ⟨(ad.add (i.toNat * 10)).block, (ad.add (i.toNat * 10)).off + 1 + 4, none⟩ = some (.int .i64 x.ctime) ∧ W.cell? ⟨(ad.add (i.toNat * 10)).block, (ad.add (i.toNat * 10)).off + 1 + 5, none⟩ = some (.int .i64 x.size) ∧ W.cell? ⟨(ad.add (i.toNat * 10)).block, (ad.add (i.toNat * 10)).off + 1 + 6, none⟩ = some (.slice x.A x.n x.c) ∧ W.cell? ⟨(ad.add (i.toNat * 10)).block, (ad.add (i.toNat * 10)).off + 1 + 7, none⟩ = some (.string x.sub) ∧ W.cell? ⟨(ad.add (i.toNat * 10)).block, (ad.add (i.toNat * 10)).off + 1 + 8, none⟩ = some (.string x.target) ∧ W.cell? ⟨g4, (o.length - 1) * 10, none⟩ = some (.string la.p) ∧ Below wr.heap.size wr W) : w'.cell? (ad.add (i.toNat * 10)) = some (.string x.p) ∧ w'.cell? ⟨(ad.add (i.toNat * 10)).block, (ad.add (i.toNat * 10)).off + 1, none⟩ = some (.string x.name) ∧ w'.cell? ⟨(ad.add (i.toNat * 10)).block, (ad.add (i.toNat * 10)).off + 1 + 1, none⟩ = some (.int .i64 x.kind) ∧ w'.cell? ⟨(ad.add (i.toNat * 10)).block, (ad.add (i.toNat * 10)).off + 1 + 2, none⟩ = some (.int .i64 x.mode) ∧ w'.cell? ⟨(ad.add (i.toNat * 10)).block, (ad.add (i.toNat * 10)).off + 1 + 3, none⟩ = some (.int .i64 x.mtime) ∧ w'.cell? ⟨(ad.add (i.toNat * 10)).block, (ad.add (i.toNat * 10)).off + 1 + 4, none⟩ = some (.int .i64 x.ctime) ∧ w'.cell? ⟨(ad.add (i.toNat * 10)).block, (ad.add (i.toNat * 10)).off + 1 + 5, none⟩ = some (.int .i64 x.size) ∧ w'.cell? ⟨(ad.add (i.toNat * 10)).block, (ad.add (i.toNat * 10)).off + 1 + 6, none⟩ = some (.slice x.A x.n x.c) ∧ w'.cell? ⟨(ad.add (i.toNat * 10)).block, (ad.add (i.toNat * 10)).off + 1 + 7, none⟩ = some (.string x.sub) ∧ w'.cell? ⟨(ad.add (i.toNat * 10)).block, (ad.add (i.toNat * 10)).off + 1 + 8, none⟩ = some (.string x.target) ∧ w'.cell? ⟨g4, (o.length - 1) * 10, none⟩ = some (.string la.p) ∧ Below wr.heap.size wr w' := by
  obtain ⟨c0, c1, c2, c3, c4, c5, c6, c7, c8, c9, c10, h1⟩ := h
  exact ⟨cells_keep hb c0, cells_keep hb c1, cells_keep hb c2, cells_keep hb c3, cells_keep hb c4, cells_keep hb c5, cells_keep hb c6, cells_keep hb c7, cells_keep hb c8, cells_keep hb c9, cells_keep hb c10, below_step h1 hb⟩
theorem r1_drew {x la : F} {o : List F} {wr W : World} {ad : Addr} {g4 : Nat} {i : Int} (h : W.cell? (ad.add (i.toNat * 10)) = some (.string x.p) ∧ W.cell? ⟨(ad.add (i.toNat * 10)).block, (ad.add (i.toNat * 10)).off + 1, none⟩ = some (.string x.name) ∧ W.cell? ⟨(ad.add (i.toNat * 10)).block, (ad.add (i.toNat * 10)).off + 1 + 1, none⟩ = some (.int .i64 x.kind) ∧ W.cell? ⟨(ad.add (i.toNat * 10)).block, (ad.add (i.toNat * 10)).off + 1 + 2, none⟩ = some (.int .i64 x.mode) ∧ W.cell? ⟨(ad.add (i.toNat * 10)).block, (ad.add (i.toNat * 10)).off + 1 + 3, none⟩ = some (.int .i64 x.mtime) ∧ W.cell? ⟨(ad.add (i.toNat * 10)).block, (ad.add (i.toNat * 10)).off + 1 + 4, none⟩ = some (.int .i64 x.ctime) ∧ W.cell? ⟨(ad.add (i.toNat * 10)).block, (ad.add (i.toNat * 10)).off + 1 + 5, none⟩ = some (.int .i64 x.size) ∧ W.cell? ⟨(ad.add (i.toNat * 10)).block, (ad.add (i.toNat * 10)).off + 1 + 6, none⟩ = some (.slice x.A x.n x.c) ∧ W.cell? ⟨(ad.add (i.toNat * 10)).block, (ad.add (i.toNat * 10)).off + 1 + 7, none⟩ = some (.string x.sub) ∧ W.cell? ⟨(ad.add (i.toNat * 10)).block, (ad.add (i.toNat * 10)).off + 1 + 8, none⟩ = some (.string x.target) ∧ W.cell? ⟨g4, (o.length - 1) * 10, none⟩ = some (.string la.p) ∧ Below wr.heap.size wr W) : W.drew.cell? (ad.add (i.toNat * 10)) = some (.string x.p) ∧ W.drew.cell? ⟨(ad.add (i.toNat * 10)).block, (ad.add (i.toNat * 10)).off + 1, none⟩ = some (.string x.name) ∧ W.drew.cell? ⟨(ad.add (i.toNat * 10)).block, (ad.add (i.toNat * 10)).off + 1 + 1, none⟩ = some (.int .i64 x.kind) ∧ W.drew.cell? ⟨(ad.add (i.toNat * 10)).block, (ad.add (i.toNat * 10)).off + 1 + 2, none⟩ = some (.int .i64 x.mode) ∧ W.drew.cell? ⟨(ad.add (i.toNat * 10)).block, (ad.add (i.toNat * 10)).off + 1 + 3, none⟩ = some (.int .i64 x.mtime) ∧ W.drew.cell? ⟨(ad.add (i.toNat * 10)).block, (ad.add (i.toNat * 10)).off + 1 + 4, none⟩ = some (.int .i64 x.ctime) ∧ W.drew.cell? ⟨(ad.add (i.toNat * 10)).block, (ad.add (i.toNat * 10)).off + 1 + 5, none⟩ = some (.int .i64 x.size) ∧ W.drew.cell? ⟨(ad.add (i.toNat * 10)).block, (ad.add (i.toNat * 10)).off + 1 + 6, none⟩ = some (.slice x.A x.n x.c) ∧ W.drew.cell? ⟨(ad.add (i.toNat * 10)).block, (ad.add (i.toNat * 10)).off + 1 + 7, none⟩ = some (.string x.sub) ∧ W.drew.cell? ⟨(ad.add (i.toNat * 10)).block, (ad.add (i.toNat * 10)).off + 1 + 8, none⟩ = some (.string x.target) ∧ W.drew.cell? ⟨g4, (o.length - 1) * 10, none⟩ = some (.string la.p) ∧ Below wr.heap.size wr W.drew := r1_keep (below_drew1 (Below.refl _ _)) h
theorem r1_end {x la : F} {o : List F} {wr W : World} {ad : Addr} {g4 : Nat} {i : Int} (h : W.cell? (ad.add (i.toNat * 10)) = some (.string x.p) ∧ W.cell? ⟨(ad.add (i.toNat * 10)).block, (ad.add (i.toNat * 10)).off + 1, none⟩ = some (.string x.name) ∧ W.cell? ⟨(ad.add (i.toNat * 10)).block, (ad.add (i.toNat * 10)).off + 1 + 1, none⟩ = some (.int .i64 x.kind) ∧ W.cell? ⟨(ad.add (i.toNat * 10)).block, (ad.add (i.toNat * 10)).off + 1 + 2, none⟩ = some (.int .i64 x.mode) ∧ W.cell? ⟨(ad.add (i.toNat * 10)).block, (ad.add (i.toNat * 10)).off + 1 + 3, none⟩ = some (.int .i64 x.mtime) ∧ W.cell? ⟨(ad.add (i.toNat * 10)).block, (ad.add (i.toNat * 10)).off + 1 + 4, none⟩ = some (.int .i64 x.ctime) ∧ W.cell? ⟨(ad.add (i.toNat * 10)).block, (ad.add (i.toNat * 10)).off + 1 + 5, none⟩ = some (.int .i64 x.size) ∧ W.cell? ⟨(ad.add (i.toNat * 10)).block, (ad.add (i.toNat * 10)).off + 1 + 6, none⟩ = some (.slice x.A x.n x.c) ∧ W.cell? ⟨(ad.add (i.toNat * 10)).block, (ad.add (i.toNat * 10)).off + 1 + 7, none⟩ = some (.string x.sub) ∧ W.cell? ⟨(ad.add (i.toNat * 10)).block, (ad.add (i.toNat * 10)).off + 1 + 8, none⟩ = some (.string x.target) ∧ W.cell? ⟨g4, (o.length - 1) * 10, none⟩ = some (.string la.p) ∧ Below wr.heap.size wr W) : Below wr.heap.size wr W := by
  obtain ⟨_, _, _, _, _, _, _, _, _, _, _, h1⟩ := h
  exact h1
theorem cells0_keep {x : F} {w w' : World} {ad : Addr} {i : Int} (hb : Below w.heap.size w w') (h : w.cell? (ad.add (i.toNat * 10)) = some (.string x.p) ∧ w.cell? ⟨(ad.add (i.toNat * 10)).block, (ad.add (i.toNat * 10)).off + 1, none⟩ = some (.string x.name) ∧ w.cell? ⟨(ad.add (i.toNat * 10)).block, (ad.add (i.toNat * 10)).off + 1 + 1, none⟩ = some (.int .i64 x.kind) ∧ w.cell? ⟨(ad.add (i.toNat * 10)).block, (ad.add (i.toNat * 10)).off + 1 + 2, none⟩ = some (.int .i64 x.mode) ∧ w.cell? ⟨(ad.add (i.toNat * 10)).block, (ad.add (i.toNat * 10)).off + 1 + 3, none⟩ = some (.int .i64 x.mtime) ∧ w.cell? ⟨(ad.add (i.toNat * 10)).block, (ad.add (i.toNat * 10)).off + 1 + 4, none⟩ = some (.int .i64 x.ctime) ∧ w.cell? ⟨(ad.add (i.toNat * 10)).block, (ad.add (i.toNat * 10)).off + 1 + 5, none⟩ = some (.int .i64 x.size) ∧ w.cell? ⟨(ad.add (i.toNat * 10)).block, (ad.add (i.toNat * 10)).off + 1 + 6, none⟩ = some (.slice x.A x.n x.c) ∧ w.cell? ⟨(ad.add (i.toNat * 10)).block, (ad.add (i.toNat * 10)).off + 1 + 7, none⟩ = some (.string x.sub) ∧ w.cell? ⟨(ad.add (i.toNat * 10)).block, (ad.add (i.toNat * 10)).off + 1 + 8, none⟩ = some (.string x.target)) : w'.cell? (ad.add (i.toNat * 10)) = some (.string x.p) ∧ w'.cell? ⟨(ad.add (i.toNat * 10)).block, (ad.add (i.toNat * 10)).off + 1, none⟩ = some (.string x.name) ∧ w'.cell? ⟨(ad.add (i.toNat * 10)).block, (ad.add (i.toNat * 10)).off + 1 + 1, none⟩ = some (.int .i64 x.kind) ∧ w'.cell? ⟨(ad.add (i.toNat * 10)).block, (ad.add (i.toNat * 10)).off + 1 + 2, none⟩ = some (.int .i64 x.mode) ∧ w'.cell? ⟨(ad.add (i.toNat * 10)).block, (ad.add (i.toNat * 10)).off + 1 + 3, none⟩ = some (.int .i64 x.mtime) ∧ w'.cell? ⟨(ad.add (i.toNat * 10)).block, (ad.add (i.toNat * 10)).off + 1 + 4, none⟩ = some (.int .i64 x.ctime) ∧ w'.cell? ⟨(ad.add (i.toNat * 10)).block, (ad.add (i.toNat * 10)).off + 1 + 5, none⟩ = some (.int .i64 x.size) ∧ w'.cell? ⟨(ad.add (i.toNat * 10)).block, (ad.add (i.toNat * 10)).off + 1 + 6, none⟩ = some (.slice x.A x.n x.c) ∧ w'.cell? ⟨(ad.add (i.toNat * 10)).block, (ad.add (i.toNat * 10)).off + 1 + 7, none⟩ = some (.string x.sub) ∧ w'.cell? ⟨(ad.add (i.toNat * 10)).block, (ad.add (i.toNat * 10)).off + 1 + 8, none⟩ = some (.string x.target) := by
  obtain ⟨c0, c1, c2, c3, c4, c5, c6, c7, c8, c9⟩ := h
  exact ⟨cells_keep hb c0, cells_keep hb c1, cells_keep hb c2, cells_keep hb c3, cells_keep hb c4, cells_keep hb c5, cells_keep hb c6, cells_keep hb c7, cells_keep hb c8, cells_keep hb c9⟩
set_option maxHeartbeats 8000000 in
set_option maxRecDepth 100000 in
theorem rising_calls (A0 : Option Addr) (c0 : Nat) (l : List F) (w : World) (hr0 : Kd.C kF w A0 l.length l) (hmx : l.length ≤ 9223372036854775807) :
    Calls Tryd.prog 6 #[.slice A0 l.length c0] w fun e w' => ∃ (v1 v2 : Value) (o : List F), e = .returned (.tuple #[v1, v2]) ∧ Kd.R kF 47 w' w.heap.size (fun _ => True) v1 o ∧ Good l o ∧ Below w.heap.size w w' := by
  have HR0 := Aside0.mk hr0
  have hmx2 := hmx
  have HB := Aside0.mk (Below.refl w.heap.size w)
  clear hr0
  go_enter Tryd.func6, Tryd.ntmps6
  go_wp2_with (fail)
  go_loopw [4, 5, 6] (fun v4 v5 v6 w' => ∃ (i : Int) (o : List F), v6 = .int .i64 i ∧ Aside0 (0 ≤ i ∧ i ≤ l.length) ∧ Aside0 (Kd.R kF 47 w' w.heap.size (fun _ => True) v4 o) ∧ Aside0 (Kd.R kF 50 w' w.heap.size (fun _ => True) v5 o) ∧ Aside0 (Good l o) ∧ Aside0 (Below w.heap.size w w')) (fun _ _ v6 _ => l.length + 1 - (intOf v6).toNat)
  case atStart => exact ⟨0, [], rfl, ⟨by omega⟩, ⟨Kd.R_nil kF 47 w w.heap.size _⟩, ⟨Kd.R_nil kF 50 w w.heap.size _⟩, ⟨Good.nil l⟩, HB⟩
  case round =>
    clear HB
    obtain ⟨i, o, rfl, HX, HO, HO5, HG, HBW⟩ := hrel
    have hx0 := HX.out.1
    have h30 := HG.out.2.2
    obtain ⟨A4, k4, rfl, hc4, hRW, _⟩ := own_F HO.out
    have HRW := Aside0.mk hRW
    clear hRW hc4
    by_cases c1 : i < (l.length : Int)
    · have c1b : decide (i < (l.length : Int)) = true := decide_eq_true c1
      have q1 := eq_true hx0
      have q2 := eq_true c1
      by_cases c2 : o.length < 30
      · have c2b : decide ((o.length : Int) < 30) = true := decide_eq_true (by omega)
        have hil : i.toNat < l.length := by omega
        obtain ⟨x, hx⟩ : ∃ x, l[i.toNat]? = some x := ⟨l[i.toNat], List.getElem?_eq_getElem hil⟩
        have hxm : x ∈ l := List.mem_of_getElem? hx
        obtain ⟨ad, rfl, hcs⟩ := at_F HR0.out i hx0 c1 x hx
        have HCX := Aside0.mk hcs
        have hin := r0_of (wr := wr) (x := x) (ad := ad) (i := i) (cells0_keep HBW.out hcs)
        have HXM := Aside0.mk hxm
        clear hcs hx hil hxm
        by_cases c3 : x.p.size ≤ 300
        · have c3b : decide ((x.p.size : Int) > 300) = false := decide_eq_false (by omega)
          have c3c : decide (300 < (x.p.size : Int)) = false := decide_eq_false (by omega)
          have c0' := hin.1
          have c7' := hin.2.2.2.2.2.2.2.1
          by_cases c4 : x.n ≤ 50
          · have c4b : decide ((x.n : Int) > 50) = false := decide_eq_false (by omega)
            have c4c : decide (50 < (x.n : Int)) = false := decide_eq_false (by omega)
            rcases Nat.eq_zero_or_pos o.length with c5 | c5
            · have ho0 : o = [] := List.length_eq_zero_iff.1 c5
              have HG9 : Aside0 (Good l (o ++ [x])) := ⟨by rw [ho0]; exact Good.one HXM.out c3 c4⟩
              have c5b : decide ((o.length : Int) > 0) = false := decide_eq_false (by omega)
              have c5c : decide (0 < (o.length : Int)) = false := decide_eq_false (by omega)
              clear ho0
              go_wp2_with (fail)
              go_quiet (fail)
              go_wp2_with (fail)
              have hbW : Below wr.heap.size wr (wr.drewN nq) := pw_below_drewN (Below.refl _ _) nq
              generalize wr.drewN nq = W0 at hbW ⊢
              have HC5 := Aside0.mk c5
              clear c5
              have HOL := Aside0.mk c2
              have HOW := Aside0.mk (Kd.R_below HO.out hbW)
              have HO5W := Aside0.mk (Kd.R_below HO5.out hbW)
              have HBW2 := Aside0.mk (below_step HBW.out hbW)
              have hinW := cells0_keep (below_step HBW.out hbW) HCX.out
              clear hbW
              go_region_held3 (fun w' => w'.cell? (ad.add (i.toNat * 10)) = some (.string x.p) ∧ w'.cell? ⟨(ad.add (i.toNat * 10)).block, (ad.add (i.toNat * 10)).off + 1, none⟩ = some (.string x.name) ∧ w'.cell? ⟨(ad.add (i.toNat * 10)).block, (ad.add (i.toNat * 10)).off + 1 + 1, none⟩ = some (.int .i64 x.kind) ∧ w'.cell? ⟨(ad.add (i.toNat * 10)).block, (ad.add (i.toNat * 10)).off + 1 + 2, none⟩ = some (.int .i64 x.mode) ∧ w'.cell? ⟨(ad.add (i.toNat * 10)).block, (ad.add (i.toNat * 10)).off + 1 + 3, none⟩ = some (.int .i64 x.mtime) ∧ w'.cell? ⟨(ad.add (i.toNat * 10)).block, (ad.add (i.toNat * 10)).off + 1 + 4, none⟩ = some (.int .i64 x.ctime) ∧ w'.cell? ⟨(ad.add (i.toNat * 10)).block, (ad.add (i.toNat * 10)).off + 1 + 5, none⟩ = some (.int .i64 x.size) ∧ w'.cell? ⟨(ad.add (i.toNat * 10)).block, (ad.add (i.toNat * 10)).off + 1 + 6, none⟩ = some (.slice x.A x.n x.c) ∧ w'.cell? ⟨(ad.add (i.toNat * 10)).block, (ad.add (i.toNat * 10)).off + 1 + 7, none⟩ = some (.string x.sub) ∧ w'.cell? ⟨(ad.add (i.toNat * 10)).block, (ad.add (i.toNat * 10)).off + 1 + 8, none⟩ = some (.string x.target)) (first | assumption | (exact cells0_keep (below_drew1 (Below.refl _ _)) (by assumption)) | (exact cells0_keep (below_alloc (Below.refl _ _) _) (by assumption)) | (exact cells0_keep (below_alloc (below_drew1 (Below.refl _ _)) _) (by assumption))) (first | ((rw [alloc_drewR]); refine Kd.R_append_step kF (w0 := w) (W := _) w.heap.size ?hw (.tmp 56) (.tmp 68) 24 47 (.agg #[.string ⟨#[]⟩, .string ⟨#[]⟩, .int .i64 0, .int .i64 0, .int .i64 0, .int .i64 0, .int .i64 0, .slice none 0 0, .string ⟨#[]⟩, .string ⟨#[]⟩]) 128 ?ho Tryd.underlying24 info47 rfl (by decide) (by omega) (.slice A4 o.length k4) o x [.string x.p, .string x.name, .int .i64 x.kind, .int .i64 x.mode, .int .i64 x.mtime, .int .i64 x.ctime, .int .i64 x.size, .slice x.A x.n x.c, .string x.sub, .string x.target] (fun _ => True) (fun _ => False) ?hs ?hx ?aP (fun _ hk => hk.elim) (fun _ _ => trivial) ?aO ?aB ?aS ?aL ?_; (case hw => kernel_rfl); (case ho => rfl); (case hs => rfl); (case hx => rfl); (case aP => rfl); (case aB => exact below_drew1 HBW2.out); (case aO => exact Kd.R_drew HOW.out); (case aS => exact HBW2.out.size); (case aL => have := HOL.out; omega); intro v9 w9 ho hb hg hat; have HO9 := Aside0.mk ho; have HB9 := Aside0.mk hb; have HF9 := Aside0.mk (Kd.R_grown2 (Kd.R_drew HO5W.out) rfl hg (two_apart HOW.out HO5W.out)); have hin9 := cells0_keep hb HCX.out; clear ho hb hg hat))
              go_wp2_with (fail)
              go_region_held3 (fun w' => w'.cell? (ad.add (i.toNat * 10)) = some (.string x.p) ∧ w'.cell? ⟨(ad.add (i.toNat * 10)).block, (ad.add (i.toNat * 10)).off + 1, none⟩ = some (.string x.name) ∧ w'.cell? ⟨(ad.add (i.toNat * 10)).block, (ad.add (i.toNat * 10)).off + 1 + 1, none⟩ = some (.int .i64 x.kind) ∧ w'.cell? ⟨(ad.add (i.toNat * 10)).block, (ad.add (i.toNat * 10)).off + 1 + 2, none⟩ = some (.int .i64 x.mode) ∧ w'.cell? ⟨(ad.add (i.toNat * 10)).block, (ad.add (i.toNat * 10)).off + 1 + 3, none⟩ = some (.int .i64 x.mtime) ∧ w'.cell? ⟨(ad.add (i.toNat * 10)).block, (ad.add (i.toNat * 10)).off + 1 + 4, none⟩ = some (.int .i64 x.ctime) ∧ w'.cell? ⟨(ad.add (i.toNat * 10)).block, (ad.add (i.toNat * 10)).off + 1 + 5, none⟩ = some (.int .i64 x.size) ∧ w'.cell? ⟨(ad.add (i.toNat * 10)).block, (ad.add (i.toNat * 10)).off + 1 + 6, none⟩ = some (.slice x.A x.n x.c) ∧ w'.cell? ⟨(ad.add (i.toNat * 10)).block, (ad.add (i.toNat * 10)).off + 1 + 7, none⟩ = some (.string x.sub) ∧ w'.cell? ⟨(ad.add (i.toNat * 10)).block, (ad.add (i.toNat * 10)).off + 1 + 8, none⟩ = some (.string x.target)) (first | assumption | (exact cells0_keep (below_drew1 (Below.refl _ _)) (by assumption)) | (exact cells0_keep (below_alloc (Below.refl _ _) _) (by assumption)) | (exact cells0_keep (below_alloc (below_drew1 (Below.refl _ _)) _) (by assumption))) (first | ((rw [alloc_drewR]); refine Kd.R_append_step kF (w0 := w) (W := _) w.heap.size ?hw (.tmp 70) (.tmp 82) 25 50 (.agg #[.string ⟨#[]⟩, .string ⟨#[]⟩, .int .i64 0, .int .i64 0, .int .i64 0, .int .i64 0, .int .i64 0, .slice none 0 0, .string ⟨#[]⟩, .string ⟨#[]⟩]) 128 ?ho Tryd.underlying25 info50 rfl (by decide) (by omega) u5 o x [.string x.p, .string x.name, .int .i64 x.kind, .int .i64 x.mode, .int .i64 x.mtime, .int .i64 x.ctime, .int .i64 x.size, .slice x.A x.n x.c, .string x.sub, .string x.target] (fun _ => True) (fun _ => False) ?hs ?hx ?aP (fun _ hk => hk.elim) (fun _ _ => trivial) ?aO ?aB ?aS ?aL ?_; (case hw => kernel_rfl); (case ho => rfl); (case hs => rfl); (case hx => rfl); (case aP => rfl); (case aB => exact below_drew1 HB9.out); (case aO => exact Kd.R_drew HF9.out); (case aS => exact HB9.out.size); (case aL => have := HOL.out; omega); intro v10 w10 ho hb hg hat; have HO10 := Aside0.mk ho; have HB10 := Aside0.mk hb; have HF10 := Aside0.mk (Kd.R_grown2 (Kd.R_drew HO9.out) rfl hg (fun k hk he => two_apart HO9.out HF9.out k he.symm hk.symm)); have hin10 := cells0_keep hb HCX.out; clear ho hb hg hat))
              go_wp2_with (fail)
              go_roundw
              case rel => exact ⟨i + 1, o ++ [x], by first | rfl | (go_num; done), ⟨by omega⟩, HF10, HO10, HG9, HB10⟩
              case measure => (simp [intOf]; omega)
            · obtain ⟨la, hla⟩ : ∃ la, o[o.length - 1]? = some la := ⟨o[o.length - 1]'(by omega), List.getElem?_eq_getElem (by omega)⟩
              rcases HRW.out with h | ⟨g4, rfl, hcl⟩
              · subst h; simp at c5
              have c5b : decide ((o.length : Int) > 0) = true := decide_eq_true (by omega)
              have c5c : decide (0 < (o.length : Int)) = true := decide_eq_true (by omega)
              have q3 : (0 ≤ (o.length : Int) - 1) = True := eq_true (by omega)
              have q4 : ((o.length : Int) - 1 < (o.length : Int)) = True := eq_true (by omega)
              have hlc : wr.cell? ⟨g4, (o.length - 1) * 10, none⟩ = some (.string la.p) := hcl (o.length - 1) la hla 0 _ rfl
              have q5 : (1 ≤ (o.length : Int)) = True := eq_true (by omega)
              have q6 : (1 ≤ o.length) = True := eq_true (by omega)
              have q7 : (0 < o.length) = True := eq_true (by omega)
              have q8 : o ≠ [] := by intro h; rw [h] at c5; simp at c5
              have hst := r1_of (la := la) (o := o) (g4 := g4) (cells0_keep HBW.out HCX.out) hlc
              have hwr : IntKind.i64.wrap ((o.length : Int) - 1) = (o.length : Int) - 1 := by rw [IntKind.wrap_i64]; omega
              have hLA : la.p.size ≤ 300 := (HG.out.1 la (List.mem_of_getElem? hla)).2.1
              have HLX := fun W => less_any la.p x.p hLA c3 W
              have HGM := fun h => Good.more HG.out hla HXM.out c3 c4 h c2
              generalize lessP la.p x.p = L at HLX HGM
              have HGM := Aside0.mk HGM
              clear hcl hla hLA hin c0' c7' hlc
              cases L
              · go_wp2_with (fail)
                go_region_held3 (fun w' => w'.cell? (ad.add (i.toNat * 10)) = some (.string x.p) ∧ w'.cell? ⟨(ad.add (i.toNat * 10)).block, (ad.add (i.toNat * 10)).off + 1, none⟩ = some (.string x.name) ∧ w'.cell? ⟨(ad.add (i.toNat * 10)).block, (ad.add (i.toNat * 10)).off + 1 + 1, none⟩ = some (.int .i64 x.kind) ∧ w'.cell? ⟨(ad.add (i.toNat * 10)).block, (ad.add (i.toNat * 10)).off + 1 + 2, none⟩ = some (.int .i64 x.mode) ∧ w'.cell? ⟨(ad.add (i.toNat * 10)).block, (ad.add (i.toNat * 10)).off + 1 + 3, none⟩ = some (.int .i64 x.mtime) ∧ w'.cell? ⟨(ad.add (i.toNat * 10)).block, (ad.add (i.toNat * 10)).off + 1 + 4, none⟩ = some (.int .i64 x.ctime) ∧ w'.cell? ⟨(ad.add (i.toNat * 10)).block, (ad.add (i.toNat * 10)).off + 1 + 5, none⟩ = some (.int .i64 x.size) ∧ w'.cell? ⟨(ad.add (i.toNat * 10)).block, (ad.add (i.toNat * 10)).off + 1 + 6, none⟩ = some (.slice x.A x.n x.c) ∧ w'.cell? ⟨(ad.add (i.toNat * 10)).block, (ad.add (i.toNat * 10)).off + 1 + 7, none⟩ = some (.string x.sub) ∧ w'.cell? ⟨(ad.add (i.toNat * 10)).block, (ad.add (i.toNat * 10)).off + 1 + 8, none⟩ = some (.string x.target) ∧ w'.cell? ⟨g4, (o.length - 1) * 10, none⟩ = some (.string la.p) ∧ Below wr.heap.size wr w') (first | assumption | (exact r1_keep (by assumption) (by assumption)) | (exact r1_drew (by assumption)))
            (first
              | (go_at_call 14; (with_reducible refine (HLX _).mono ?_); rintro _ w' ⟨rfl, hb⟩))
                have hbe := r1_end (by assumption)
                have HOE := Aside0.mk (Kd.R_below HO.out hbe)
                have HO5E := Aside0.mk (Kd.R_below HO5.out hbe)
                have HBE := Aside0.mk (below_step HBW.out hbe)
                go_wp2_with (fail)
                go_roundw
                case rel => exact ⟨i + 1, o, by first | rfl | (go_num; done), ⟨by omega⟩, HOE, HO5E, HG, HBE⟩
                case measure => (simp [intOf]; omega)
              · have HG9 := Aside0.mk (HGM.out rfl)
                go_wp2_with (fail)
                go_region_held3 (fun w' => w'.cell? (ad.add (i.toNat * 10)) = some (.string x.p) ∧ w'.cell? ⟨(ad.add (i.toNat * 10)).block, (ad.add (i.toNat * 10)).off + 1, none⟩ = some (.string x.name) ∧ w'.cell? ⟨(ad.add (i.toNat * 10)).block, (ad.add (i.toNat * 10)).off + 1 + 1, none⟩ = some (.int .i64 x.kind) ∧ w'.cell? ⟨(ad.add (i.toNat * 10)).block, (ad.add (i.toNat * 10)).off + 1 + 2, none⟩ = some (.int .i64 x.mode) ∧ w'.cell? ⟨(ad.add (i.toNat * 10)).block, (ad.add (i.toNat * 10)).off + 1 + 3, none⟩ = some (.int .i64 x.mtime) ∧ w'.cell? ⟨(ad.add (i.toNat * 10)).block, (ad.add (i.toNat * 10)).off + 1 + 4, none⟩ = some (.int .i64 x.ctime) ∧ w'.cell? ⟨(ad.add (i.toNat * 10)).block, (ad.add (i.toNat * 10)).off + 1 + 5, none⟩ = some (.int .i64 x.size) ∧ w'.cell? ⟨(ad.add (i.toNat * 10)).block, (ad.add (i.toNat * 10)).off + 1 + 6, none⟩ = some (.slice x.A x.n x.c) ∧ w'.cell? ⟨(ad.add (i.toNat * 10)).block, (ad.add (i.toNat * 10)).off + 1 + 7, none⟩ = some (.string x.sub) ∧ w'.cell? ⟨(ad.add (i.toNat * 10)).block, (ad.add (i.toNat * 10)).off + 1 + 8, none⟩ = some (.string x.target) ∧ w'.cell? ⟨g4, (o.length - 1) * 10, none⟩ = some (.string la.p) ∧ Below wr.heap.size wr w') (first | assumption | (exact r1_keep (by assumption) (by assumption)) | (exact r1_drew (by assumption)))
            (first
              | (go_at_call 14; (with_reducible refine (HLX _).mono ?_); rintro _ w' ⟨rfl, hb⟩))
                have hbW := r1_end (by assumption)
                clear hst
                go_wp2_with (fail)
                have HOL := Aside0.mk c2
                have HOW := Aside0.mk (Kd.R_below HO.out hbW)
                have HO5W := Aside0.mk (Kd.R_below HO5.out hbW)
                have HBW2 := Aside0.mk (below_step HBW.out hbW)
                have hinW := cells0_keep (below_step HBW.out hbW) HCX.out
                clear hbW
                go_region_held3 (fun w' => w'.cell? (ad.add (i.toNat * 10)) = some (.string x.p) ∧ w'.cell? ⟨(ad.add (i.toNat * 10)).block, (ad.add (i.toNat * 10)).off + 1, none⟩ = some (.string x.name) ∧ w'.cell? ⟨(ad.add (i.toNat * 10)).block, (ad.add (i.toNat * 10)).off + 1 + 1, none⟩ = some (.int .i64 x.kind) ∧ w'.cell? ⟨(ad.add (i.toNat * 10)).block, (ad.add (i.toNat * 10)).off + 1 + 2, none⟩ = some (.int .i64 x.mode) ∧ w'.cell? ⟨(ad.add (i.toNat * 10)).block, (ad.add (i.toNat * 10)).off + 1 + 3, none⟩ = some (.int .i64 x.mtime) ∧ w'.cell? ⟨(ad.add (i.toNat * 10)).block, (ad.add (i.toNat * 10)).off + 1 + 4, none⟩ = some (.int .i64 x.ctime) ∧ w'.cell? ⟨(ad.add (i.toNat * 10)).block, (ad.add (i.toNat * 10)).off + 1 + 5, none⟩ = some (.int .i64 x.size) ∧ w'.cell? ⟨(ad.add (i.toNat * 10)).block, (ad.add (i.toNat * 10)).off + 1 + 6, none⟩ = some (.slice x.A x.n x.c) ∧ w'.cell? ⟨(ad.add (i.toNat * 10)).block, (ad.add (i.toNat * 10)).off + 1 + 7, none⟩ = some (.string x.sub) ∧ w'.cell? ⟨(ad.add (i.toNat * 10)).block, (ad.add (i.toNat * 10)).off + 1 + 8, none⟩ = some (.string x.target)) (first | assumption | (exact cells0_keep (below_drew1 (Below.refl _ _)) (by assumption)) | (exact cells0_keep (below_alloc (Below.refl _ _) _) (by assumption)) | (exact cells0_keep (below_alloc (below_drew1 (Below.refl _ _)) _) (by assumption))) (first | ((rw [alloc_drewR]); refine Kd.R_append_step kF (w0 := w) (W := _) w.heap.size ?hw (.tmp 56) (.tmp 68) 24 47 (.agg #[.string ⟨#[]⟩, .string ⟨#[]⟩, .int .i64 0, .int .i64 0, .int .i64 0, .int .i64 0, .int .i64 0, .slice none 0 0, .string ⟨#[]⟩, .string ⟨#[]⟩]) 128 ?ho Tryd.underlying24 info47 rfl (by decide) (by omega) (.slice (some ⟨g4, 0, none⟩) o.length k4) o x [.string x.p, .string x.name, .int .i64 x.kind, .int .i64 x.mode, .int .i64 x.mtime, .int .i64 x.ctime, .int .i64 x.size, .slice x.A x.n x.c, .string x.sub, .string x.target] (fun _ => True) (fun _ => False) ?hs ?hx ?aP (fun _ hk => hk.elim) (fun _ _ => trivial) ?aO ?aB ?aS ?aL ?_; (case hw => kernel_rfl); (case ho => rfl); (case hs => rfl); (case hx => rfl); (case aP => rfl); (case aB => exact below_drew1 HBW2.out); (case aO => exact Kd.R_drew HOW.out); (case aS => exact HBW2.out.size); (case aL => have := HOL.out; omega); intro v9 w9 ho hb hg hat; have HO9 := Aside0.mk ho; have HB9 := Aside0.mk hb; have HF9 := Aside0.mk (Kd.R_grown2 (Kd.R_drew HO5W.out) rfl hg (two_apart HOW.out HO5W.out)); have hin9 := cells0_keep hb HCX.out; clear ho hb hg hat))
                go_wp2_with (fail)
                go_region_held3 (fun w' => w'.cell? (ad.add (i.toNat * 10)) = some (.string x.p) ∧ w'.cell? ⟨(ad.add (i.toNat * 10)).block, (ad.add (i.toNat * 10)).off + 1, none⟩ = some (.string x.name) ∧ w'.cell? ⟨(ad.add (i.toNat * 10)).block, (ad.add (i.toNat * 10)).off + 1 + 1, none⟩ = some (.int .i64 x.kind) ∧ w'.cell? ⟨(ad.add (i.toNat * 10)).block, (ad.add (i.toNat * 10)).off + 1 + 2, none⟩ = some (.int .i64 x.mode) ∧ w'.cell? ⟨(ad.add (i.toNat * 10)).block, (ad.add (i.toNat * 10)).off + 1 + 3, none⟩ = some (.int .i64 x.mtime) ∧ w'.cell? ⟨(ad.add (i.toNat * 10)).block, (ad.add (i.toNat * 10)).off + 1 + 4, none⟩ = some (.int .i64 x.ctime) ∧ w'.cell? ⟨(ad.add (i.toNat * 10)).block, (ad.add (i.toNat * 10)).off + 1 + 5, none⟩ = some (.int .i64 x.size) ∧ w'.cell? ⟨(ad.add (i.toNat * 10)).block, (ad.add (i.toNat * 10)).off + 1 + 6, none⟩ = some (.slice x.A x.n x.c) ∧ w'.cell? ⟨(ad.add (i.toNat * 10)).block, (ad.add (i.toNat * 10)).off + 1 + 7, none⟩ = some (.string x.sub) ∧ w'.cell? ⟨(ad.add (i.toNat * 10)).block, (ad.add (i.toNat * 10)).off + 1 + 8, none⟩ = some (.string x.target)) (first | assumption | (exact cells0_keep (below_drew1 (Below.refl _ _)) (by assumption)) | (exact cells0_keep (below_alloc (Below.refl _ _) _) (by assumption)) | (exact cells0_keep (below_alloc (below_drew1 (Below.refl _ _)) _) (by assumption))) (first | ((rw [alloc_drewR]); refine Kd.R_append_step kF (w0 := w) (W := _) w.heap.size ?hw (.tmp 70) (.tmp 82) 25 50 (.agg #[.string ⟨#[]⟩, .string ⟨#[]⟩, .int .i64 0, .int .i64 0, .int .i64 0, .int .i64 0, .int .i64 0, .slice none 0 0, .string ⟨#[]⟩, .string ⟨#[]⟩]) 128 ?ho Tryd.underlying25 info50 rfl (by decide) (by omega) u5 o x [.string x.p, .string x.name, .int .i64 x.kind, .int .i64 x.mode, .int .i64 x.mtime, .int .i64 x.ctime, .int .i64 x.size, .slice x.A x.n x.c, .string x.sub, .string x.target] (fun _ => True) (fun _ => False) ?hs ?hx ?aP (fun _ hk => hk.elim) (fun _ _ => trivial) ?aO ?aB ?aS ?aL ?_; (case hw => kernel_rfl); (case ho => rfl); (case hs => rfl); (case hx => rfl); (case aP => rfl); (case aB => exact below_drew1 HB9.out); (case aO => exact Kd.R_drew HF9.out); (case aS => exact HB9.out.size); (case aL => have := HOL.out; omega); intro v10 w10 ho hb hg hat; have HO10 := Aside0.mk ho; have HB10 := Aside0.mk hb; have HF10 := Aside0.mk (Kd.R_grown2 (Kd.R_drew HO9.out) rfl hg (fun k hk he => two_apart HO9.out HF9.out k he.symm hk.symm)); have hin10 := cells0_keep hb HCX.out; clear ho hb hg hat))
                go_wp2_with (fail)
                go_roundw
                case rel => exact ⟨i + 1, o ++ [x], by first | rfl | (go_num; done), ⟨by omega⟩, HF10, HO10, HG9, HB10⟩
                case measure => (simp [intOf]; omega)
          · have c4b : decide ((x.n : Int) > 50) = true := decide_eq_true (by omega)
            have c4c : decide (50 < (x.n : Int)) = true := decide_eq_true (by omega)
            go_wp2_with (fail)
            go_quiet (fail)
            go_wp2_with (fail)
            go_roundw
            case rel => exact ⟨i + 1, o, by first | rfl | (go_num; done), ⟨by omega⟩, ⟨Kd.R_drewN HO.out _⟩, ⟨Kd.R_drewN HO5.out _⟩, HG, ⟨pw_below_drewN HBW.out _⟩⟩
            case measure => (simp [intOf]; omega)
        · have c3b : decide ((x.p.size : Int) > 300) = true := decide_eq_true (by omega)
          have c3c : decide (300 < (x.p.size : Int)) = true := decide_eq_true (by omega)
          have c0' := hin.1
          go_wp2_with (fail)
          go_quiet (fail)
          go_wp2_with (fail)
          go_roundw
          case rel => exact ⟨i + 1, o, by first | rfl | (go_num; done), ⟨by omega⟩, ⟨Kd.R_drewN HO.out _⟩, ⟨Kd.R_drewN HO5.out _⟩, HG, ⟨pw_below_drewN HBW.out _⟩⟩
          case measure => (simp [intOf]; omega)
      · have c2b : decide ((o.length : Int) < 30) = false := decide_eq_false (by omega)
        go_wp2_with (fail)
        go_ret2
        exact ⟨_, _, o, rfl, HO.out, HG.out, HBW.out⟩
    · have c1b : decide (i < (l.length : Int)) = false := decide_eq_false c1
      go_wp2_with (fail)
      go_ret2
      exact ⟨_, ⟨_, rfl⟩, o, HO.out, HG.out, HBW.out⟩
end Go.Proofs.YtkbofkpkemfedaaDoor.Q
