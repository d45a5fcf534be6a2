/- diff.Trees at any two lists: walked. -/
import Derived.Test.YtkbofkpkemfedaaDoorHKind
import Derived.Test.YtkbofkpkemfedaaDoorHTrees
import Derived.Outline
import Derived.Deep.DeepMust
namespace Go.Proofs.YtkbofkpkemfedaaDoor.Q
open Go.RowKit Go.Proofs.YtkbofkpkemfedaaDoorW.PrintWords Go.Proofs.YtkbofkpkemfedaaDoorW.PrintLast Go.Proofs.YtkbofkpkemfedaaDoorW.PrintMore
attribute [local go_sem] max2_int min2_int max_two min_two max_three min_three max_four min_four
/-- The ten cells of what is found. -/
def encF (x : F) : List Value := [.string x.p, .string x.name, .int .i64 x.kind, .int .i64 x.mode, .int .i64 x.mtime, .int .i64 x.ctime, .int .i64 x.size, .slice x.A x.n x.c, .string x.sub, .string x.target]
/-- A row of what was found, in a block of its own. -/
def RowF (w : World) (A : Option Addr) (l : List F) : Prop := l = [] ∨ ∃ g, A = some ⟨g, 0, none⟩ ∧ ∀ (i : Nat) (x : F), l[i]? = some x → ∀ (j : Nat) (v : Value), (encF x)[j]? = some v → w.cell? ⟨g, i * 10 + j, none⟩ = some v
theorem RowF.below {w w' : World} {A : Option Addr} {l : List F} (h : RowF w A l) (hb : Below w.heap.size w w') : RowF w' A l := by
  rcases h with h | ⟨g, hA, h⟩
  · exact .inl h
  · exact .inr ⟨g, hA, fun i x hi j v hv => (hb.cell (World.block_lt_of_cell? w _ (h i x hi j v hv))).trans (h i x hi j v hv)⟩
/-- What stands of a list behind i. -/
def treesL : Nat → List F → List F → List S32
  | 0, _, _ => []
  | _ + 1, [], [] => []
  | n + 1, x :: a, [] => ⟨x.p, 2⟩ :: treesL n a []
  | n + 1, [], y :: b => ⟨y.p, 1⟩ :: treesL n [] b
  | n + 1, x :: a, y :: b => if lessP x.p y.p = true then ⟨x.p, 2⟩ :: treesL n a (y :: b) else if lessP y.p x.p = true then ⟨y.p, 1⟩ :: treesL n (x :: a) b else
      if kindV x y > 0 then ⟨x.p, kindV x y⟩ :: treesL n a b else treesL n a b
theorem treesL_len : ∀ (n : Nat) (a b : List F), (treesL n a b).length ≤ n
  | 0, _, _ => by simp [treesL]
  | n + 1, [], [] => by simp [treesL]
  | n + 1, x :: a, [] => by simp only [treesL, List.length_cons]; have := treesL_len n a []; omega
  | n + 1, [], y :: b => by simp only [treesL, List.length_cons]; have := treesL_len n [] b; omega
  | n + 1, x :: a, y :: b => by
    have h1 := treesL_len n a (y :: b)
    have h2 := treesL_len n (x :: a) b
    have h3 := treesL_len n a b
    simp only [treesL]
    split
    · simp only [List.length_cons]; omega
    · split
      · simp only [List.length_cons]; omega
      · split
        · simp only [List.length_cons]; omega
        · omega
theorem cells_keep {W W' : World} (hb : Below W.heap.size W W') {a : Addr} {v : Value} (h : W.cell? a = some v) : W'.cell? a = some v := (hb.cell (World.block_lt_of_cell? W _ h)).trans h
theorem treesL_fuel : ∀ (n m : Nat) (a b : List F), a.length + b.length ≤ n → a.length + b.length ≤ m → treesL n a b = treesL m a b
  | 0, 0, _, _, _, _ => rfl
  | 0, _ + 1, [], [], _, _ => rfl
  | _ + 1, 0, [], [], _, _ => rfl
  | 0, _ + 1, [], _ :: _, h, _ => absurd h (by simp)
  | 0, _ + 1, _ :: _, _, h, _ => absurd h (by simp)
  | _ + 1, 0, [], _ :: _, _, h => absurd h (by simp)
  | _ + 1, 0, _ :: _, _, _, h => absurd h (by simp)
  | n + 1, m + 1, [], [], _, _ => rfl
  | n + 1, m + 1, x :: a, [], h, h' => by
    simp only [List.length_cons, List.length_nil] at h h'
    simp only [treesL]
    rw [treesL_fuel n m a [] (by simp; omega) (by simp; omega)]
  | n + 1, m + 1, [], y :: b, h, h' => by
    simp only [List.length_cons, List.length_nil] at h h'
    simp only [treesL]
    rw [treesL_fuel n m [] b (by simp; omega) (by simp; omega)]
  | n + 1, m + 1, x :: a, y :: b, h, h' => by
    simp only [List.length_cons] at h h'
    simp only [treesL]
    rw [treesL_fuel n m a (y :: b) (by simp; omega) (by simp; omega), treesL_fuel n m (x :: a) b (by simp; omega) (by simp; omega), treesL_fuel n m a b (by omega) (by omega)]
theorem treesL_step {a b : List F} {i k : Nat} {T : List S32} {o : List S32} (h : o ++ treesL (a.length - (i + 1) + (b.length - k)) (a.drop (i + 1)) (b.drop (k + 1)) = T) :
    o ++ treesL (a.length - (i + 1) + (b.length - (k + 1))) (a.drop (i + 1)) (b.drop (k + 1)) = T := by
  rw [treesL_fuel _ (a.length - (i + 1) + (b.length - k)) _ _ (by simp) (by simp; omega)]
  exact h
theorem p2_of {x y : F} {wr : World} {ga gb : Nat} {i k : Int} (h : wr.cell? ⟨ga, i.toNat * 10, none⟩ = some (.string x.p) ∧ wr.cell? ⟨gb, k.toNat * 10, none⟩ = some (.string y.p)) : wr.cell? ⟨ga, i.toNat * 10, none⟩ = some (.string x.p) ∧ wr.cell? ⟨gb, k.toNat * 10, none⟩ = some (.string y.p) ∧ Below wr.heap.size wr wr := ⟨h.1, h.2, Below.refl _ _⟩
theorem p2_keep {x y : F} {wr W w' : World} {ga gb : Nat} {i k : Int} (hb : Below W.heap.size W w') (h : W.cell? ⟨ga, i.toNat * 10, none⟩ = some (.string x.p) ∧ W.cell? ⟨gb, k.toNat * 10, none⟩ = some (.string y.p) ∧ Below wr.heap.size wr W) : w'.cell? ⟨ga, i.toNat * 10, none⟩ = some (.string x.p) ∧ w'.cell? ⟨gb, k.toNat * 10, none⟩ = some (.string y.p) ∧ Below wr.heap.size wr w' := by
  obtain ⟨c0, c1, h1⟩ := h
  exact ⟨cells_keep hb c0, cells_keep hb c1, below_step h1 hb⟩
theorem p2_drew {x y : F} {wr W : World} {ga gb : Nat} {i k : Int} (h : W.cell? ⟨ga, i.toNat * 10, none⟩ = some (.string x.p) ∧ W.cell? ⟨gb, k.toNat * 10, none⟩ = some (.string y.p) ∧ Below wr.heap.size wr W) : W.drew.cell? ⟨ga, i.toNat * 10, none⟩ = some (.string x.p) ∧ W.drew.cell? ⟨gb, k.toNat * 10, none⟩ = some (.string y.p) ∧ Below wr.heap.size wr W.drew := p2_keep (below_drew1 (Below.refl _ _)) h
theorem p2_end {x y : F} {wr W : World} {ga gb : Nat} {i k : Int} (h : W.cell? ⟨ga, i.toNat * 10, none⟩ = some (.string x.p) ∧ W.cell? ⟨gb, k.toNat * 10, none⟩ = some (.string y.p) ∧ Below wr.heap.size wr W) : Below wr.heap.size wr W := by
  obtain ⟨_, _, h1⟩ := h
  exact h1
theorem n2_of {x y : F} {wr : World} {ga gb : Nat} {i k : Int} (h : wr.cell? ⟨ga, i.toNat * 10 + 1, none⟩ = some (.string x.name) ∧ wr.cell? ⟨ga, i.toNat * 10 + 1 + 1, none⟩ = some (.int .i64 x.kind) ∧ wr.cell? ⟨ga, i.toNat * 10 + 1 + 2, none⟩ = some (.int .i64 x.mode) ∧ wr.cell? ⟨ga, i.toNat * 10 + 1 + 3, none⟩ = some (.int .i64 x.mtime) ∧ wr.cell? ⟨ga, i.toNat * 10 + 1 + 4, none⟩ = some (.int .i64 x.ctime) ∧ wr.cell? ⟨ga, i.toNat * 10 + 1 + 5, none⟩ = some (.int .i64 x.size) ∧ wr.cell? ⟨ga, i.toNat * 10 + 1 + 6, none⟩ = some (.slice x.A x.n x.c) ∧ wr.cell? ⟨ga, i.toNat * 10 + 1 + 7, none⟩ = some (.string x.sub) ∧ wr.cell? ⟨ga, i.toNat * 10 + 1 + 8, none⟩ = some (.string x.target) ∧ wr.cell? ⟨gb, k.toNat * 10 + 1, none⟩ = some (.string y.name) ∧ wr.cell? ⟨gb, k.toNat * 10 + 1 + 1, none⟩ = some (.int .i64 y.kind) ∧ wr.cell? ⟨gb, k.toNat * 10 + 1 + 2, none⟩ = some (.int .i64 y.mode) ∧ wr.cell? ⟨gb, k.toNat * 10 + 1 + 3, none⟩ = some (.int .i64 y.mtime) ∧ wr.cell? ⟨gb, k.toNat * 10 + 1 + 4, none⟩ = some (.int .i64 y.ctime) ∧ wr.cell? ⟨gb, k.toNat * 10 + 1 + 5, none⟩ = some (.int .i64 y.size) ∧ wr.cell? ⟨gb, k.toNat * 10 + 1 + 6, none⟩ = some (.slice y.A y.n y.c) ∧ wr.cell? ⟨gb, k.toNat * 10 + 1 + 7, none⟩ = some (.string y.sub) ∧ wr.cell? ⟨gb, k.toNat * 10 + 1 + 8, none⟩ = some (.string y.target)) : wr.cell? ⟨ga, i.toNat * 10 + 1, none⟩ = some (.string x.name) ∧ wr.cell? ⟨ga, i.toNat * 10 + 1 + 1, none⟩ = some (.int .i64 x.kind) ∧ wr.cell? ⟨ga, i.toNat * 10 + 1 + 2, none⟩ = some (.int .i64 x.mode) ∧ wr.cell? ⟨ga, i.toNat * 10 + 1 + 3, none⟩ = some (.int .i64 x.mtime) ∧ wr.cell? ⟨ga, i.toNat * 10 + 1 + 4, none⟩ = some (.int .i64 x.ctime) ∧ wr.cell? ⟨ga, i.toNat * 10 + 1 + 5, none⟩ = some (.int .i64 x.size) ∧ wr.cell? ⟨ga, i.toNat * 10 + 1 + 6, none⟩ = some (.slice x.A x.n x.c) ∧ wr.cell? ⟨ga, i.toNat * 10 + 1 + 7, none⟩ = some (.string x.sub) ∧ wr.cell? ⟨ga, i.toNat * 10 + 1 + 8, none⟩ = some (.string x.target) ∧ wr.cell? ⟨gb, k.toNat * 10 + 1, none⟩ = some (.string y.name) ∧ wr.cell? ⟨gb, k.toNat * 10 + 1 + 1, none⟩ = some (.int .i64 y.kind) ∧ wr.cell? ⟨gb, k.toNat * 10 + 1 + 2, none⟩ = some (.int .i64 y.mode) ∧ wr.cell? ⟨gb, k.toNat * 10 + 1 + 3, none⟩ = some (.int .i64 y.mtime) ∧ wr.cell? ⟨gb, k.toNat * 10 + 1 + 4, none⟩ = some (.int .i64 y.ctime) ∧ wr.cell? ⟨gb, k.toNat * 10 + 1 + 5, none⟩ = some (.int .i64 y.size) ∧ wr.cell? ⟨gb, k.toNat * 10 + 1 + 6, none⟩ = some (.slice y.A y.n y.c) ∧ wr.cell? ⟨gb, k.toNat * 10 + 1 + 7, none⟩ = some (.string y.sub) ∧ wr.cell? ⟨gb, k.toNat * 10 + 1 + 8, none⟩ = some (.string y.target) ∧ Below wr.heap.size wr wr := ⟨h.1, h.2.1, h.2.2.1, h.2.2.2.1, h.2.2.2.2.1, h.2.2.2.2.2.1, h.2.2.2.2.2.2.1, h.2.2.2.2.2.2.2.1, h.2.2.2.2.2.2.2.2.1, h.2.2.2.2.2.2.2.2.2.1, h.2.2.2.2.2.2.2.2.2.2.1, h.2.2.2.2.2.2.2.2.2.2.2.1, h.2.2.2.2.2.2.2.2.2.2.2.2.1, h.2.2.2.2.2.2.2.2.2.2.2.2.2.1, h.2.2.2.2.2.2.2.2.2.2.2.2.2.2.1, h.2.2.2.2.2.2.2.2.2.2.2.2.2.2.2.1, h.2.2.2.2.2.2.2.2.2.2.2.2.2.2.2.2.1, h.2.2.2.2.2.2.2.2.2.2.2.2.2.2.2.2.2, Below.refl _ _⟩
theorem n2_keep {x y : F} {wr W w' : World} {ga gb : Nat} {i k : Int} (hb : Below W.heap.size W w') (h : W.cell? ⟨ga, i.toNat * 10 + 1, none⟩ = some (.string x.name) ∧ W.cell? ⟨ga, i.toNat * 10 + 1 + 1, none⟩ = some (.int .i64 x.kind) ∧ W.cell? ⟨ga, i.toNat * 10 + 1 + 2, none⟩ = some (.int .i64 x.mode) ∧ W.cell? ⟨ga, i.toNat * 10 + 1 + 3, none⟩ = some (.int .i64 x.mtime) ∧ W.cell? ⟨ga, i.toNat * 10 + 1 + 4, none⟩ = some (.int .i64 x.ctime) ∧ W.cell? ⟨ga, i.toNat * 10 + 1 + 5, none⟩ = some (.int .i64 x.size) ∧ W.cell? ⟨ga, i.toNat * 10 + 1 + 6, none⟩ = some (.slice x.A x.n x.c) ∧ W.cell? ⟨ga, i.toNat * 10 + 1 + 7, none⟩ = some (.string x.sub) ∧ W.cell? ⟨ga, i.toNat * 10 + 1 + 8, none⟩ = some (.string x.target) ∧ W.cell? ⟨gb, k.toNat * 10 + 1, none⟩ = some (.string y.name) ∧ W.cell? ⟨gb, k.toNat * 10 + 1 + 1, none⟩ = some (.int .i64 y.kind) ∧ W.cell? ⟨gb, k.toNat * 10 + 1 + 2, none⟩ = some (.int .i64 y.mode) ∧ W.cell? ⟨gb, k.toNat * 10 + 1 + 3, none⟩ = some (.int .i64 y.mtime) ∧ W.cell? ⟨gb, k.toNat * 10 + 1 + 4, none⟩ = some (.int .i64 y.ctime) ∧ W.cell? ⟨gb, k.toNat * 10 + 1 + 5, none⟩ = some (.int .i64 y.size) ∧ W.cell? ⟨gb, k.toNat * 10 + 1 + 6, none⟩ = some (.slice y.A y.n y.c) ∧ W.cell? ⟨gb, k.toNat * 10 + 1 + 7, none⟩ = some (.string y.sub) ∧ W.cell? ⟨gb, k.toNat * 10 + 1 + 8, none⟩ = some (.string y.target) ∧ Below wr.heap.size wr W) : w'.cell? ⟨ga, i.toNat * 10 + 1, none⟩ = some (.string x.name) ∧ w'.cell? ⟨ga, i.toNat * 10 + 1 + 1, none⟩ = some (.int .i64 x.kind) ∧ w'.cell? ⟨ga, i.toNat * 10 + 1 + 2, none⟩ = some (.int .i64 x.mode) ∧ w'.cell? ⟨ga, i.toNat * 10 + 1 + 3, none⟩ = some (.int .i64 x.mtime) ∧ w'.cell? ⟨ga, i.toNat * 10 + 1 + 4, none⟩ = some (.int .i64 x.ctime) ∧ w'.cell? ⟨ga, i.toNat * 10 + 1 + 5, none⟩ = some (.int .i64 x.size) ∧ w'.cell? ⟨ga, i.toNat * 10 + 1 + 6, none⟩ = some (.slice x.A x.n x.c) ∧ w'.cell? ⟨ga, i.toNat * 10 + 1 + 7, none⟩ = some (.string x.sub) ∧ w'.cell? ⟨ga, i.toNat * 10 + 1 + 8, none⟩ = some (.string x.target) ∧ w'.cell? ⟨gb, k.toNat * 10 + 1, none⟩ = some (.string y.name) ∧ w'.cell? ⟨gb, k.toNat * 10 + 1 + 1, none⟩ = some (.int .i64 y.kind) ∧ w'.cell? ⟨gb, k.toNat * 10 + 1 + 2, none⟩ = some (.int .i64 y.mode) ∧ w'.cell? ⟨gb, k.toNat * 10 + 1 + 3, none⟩ = some (.int .i64 y.mtime) ∧ w'.cell? ⟨gb, k.toNat * 10 + 1 + 4, none⟩ = some (.int .i64 y.ctime) ∧ w'.cell? ⟨gb, k.toNat * 10 + 1 + 5, none⟩ = some (.int .i64 y.size) ∧ w'.cell? ⟨gb, k.toNat * 10 + 1 + 6, none⟩ = some (.slice y.A y.n y.c) ∧ w'.cell? ⟨gb, k.toNat * 10 + 1 + 7, none⟩ = some (.string y.sub) ∧ w'.cell? ⟨gb, k.toNat * 10 + 1 + 8, none⟩ = some (.string y.target) ∧ Below wr.heap.size wr w' := by
  obtain ⟨c0, c1, c2, c3, c4, c5, c6, c7, c8, c9, c10, c11, c12, c13, c14, c15, c16, c17, h1⟩ := h
  exact ⟨cells_keep hb c0, cells_keep hb c1, cells_keep hb c2, cells_keep hb c3, cells_keep hb c4, cells_keep hb c5, cells_keep hb c6, cells_keep hb c7, cells_keep hb c8, cells_keep hb c9, cells_keep hb c10, cells_keep hb c11, cells_keep hb c12, cells_keep hb c13, cells_keep hb c14, cells_keep hb c15, cells_keep hb c16, cells_keep hb c17, below_step h1 hb⟩
theorem n2_drew {x y : F} {wr W : World} {ga gb : Nat} {i k : Int} (h : W.cell? ⟨ga, i.toNat * 10 + 1, none⟩ = some (.string x.name) ∧ W.cell? ⟨ga, i.toNat * 10 + 1 + 1, none⟩ = some (.int .i64 x.kind) ∧ W.cell? ⟨ga, i.toNat * 10 + 1 + 2, none⟩ = some (.int .i64 x.mode) ∧ W.cell? ⟨ga, i.toNat * 10 + 1 + 3, none⟩ = some (.int .i64 x.mtime) ∧ W.cell? ⟨ga, i.toNat * 10 + 1 + 4, none⟩ = some (.int .i64 x.ctime) ∧ W.cell? ⟨ga, i.toNat * 10 + 1 + 5, none⟩ = some (.int .i64 x.size) ∧ W.cell? ⟨ga, i.toNat * 10 + 1 + 6, none⟩ = some (.slice x.A x.n x.c) ∧ W.cell? ⟨ga, i.toNat * 10 + 1 + 7, none⟩ = some (.string x.sub) ∧ W.cell? ⟨ga, i.toNat * 10 + 1 + 8, none⟩ = some (.string x.target) ∧ W.cell? ⟨gb, k.toNat * 10 + 1, none⟩ = some (.string y.name) ∧ W.cell? ⟨gb, k.toNat * 10 + 1 + 1, none⟩ = some (.int .i64 y.kind) ∧ W.cell? ⟨gb, k.toNat * 10 + 1 + 2, none⟩ = some (.int .i64 y.mode) ∧ W.cell? ⟨gb, k.toNat * 10 + 1 + 3, none⟩ = some (.int .i64 y.mtime) ∧ W.cell? ⟨gb, k.toNat * 10 + 1 + 4, none⟩ = some (.int .i64 y.ctime) ∧ W.cell? ⟨gb, k.toNat * 10 + 1 + 5, none⟩ = some (.int .i64 y.size) ∧ W.cell? ⟨gb, k.toNat * 10 + 1 + 6, none⟩ = some (.slice y.A y.n y.c) ∧ W.cell? ⟨gb, k.toNat * 10 + 1 + 7, none⟩ = some (.string y.sub) ∧ W.cell? ⟨gb, k.toNat * 10 + 1 + 8, none⟩ = some (.string y.target) ∧ Below wr.heap.size wr W) : W.drew.cell? ⟨ga, i.toNat * 10 + 1, none⟩ = some (.string x.name) ∧ W.drew.cell? ⟨ga, i.toNat * 10 + 1 + 1, none⟩ = some (.int .i64 x.kind) ∧ W.drew.cell? ⟨ga, i.toNat * 10 + 1 + 2, none⟩ = some (.int .i64 x.mode) ∧ W.drew.cell? ⟨ga, i.toNat * 10 + 1 + 3, none⟩ = some (.int .i64 x.mtime) ∧ W.drew.cell? ⟨ga, i.toNat * 10 + 1 + 4, none⟩ = some (.int .i64 x.ctime) ∧ W.drew.cell? ⟨ga, i.toNat * 10 + 1 + 5, none⟩ = some (.int .i64 x.size) ∧ W.drew.cell? ⟨ga, i.toNat * 10 + 1 + 6, none⟩ = some (.slice x.A x.n x.c) ∧ W.drew.cell? ⟨ga, i.toNat * 10 + 1 + 7, none⟩ = some (.string x.sub) ∧ W.drew.cell? ⟨ga, i.toNat * 10 + 1 + 8, none⟩ = some (.string x.target) ∧ W.drew.cell? ⟨gb, k.toNat * 10 + 1, none⟩ = some (.string y.name) ∧ W.drew.cell? ⟨gb, k.toNat * 10 + 1 + 1, none⟩ = some (.int .i64 y.kind) ∧ W.drew.cell? ⟨gb, k.toNat * 10 + 1 + 2, none⟩ = some (.int .i64 y.mode) ∧ W.drew.cell? ⟨gb, k.toNat * 10 + 1 + 3, none⟩ = some (.int .i64 y.mtime) ∧ W.drew.cell? ⟨gb, k.toNat * 10 + 1 + 4, none⟩ = some (.int .i64 y.ctime) ∧ W.drew.cell? ⟨gb, k.toNat * 10 + 1 + 5, none⟩ = some (.int .i64 y.size) ∧ W.drew.cell? ⟨gb, k.toNat * 10 + 1 + 6, none⟩ = some (.slice y.A y.n y.c) ∧ W.drew.cell? ⟨gb, k.toNat * 10 + 1 + 7, none⟩ = some (.string y.sub) ∧ W.drew.cell? ⟨gb, k.toNat * 10 + 1 + 8, none⟩ = some (.string y.target) ∧ Below wr.heap.size wr W.drew := n2_keep (below_drew1 (Below.refl _ _)) h
theorem n2_end {x y : F} {wr W : World} {ga gb : Nat} {i k : Int} (h : W.cell? ⟨ga, i.toNat * 10 + 1, none⟩ = some (.string x.name) ∧ W.cell? ⟨ga, i.toNat * 10 + 1 + 1, none⟩ = some (.int .i64 x.kind) ∧ W.cell? ⟨ga, i.toNat * 10 + 1 + 2, none⟩ = some (.int .i64 x.mode) ∧ W.cell? ⟨ga, i.toNat * 10 + 1 + 3, none⟩ = some (.int .i64 x.mtime) ∧ W.cell? ⟨ga, i.toNat * 10 + 1 + 4, none⟩ = some (.int .i64 x.ctime) ∧ W.cell? ⟨ga, i.toNat * 10 + 1 + 5, none⟩ = some (.int .i64 x.size) ∧ W.cell? ⟨ga, i.toNat * 10 + 1 + 6, none⟩ = some (.slice x.A x.n x.c) ∧ W.cell? ⟨ga, i.toNat * 10 + 1 + 7, none⟩ = some (.string x.sub) ∧ W.cell? ⟨ga, i.toNat * 10 + 1 + 8, none⟩ = some (.string x.target) ∧ W.cell? ⟨gb, k.toNat * 10 + 1, none⟩ = some (.string y.name) ∧ W.cell? ⟨gb, k.toNat * 10 + 1 + 1, none⟩ = some (.int .i64 y.kind) ∧ W.cell? ⟨gb, k.toNat * 10 + 1 + 2, none⟩ = some (.int .i64 y.mode) ∧ W.cell? ⟨gb, k.toNat * 10 + 1 + 3, none⟩ = some (.int .i64 y.mtime) ∧ W.cell? ⟨gb, k.toNat * 10 + 1 + 4, none⟩ = some (.int .i64 y.ctime) ∧ W.cell? ⟨gb, k.toNat * 10 + 1 + 5, none⟩ = some (.int .i64 y.size) ∧ W.cell? ⟨gb, k.toNat * 10 + 1 + 6, none⟩ = some (.slice y.A y.n y.c) ∧ W.cell? ⟨gb, k.toNat * 10 + 1 + 7, none⟩ = some (.string y.sub) ∧ W.cell? ⟨gb, k.toNat * 10 + 1 + 8, none⟩ = some (.string y.target) ∧ Below wr.heap.size wr W) : Below wr.heap.size wr W := by
  obtain ⟨_, _, _, _, _, _, _, _, _, _, _, _, _, _, _, _, _, _, h1⟩ := h
  exact h1
set_option maxHeartbeats 8000000 in
set_option maxRecDepth 100000 in
theorem trees_any (A0 : Option Addr) (c0 : Nat) (a : List F) (A1 : Option Addr) (c1 : Nat) (b : List F) (w : World) (hr0 : RowF w A0 a) (hr1 : RowF w A1 b)
    (hd0 : ∀ x ∈ a, Rd w x ∧ x.p.size ≤ 300 ∧ x.n ≤ 1000) (hd1 : ∀ x ∈ b, Rd w x ∧ x.p.size ≤ 300 ∧ x.n ≤ 1000) (hl0 : a.length ≤ 100) (hl1 : b.length ≤ 100) :
    Calls Tryd.prog 7 #[.slice A0 a.length c0, .slice A1 b.length c1] w fun e w' => ∃ v0_ : Value, e = .returned v0_ ∧ Kd.R k32 32 w' w.heap.size (fun _ => True) v0_ (treesL (a.length + b.length) a b) ∧ Below w.heap.size w w' := by
  have HR0 := Aside0.mk hr0
  have HR1 := Aside0.mk hr1
  have HD0 := Aside0.mk hd0
  have HD1 := Aside0.mk hd1
  have HL0 := Aside0.mk hl0
  have HL1 := Aside0.mk hl1
  clear hr0 hr1 hd0 hd1 hl0 hl1
  have hlen := treesL_len (a.length + b.length) a b
  generalize hT : treesL (a.length + b.length) a b = T at hlen ⊢
  have HT := Aside0.mk hT
  have HTL := Aside0.mk hlen
  clear hT hlen
  have HB := Aside0.mk (Below.refl w.heap.size w)
  go_enter Tryd.func7, Tryd.ntmps7
  go_wp2_with (fail)
  go_step3
  go_wp2_with (fail)
  go_step3
  go_wp2_with (fail)
  go_loopw [5, 6, 7] (fun v5 v6 v7 w' => ∃ (i k : Int) (o : List S32), v6 = .int .i64 i ∧ v7 = .int .i64 k ∧ Aside0 (0 ≤ i ∧ i ≤ a.length ∧ 0 ≤ k ∧ k ≤ b.length ∧ o ++ treesL ((a.length - i.toNat) + (b.length - k.toNat)) (a.drop i.toNat) (b.drop k.toNat) = T) ∧ Aside0 (Kd.R k32 32 w' w.heap.size (fun _ => True) v5 o) ∧ Aside0 (Below w.heap.size w w')) (fun _ v6 v7 _ => (a.length - (intOf v6).toNat) + (b.length - (intOf v7).toNat) + 1)
  case atStart => exact ⟨0, 0, [], rfl, rfl, ⟨by omega, by omega, by omega, by omega, HT.out⟩, ⟨Kd.R_nil k32 32 w w.heap.size _⟩, HB⟩
  case round =>
    clear HT HB
    obtain ⟨i, k, o, rfl, rfl, HX, HO, HBW⟩ := hrel
    obtain ⟨hi0, hi1, hk0, hk1, hr⟩ := HX.out
    have hl0 := HL0.out
    have hl1 := HL1.out
    have hol : o.length ≤ a.length + b.length := by
      have h := congrArg List.length hr
      rw [List.length_append] at h
      have := HTL.out
      omega
    have HOL := Aside0.mk hol
    clear hol
    have q1 := eq_true hi0
    have q2 := eq_true hk0
    by_cases ca : i < (a.length : Int)
    · have hla : i.toNat < a.length := by omega
      obtain ⟨x, hx⟩ : ∃ x, a[i.toNat]? = some x := ⟨a[i.toNat], List.getElem?_eq_getElem hla⟩
      have hda : a.drop i.toNat = x :: a.drop (i.toNat + 1) := by
        rw [List.drop_eq_getElem_cons hla]
        rw [List.getElem?_eq_getElem hla] at hx
        rw [Option.some.inj hx]
      have hxm : x ∈ a := List.mem_of_getElem? hx
      rcases HR0.out with h | ⟨ga, rfl, hcA⟩
      · subst h; simp at hla
      have ca1 : (i == (a.length : Int)) = false := beq_eq_false_iff_ne.mpr (by omega)
      have ca2 : decide (i < (a.length : Int)) = true := decide_eq_true ca
      have q3 := eq_true ca
      have HRX := Aside0.mk ((HD0.out x hxm).1.below HBW.out)
      have HPX := Aside0.mk (HD0.out x hxm).2
      have HCX : Aside0 (∀ j v, (encF x)[j]? = some v → wr.cell? ⟨ga, i.toNat * 10 + j, none⟩ = some v) := ⟨fun j v hv => cells_keep HBW.out (hcA i.toNat x hx j v hv)⟩
      by_cases cb : k < (b.length : Int)
      · have hlb : k.toNat < b.length := by omega
        obtain ⟨y, hy⟩ : ∃ y, b[k.toNat]? = some y := ⟨b[k.toNat], List.getElem?_eq_getElem hlb⟩
        have hdb : b.drop k.toNat = y :: b.drop (k.toNat + 1) := by
          rw [List.drop_eq_getElem_cons hlb]
          rw [List.getElem?_eq_getElem hlb] at hy
          rw [Option.some.inj hy]
        have hym : y ∈ b := List.mem_of_getElem? hy
        rcases HR1.out with h | ⟨gb, rfl, hcB⟩
        · subst h; simp at hlb
        have cb1 : (k == (b.length : Int)) = false := beq_eq_false_iff_ne.mpr (by omega)
        have q4 := eq_true cb
        have HRY := Aside0.mk ((HD1.out y hym).1.below HBW.out)
        have HPY := Aside0.mk (HD1.out y hym).2
        have HCY : Aside0 (∀ j v, (encF y)[j]? = some v → wr.cell? ⟨gb, k.toNat * 10 + j, none⟩ = some v) := ⟨fun j v hv => cells_keep HBW.out (hcB k.toNat y hy j v hv)⟩
        rw [hda, hdb, show (a.length - i.toNat) + (b.length - k.toNat) = (a.length - (i.toNat + 1) + (b.length - k.toNat)) + 1 from by omega, treesL] at hr
        have hxp : wr.cell? ⟨ga, i.toNat * 10, none⟩ = some (.string x.p) := HCX.out 0 _ rfl
        have hyp : wr.cell? ⟨gb, k.toNat * 10, none⟩ = some (.string y.p) := HCY.out 0 _ rfl
        have hst := p2_of (x := x) (y := y) (wr := wr) (ga := ga) (gb := gb) (i := i) (k := k) ⟨hxp, hyp⟩
        have HLX := fun W => less_any x.p y.p HPX.out.1 HPY.out.1 W
        have HLY := fun W => less_any y.p x.p HPY.out.1 HPX.out.1 W
        have HKV := fun W (hW : Below wr.heap.size wr W) => kind_any x y W (HRX.out.below hW) (HRY.out.below hW) HPX.out.2
        clear hx hy hxm hym hcA hcB hla hlb
        generalize hL1 : lessP x.p y.p = L1 at hr HLX
        generalize hL2 : lessP y.p x.p = L2 at hr HLY
        clear hL1 hL2
        cases L1
        · rw [if_neg (by decide)] at hr
          cases L2
          · rw [if_neg (by decide)] at hr
            generalize hK : kindV x y = KV at hr HKV
            clear hK
            have HN2 : Aside0 (wr.cell? ⟨ga, i.toNat * 10 + 1, none⟩ = some (.string x.name) ∧ wr.cell? ⟨ga, i.toNat * 10 + 1 + 1, none⟩ = some (.int .i64 x.kind) ∧ wr.cell? ⟨ga, i.toNat * 10 + 1 + 2, none⟩ = some (.int .i64 x.mode) ∧ wr.cell? ⟨ga, i.toNat * 10 + 1 + 3, none⟩ = some (.int .i64 x.mtime) ∧ wr.cell? ⟨ga, i.toNat * 10 + 1 + 4, none⟩ = some (.int .i64 x.ctime) ∧ wr.cell? ⟨ga, i.toNat * 10 + 1 + 5, none⟩ = some (.int .i64 x.size) ∧ wr.cell? ⟨ga, i.toNat * 10 + 1 + 6, none⟩ = some (.slice x.A x.n x.c) ∧ wr.cell? ⟨ga, i.toNat * 10 + 1 + 7, none⟩ = some (.string x.sub) ∧ wr.cell? ⟨ga, i.toNat * 10 + 1 + 8, none⟩ = some (.string x.target) ∧ wr.cell? ⟨gb, k.toNat * 10 + 1, none⟩ = some (.string y.name) ∧ wr.cell? ⟨gb, k.toNat * 10 + 1 + 1, none⟩ = some (.int .i64 y.kind) ∧ wr.cell? ⟨gb, k.toNat * 10 + 1 + 2, none⟩ = some (.int .i64 y.mode) ∧ wr.cell? ⟨gb, k.toNat * 10 + 1 + 3, none⟩ = some (.int .i64 y.mtime) ∧ wr.cell? ⟨gb, k.toNat * 10 + 1 + 4, none⟩ = some (.int .i64 y.ctime) ∧ wr.cell? ⟨gb, k.toNat * 10 + 1 + 5, none⟩ = some (.int .i64 y.size) ∧ wr.cell? ⟨gb, k.toNat * 10 + 1 + 6, none⟩ = some (.slice y.A y.n y.c) ∧ wr.cell? ⟨gb, k.toNat * 10 + 1 + 7, none⟩ = some (.string y.sub) ∧ wr.cell? ⟨gb, k.toNat * 10 + 1 + 8, none⟩ = some (.string y.target)) := ⟨⟨HCX.out 1 _ rfl, HCX.out 2 _ rfl, HCX.out 3 _ rfl, HCX.out 4 _ rfl, HCX.out 5 _ rfl, HCX.out 6 _ rfl, HCX.out 7 _ rfl, HCX.out 8 _ rfl, HCX.out 9 _ rfl, HCY.out 1 _ rfl, HCY.out 2 _ rfl, HCY.out 3 _ rfl, HCY.out 4 _ rfl, HCY.out 5 _ rfl, HCY.out 6 _ rfl, HCY.out 7 _ rfl, HCY.out 8 _ rfl, HCY.out 9 _ rfl⟩⟩
            by_cases cz : KV > 0
            · rw [if_pos cz] at hr
              have HR := Aside0.mk hr
              have cz1 : decide (KV > 0) = true := decide_eq_true cz
              have cz2 : decide (0 < KV) = true := decide_eq_true cz
              clear hr hda hdb cz
              go_wp2_with (fail)
              go_region_held3 (fun w' => w'.cell? ⟨ga, i.toNat * 10, none⟩ = some (.string x.p) ∧ w'.cell? ⟨gb, k.toNat * 10, none⟩ = some (.string y.p) ∧ Below wr.heap.size wr w') (first | assumption | (exact p2_keep (by assumption) (by assumption)) | (exact p2_drew (by assumption)))
            (first
              | (go_at_call 14; (with_reducible refine (HLX _).mono ?_); rintro _ w' ⟨rfl, hb⟩)
              | (go_at_call 14; (with_reducible refine (HLY _).mono ?_); rintro _ w' ⟨rfl, hb⟩))
              go_wp2_with (fail)
              go_region_held3 (fun w' => w'.cell? ⟨ga, i.toNat * 10, none⟩ = some (.string x.p) ∧ w'.cell? ⟨gb, k.toNat * 10, none⟩ = some (.string y.p) ∧ Below wr.heap.size wr w') (first | assumption | (exact p2_keep (by assumption) (by assumption)) | (exact p2_drew (by assumption)))
            (first
              | (go_at_call 14; (with_reducible refine (HLX _).mono ?_); rintro _ w' ⟨rfl, hb⟩)
              | (go_at_call 14; (with_reducible refine (HLY _).mono ?_); rintro _ w' ⟨rfl, hb⟩))
              go_wp2_with (fail)
              have hst2 := n2_keep (p2_end (by assumption)) (n2_of (wr := wr) HN2.out)
              go_region_held3 (fun w' => w'.cell? ⟨ga, i.toNat * 10 + 1, none⟩ = some (.string x.name) ∧ w'.cell? ⟨ga, i.toNat * 10 + 1 + 1, none⟩ = some (.int .i64 x.kind) ∧ w'.cell? ⟨ga, i.toNat * 10 + 1 + 2, none⟩ = some (.int .i64 x.mode) ∧ w'.cell? ⟨ga, i.toNat * 10 + 1 + 3, none⟩ = some (.int .i64 x.mtime) ∧ w'.cell? ⟨ga, i.toNat * 10 + 1 + 4, none⟩ = some (.int .i64 x.ctime) ∧ w'.cell? ⟨ga, i.toNat * 10 + 1 + 5, none⟩ = some (.int .i64 x.size) ∧ w'.cell? ⟨ga, i.toNat * 10 + 1 + 6, none⟩ = some (.slice x.A x.n x.c) ∧ w'.cell? ⟨ga, i.toNat * 10 + 1 + 7, none⟩ = some (.string x.sub) ∧ w'.cell? ⟨ga, i.toNat * 10 + 1 + 8, none⟩ = some (.string x.target) ∧ w'.cell? ⟨gb, k.toNat * 10 + 1, none⟩ = some (.string y.name) ∧ w'.cell? ⟨gb, k.toNat * 10 + 1 + 1, none⟩ = some (.int .i64 y.kind) ∧ w'.cell? ⟨gb, k.toNat * 10 + 1 + 2, none⟩ = some (.int .i64 y.mode) ∧ w'.cell? ⟨gb, k.toNat * 10 + 1 + 3, none⟩ = some (.int .i64 y.mtime) ∧ w'.cell? ⟨gb, k.toNat * 10 + 1 + 4, none⟩ = some (.int .i64 y.ctime) ∧ w'.cell? ⟨gb, k.toNat * 10 + 1 + 5, none⟩ = some (.int .i64 y.size) ∧ w'.cell? ⟨gb, k.toNat * 10 + 1 + 6, none⟩ = some (.slice y.A y.n y.c) ∧ w'.cell? ⟨gb, k.toNat * 10 + 1 + 7, none⟩ = some (.string y.sub) ∧ w'.cell? ⟨gb, k.toNat * 10 + 1 + 8, none⟩ = some (.string y.target) ∧ Below wr.heap.size wr w') (first | assumption | (exact n2_keep (by assumption) (by assumption)) | (exact n2_drew (by assumption)))
                (first
                  | (go_at_call 15; (with_reducible refine (HKV _ ?_).mono ?_); (exact n2_end (by assumption)); rintro _ w' ⟨rfl, hb⟩))
              have hbe := n2_end (by assumption)
              have hxp' := cells_keep hbe hxp
              have HOE := Aside0.mk (Kd.R_below HO.out hbe)
              have HBE := Aside0.mk (below_step HBW.out hbe)
              clear hbe
              go_wp2_with (first | ((with_reducible refine gate_builtin (b := .append) (xs := #[.tmp 22, .tmp 30]) rfl ?_); at_builtin; refine Kd.R_append k32 (w0 := w) w.heap.size rfl (.tmp 22) (.tmp 30) 29 32 (.agg #[(.string ⟨#[]⟩), (.int .i64 0)]) 24 rfl Tryd.underlying29 info32 rfl (by decide) (by omega) u5 o (⟨x.p, KV⟩ : S32) [.string x.p, .int .i64 KV] (fun _ => True) (fun _ => False) rfl rfl ?aP (fun _ hk => hk.elim) (fun _ _ => trivial) ?aO ?aB ?aS ?aL ?_; (case aP => exact k32_mkM _ _ _ (⟨x.p, KV⟩ : S32)); (case aO => exact HOE.out); (case aB => exact HBE.out); (case aS => exact HBE.out.size); (case aL => have := HOL.out; omega); intro v9 w9 ho hb hg hat; have HO9 := Aside0.mk ho; have HB9 := Aside0.mk hb; clear ho hb hg hat))
              go_roundw
              case rel => exact ⟨i + 1, k + 1, o ++ [⟨x.p, KV⟩], by first | rfl | (go_num; done), by first | rfl | (go_num; done), ⟨by omega, by omega, by omega, by omega, by rw [show (i + 1).toNat = i.toNat + 1 from by omega, show (k + 1).toNat = k.toNat + 1 from by omega]; exact treesL_step (by rw [List.append_assoc]; exact HR.out)⟩, HO9, HB9⟩
              case measure => (simp [intOf]; omega)
            · rw [if_neg cz] at hr
              have HR := Aside0.mk hr
              have cz1 : decide (KV > 0) = false := decide_eq_false cz
              have cz2 : decide (0 < KV) = false := decide_eq_false cz
              clear hr hda hdb cz
              go_wp2_with (fail)
              go_region_held3 (fun w' => w'.cell? ⟨ga, i.toNat * 10, none⟩ = some (.string x.p) ∧ w'.cell? ⟨gb, k.toNat * 10, none⟩ = some (.string y.p) ∧ Below wr.heap.size wr w') (first | assumption | (exact p2_keep (by assumption) (by assumption)) | (exact p2_drew (by assumption)))
            (first
              | (go_at_call 14; (with_reducible refine (HLX _).mono ?_); rintro _ w' ⟨rfl, hb⟩)
              | (go_at_call 14; (with_reducible refine (HLY _).mono ?_); rintro _ w' ⟨rfl, hb⟩))
              go_wp2_with (fail)
              go_region_held3 (fun w' => w'.cell? ⟨ga, i.toNat * 10, none⟩ = some (.string x.p) ∧ w'.cell? ⟨gb, k.toNat * 10, none⟩ = some (.string y.p) ∧ Below wr.heap.size wr w') (first | assumption | (exact p2_keep (by assumption) (by assumption)) | (exact p2_drew (by assumption)))
            (first
              | (go_at_call 14; (with_reducible refine (HLX _).mono ?_); rintro _ w' ⟨rfl, hb⟩)
              | (go_at_call 14; (with_reducible refine (HLY _).mono ?_); rintro _ w' ⟨rfl, hb⟩))
              go_wp2_with (fail)
              have hst2 := n2_keep (p2_end (by assumption)) (n2_of (wr := wr) HN2.out)
              go_region_held3 (fun w' => w'.cell? ⟨ga, i.toNat * 10 + 1, none⟩ = some (.string x.name) ∧ w'.cell? ⟨ga, i.toNat * 10 + 1 + 1, none⟩ = some (.int .i64 x.kind) ∧ w'.cell? ⟨ga, i.toNat * 10 + 1 + 2, none⟩ = some (.int .i64 x.mode) ∧ w'.cell? ⟨ga, i.toNat * 10 + 1 + 3, none⟩ = some (.int .i64 x.mtime) ∧ w'.cell? ⟨ga, i.toNat * 10 + 1 + 4, none⟩ = some (.int .i64 x.ctime) ∧ w'.cell? ⟨ga, i.toNat * 10 + 1 + 5, none⟩ = some (.int .i64 x.size) ∧ w'.cell? ⟨ga, i.toNat * 10 + 1 + 6, none⟩ = some (.slice x.A x.n x.c) ∧ w'.cell? ⟨ga, i.toNat * 10 + 1 + 7, none⟩ = some (.string x.sub) ∧ w'.cell? ⟨ga, i.toNat * 10 + 1 + 8, none⟩ = some (.string x.target) ∧ w'.cell? ⟨gb, k.toNat * 10 + 1, none⟩ = some (.string y.name) ∧ w'.cell? ⟨gb, k.toNat * 10 + 1 + 1, none⟩ = some (.int .i64 y.kind) ∧ w'.cell? ⟨gb, k.toNat * 10 + 1 + 2, none⟩ = some (.int .i64 y.mode) ∧ w'.cell? ⟨gb, k.toNat * 10 + 1 + 3, none⟩ = some (.int .i64 y.mtime) ∧ w'.cell? ⟨gb, k.toNat * 10 + 1 + 4, none⟩ = some (.int .i64 y.ctime) ∧ w'.cell? ⟨gb, k.toNat * 10 + 1 + 5, none⟩ = some (.int .i64 y.size) ∧ w'.cell? ⟨gb, k.toNat * 10 + 1 + 6, none⟩ = some (.slice y.A y.n y.c) ∧ w'.cell? ⟨gb, k.toNat * 10 + 1 + 7, none⟩ = some (.string y.sub) ∧ w'.cell? ⟨gb, k.toNat * 10 + 1 + 8, none⟩ = some (.string y.target) ∧ Below wr.heap.size wr w') (first | assumption | (exact n2_keep (by assumption) (by assumption)) | (exact n2_drew (by assumption)))
                (first
                  | (go_at_call 15; (with_reducible refine (HKV _ ?_).mono ?_); (exact n2_end (by assumption)); rintro _ w' ⟨rfl, hb⟩))
              have hbe := n2_end (by assumption)
              have HOE := Aside0.mk (Kd.R_below HO.out hbe)
              have HBE := Aside0.mk (below_step HBW.out hbe)
              clear hbe
              go_wp2_with (fail)
              go_roundw
              case rel => exact ⟨i + 1, k + 1, o, by first | rfl | (go_num; done), by first | rfl | (go_num; done), ⟨by omega, by omega, by omega, by omega, by rw [show (i + 1).toNat = i.toNat + 1 from by omega, show (k + 1).toNat = k.toNat + 1 from by omega]; exact treesL_step HR.out⟩, HOE, HBE⟩
              case measure => (simp [intOf]; omega)
          · rw [if_pos rfl] at hr
            rw [← hda] at hr
            have HR := Aside0.mk hr
            clear hr hda hdb
            go_wp2_with (fail)
            go_region_held3 (fun w' => w'.cell? ⟨ga, i.toNat * 10, none⟩ = some (.string x.p) ∧ w'.cell? ⟨gb, k.toNat * 10, none⟩ = some (.string y.p) ∧ Below wr.heap.size wr w') (first | assumption | (exact p2_keep (by assumption) (by assumption)) | (exact p2_drew (by assumption)))
            (first
              | (go_at_call 14; (with_reducible refine (HLX _).mono ?_); rintro _ w' ⟨rfl, hb⟩)
              | (go_at_call 14; (with_reducible refine (HLY _).mono ?_); rintro _ w' ⟨rfl, hb⟩))
            go_wp2_with (fail)
            go_region_held3 (fun w' => w'.cell? ⟨ga, i.toNat * 10, none⟩ = some (.string x.p) ∧ w'.cell? ⟨gb, k.toNat * 10, none⟩ = some (.string y.p) ∧ Below wr.heap.size wr w') (first | assumption | (exact p2_keep (by assumption) (by assumption)) | (exact p2_drew (by assumption)))
            (first
              | (go_at_call 14; (with_reducible refine (HLX _).mono ?_); rintro _ w' ⟨rfl, hb⟩)
              | (go_at_call 14; (with_reducible refine (HLY _).mono ?_); rintro _ w' ⟨rfl, hb⟩))
            have hbe := p2_end (by assumption)
            have HOE := Aside0.mk (Kd.R_below HO.out hbe)
            have HBE := Aside0.mk (below_step HBW.out hbe)
            clear hbe
            go_wp2_with (first | ((with_reducible refine gate_builtin (b := .append) (xs := #[.tmp 100, .tmp 107]) rfl ?_); at_builtin; refine Kd.R_append k32 (w0 := w) w.heap.size rfl (.tmp 100) (.tmp 107) 29 32 (.agg #[(.string ⟨#[]⟩), (.int .i64 0)]) 24 rfl Tryd.underlying29 info32 rfl (by decide) (by omega) u5 o (⟨y.p, 1⟩ : S32) [.string y.p, .int .i64 1] (fun _ => True) (fun _ => False) rfl rfl ?aP (fun _ hk => hk.elim) (fun _ _ => trivial) ?aO ?aB ?aS ?aL ?_; (case aP => exact k32_mkM _ _ _ (⟨y.p, 1⟩ : S32)); (case aO => exact HOE.out); (case aB => exact HBE.out); (case aS => exact HBE.out.size); (case aL => have := HOL.out; omega); intro v9 w9 ho hb hg hat; have HO9 := Aside0.mk ho; have HB9 := Aside0.mk hb; clear ho hb hg hat))
            go_roundw
            case rel => exact ⟨i, k + 1, o ++ [⟨y.p, 1⟩], rfl, by first | rfl | (go_num; done), ⟨by omega, by omega, by omega, by omega, by rw [List.append_assoc, show (k + 1).toNat = k.toNat + 1 from by omega, show (a.length - i.toNat) + (b.length - (k.toNat + 1)) = a.length - (i.toNat + 1) + (b.length - k.toNat) from by omega]; exact HR.out⟩, HO9, HB9⟩
            case measure => (simp [intOf]; omega)
        · rw [if_pos rfl] at hr
          rw [← hdb] at hr
          have HR := Aside0.mk hr
          clear hr hda hdb
          go_wp2_with (fail)
          go_region_held3 (fun w' => w'.cell? ⟨ga, i.toNat * 10, none⟩ = some (.string x.p) ∧ w'.cell? ⟨gb, k.toNat * 10, none⟩ = some (.string y.p) ∧ Below wr.heap.size wr w') (first | assumption | (exact p2_keep (by assumption) (by assumption)) | (exact p2_drew (by assumption)))
            (first
              | (go_at_call 14; (with_reducible refine (HLX _).mono ?_); rintro _ w' ⟨rfl, hb⟩)
              | (go_at_call 14; (with_reducible refine (HLY _).mono ?_); rintro _ w' ⟨rfl, hb⟩))
          have hbe := p2_end (by assumption)
          have HOE := Aside0.mk (Kd.R_below HO.out hbe)
          have HBE := Aside0.mk (below_step HBW.out hbe)
          clear hbe
          go_wp2_with (first | ((with_reducible refine gate_builtin (b := .append) (xs := #[.tmp 71, .tmp 78]) rfl ?_); at_builtin; refine Kd.R_append k32 (w0 := w) w.heap.size rfl (.tmp 71) (.tmp 78) 29 32 (.agg #[(.string ⟨#[]⟩), (.int .i64 0)]) 24 rfl Tryd.underlying29 info32 rfl (by decide) (by omega) u5 o (⟨x.p, 2⟩ : S32) [.string x.p, .int .i64 2] (fun _ => True) (fun _ => False) rfl rfl ?aP (fun _ hk => hk.elim) (fun _ _ => trivial) ?aO ?aB ?aS ?aL ?_; (case aP => exact k32_mkM _ _ _ (⟨x.p, 2⟩ : S32)); (case aO => exact HOE.out); (case aB => exact HBE.out); (case aS => exact HBE.out.size); (case aL => have := HOL.out; omega); intro v9 w9 ho hb hg hat; have HO9 := Aside0.mk ho; have HB9 := Aside0.mk hb; clear ho hb hg hat))
          go_roundw
          case rel => exact ⟨i + 1, k, o ++ [⟨x.p, 2⟩], by first | rfl | (go_num; done), rfl, ⟨by omega, by omega, by omega, by omega, by rw [List.append_assoc, show (i + 1).toNat = i.toNat + 1 from by omega]; exact HR.out⟩, HO9, HB9⟩
          case measure => (simp [intOf]; omega)
      · have cbe : k = (b.length : Int) := by omega
        have hdb : b.drop k.toNat = [] := List.drop_eq_nil_of_le (by omega)
        rw [hda, hdb, show (a.length - i.toNat) + (b.length - k.toNat) = (a.length - (i.toNat + 1) + (b.length - k.toNat)) + 1 from by omega, treesL, ← hdb] at hr
        have HR := Aside0.mk hr
        have cb1 : (k == (b.length : Int)) = true := beq_iff_eq.mpr cbe
        have hxp : wr.cell? ⟨ga, i.toNat * 10, none⟩ = some (.string x.p) := HCX.out 0 _ rfl
        clear hr hda hdb hx hxm hcA cbe
        go_wp2_with (fail)
        go_quiet (fail)
        go_wp2_with (first | ((with_reducible refine gate_builtin (b := .append) (xs := #[.tmp 71, .tmp 78]) rfl ?_); at_builtin; refine Kd.R_append k32 (w0 := w) w.heap.size rfl (.tmp 71) (.tmp 78) 29 32 (.agg #[(.string ⟨#[]⟩), (.int .i64 0)]) 24 rfl Tryd.underlying29 info32 rfl (by decide) (by omega) u5 o (⟨x.p, 2⟩ : S32) [.string x.p, .int .i64 2] (fun _ => True) (fun _ => False) rfl rfl ?aP (fun _ hk => hk.elim) (fun _ _ => trivial) ?aO ?aB ?aS ?aL ?_; (case aP => exact k32_mkM _ _ _ (⟨x.p, 2⟩ : S32)); (case aO => exact (Kd.R_drewN HO.out _)); (case aB => exact (pw_below_drewN HBW.out _)); (case aS => exact (pw_below_drewN HBW.out _).size); (case aL => have := HOL.out; omega); intro v9 w9 ho hb hg hat; have HO9 := Aside0.mk ho; have HB9 := Aside0.mk hb; clear ho hb hg hat))
        go_roundw
        case rel => exact ⟨i + 1, k, o ++ [⟨x.p, 2⟩], by first | rfl | (go_num; done), rfl, ⟨by omega, by omega, by omega, by omega, by rw [List.append_assoc, show (i + 1).toNat = i.toNat + 1 from by omega]; exact HR.out⟩, HO9, HB9⟩
        case measure => (simp [intOf]; omega)
    · have cae : i = (a.length : Int) := by omega
      have hda : a.drop i.toNat = [] := List.drop_eq_nil_of_le (by omega)
      have ca1 : (i == (a.length : Int)) = true := beq_iff_eq.mpr cae
      have ca2 : decide (i < (a.length : Int)) = false := decide_eq_false ca
      by_cases cb : k < (b.length : Int)
      · have hlb : k.toNat < b.length := by omega
        obtain ⟨y, hy⟩ : ∃ y, b[k.toNat]? = some y := ⟨b[k.toNat], List.getElem?_eq_getElem hlb⟩
        have hdb : b.drop k.toNat = y :: b.drop (k.toNat + 1) := by
          rw [List.drop_eq_getElem_cons hlb]
          rw [List.getElem?_eq_getElem hlb] at hy
          rw [Option.some.inj hy]
        rcases HR1.out with h | ⟨gb, rfl, hcB⟩
        · subst h; simp at hlb
        have cb1 : (k == (b.length : Int)) = false := beq_eq_false_iff_ne.mpr (by omega)
        have q4 := eq_true cb
        have hyp : wr.cell? ⟨gb, k.toNat * 10, none⟩ = some (.string y.p) := cells_keep HBW.out (hcB k.toNat y hy 0 _ rfl)
        rw [hda, hdb, show (a.length - i.toNat) + (b.length - k.toNat) = (a.length - i.toNat + (b.length - (k.toNat + 1))) + 1 from by omega, treesL, ← hda] at hr
        have HR := Aside0.mk hr
        clear hr hda hdb hy hcB cae
        go_wp2_with (fail)
        go_quiet (fail)
        go_wp2_with (fail)
        go_quiet (fail)
        go_wp2_with (first | ((with_reducible refine gate_builtin (b := .append) (xs := #[.tmp 100, .tmp 107]) rfl ?_); at_builtin; refine Kd.R_append k32 (w0 := w) w.heap.size rfl (.tmp 100) (.tmp 107) 29 32 (.agg #[(.string ⟨#[]⟩), (.int .i64 0)]) 24 rfl Tryd.underlying29 info32 rfl (by decide) (by omega) u5 o (⟨y.p, 1⟩ : S32) [.string y.p, .int .i64 1] (fun _ => True) (fun _ => False) rfl rfl ?aP (fun _ hk => hk.elim) (fun _ _ => trivial) ?aO ?aB ?aS ?aL ?_; (case aP => exact k32_mkM _ _ _ (⟨y.p, 1⟩ : S32)); (case aO => exact (Kd.R_drewN HO.out _)); (case aB => exact (pw_below_drewN HBW.out _)); (case aS => exact (pw_below_drewN HBW.out _).size); (case aL => have := HOL.out; omega); intro v9 w9 ho hb hg hat; have HO9 := Aside0.mk ho; have HB9 := Aside0.mk hb; clear ho hb hg hat))
        go_roundw
        case rel => exact ⟨i, k + 1, o ++ [⟨y.p, 1⟩], rfl, by first | rfl | (go_num; done), ⟨by omega, by omega, by omega, by omega, by rw [List.append_assoc, show (k + 1).toNat = k.toNat + 1 from by omega]; exact HR.out⟩, HO9, HB9⟩
        case measure => (simp [intOf]; omega)
      · have cbe : k = (b.length : Int) := by omega
        have hdb : b.drop k.toNat = [] := List.drop_eq_nil_of_le (by omega)
        have hoT : o = T := by
          rw [hda, hdb] at hr
          have e : ∀ n, treesL n [] [] = [] := fun n => by cases n <;> rfl
          rw [e, List.append_nil] at hr
          exact hr
        subst hoT
        have cb1 : (k == (b.length : Int)) = true := beq_iff_eq.mpr cbe
        clear hr hda hdb cbe cae
        go_wp2_with (fail)
        go_ret
        exact ⟨_, rfl, HO.out, HBW.out⟩
end Go.Proofs.YtkbofkpkemfedaaDoor.Q
