/- lz.Unpack, walked by hand (it copies, which the print does not take): what it returns is the plain model's 'unpackOf', for texts of at most 200000 bytes. -/
import Derived.Test.YtflkjofafgoapaaParse
import Derived.Laws.CopyOwn
import Derived.Lib.BufferWrite
namespace Go.Proofs.Ytflkjofafgoapaa.Q
open Go.RowKit Go.Proofs.YtflkjofafgoapaaW.PrintWords Go.Proofs.YtflkjofafgoapaaW.PrintLast Go.Proofs.YtflkjofafgoapaaW.PrintMore
attribute [local go_sem] max2_int min2_int max_two min_two max_three min_three max_four min_four

def lz_Unpack.f (a0 : ByteArray) (a1 : Int) : Option (ByteArray × Int) := if a0.size ≤ 200000 then some (Lz.unpackOf a0 a1) else none

set_option maxHeartbeats 400000 in
theorem unpack_low (a0 : ByteArray) (a1 : Int) (w : World) (h : a1 < 0) :
    Calls Try.prog 10 #[.string a0, .int .i64 a1] w fun e w' => e = .returned (.tuple #[.string ⟨#[]⟩, .int .i64 1]) ∧ Below w.heap.size w w' := by
  have hb : decide (a1 < 0) = true := decide_eq_true h
  clear h
  go_enter Try.func10, Try.ntmps10
  go_wp2
  go_ret2
  exact ⟨rfl, Below.refl _ _⟩

set_option maxHeartbeats 400000 in
theorem unpack_high (a0 : ByteArray) (a1 : Int) (w : World) (h : 1048576 < a1) :
    Calls Try.prog 10 #[.string a0, .int .i64 a1] w fun e w' => e = .returned (.tuple #[.string ⟨#[]⟩, .int .i64 1]) ∧ Below w.heap.size w w' := by
  have hb : decide (a1 < 0) = false := decide_eq_false (by omega)
  have hb2 : decide (1048576 < a1) = true := decide_eq_true h
  clear h
  go_enter Try.func10, Try.ntmps10
  go_wp2
  go_ret2
  exact ⟨rfl, Below.refl _ _⟩

set_option maxHeartbeats 400000 in
theorem unpack_none (a0 : ByteArray) (a1 : Int) (k : Nat) (l : List S35) (n : Int) (w : World) (h : 0 ≤ a1) (h2 : a1 ≤ 1048576) (hp : lz_parse.f k a0 = some (l, n, false)) :
    Calls Try.prog 10 #[.string a0, .int .i64 a1] w fun e w' => e = .returned (.tuple #[.string ⟨#[]⟩, .int .i64 120]) ∧ Below w.heap.size w w' := by
  have hb : decide (a1 < 0) = false := decide_eq_false (by omega)
  have hb2 : decide (1048576 < a1) = false := decide_eq_false (by omega)
  have HP := Aside0.mk hp
  clear h h2 hp
  go_enter Try.func10, Try.ntmps10
  go_wp2_with (go_at_call 20; refine (lz_parse.calls k a0 l n false _ HP.out).mono ?_; rintro e w1 ⟨v0, rfl, _, hB⟩)
  go_ret2
  exact ⟨rfl, by assumption⟩

set_option maxHeartbeats 400000 in
theorem unpack_other (a0 : ByteArray) (a1 : Int) (k : Nat) (l : List S35) (n : Int) (w : World) (h : 0 ≤ a1) (h2 : a1 ≤ 1048576) (hn : n ≠ a1) (hp : lz_parse.f k a0 = some (l, n, true)) :
    Calls Try.prog 10 #[.string a0, .int .i64 a1] w fun e w' => e = .returned (.tuple #[.string ⟨#[]⟩, .int .i64 120]) ∧ Below w.heap.size w w' := by
  have hb : decide (a1 < 0) = false := decide_eq_false (by omega)
  have hb2 : decide (1048576 < a1) = false := decide_eq_false (by omega)
  have hb3 : (n == a1) = false := beq_eq_false_iff_ne.mpr hn
  have hb4 : (n != a1) = true := bne_iff_ne.mpr hn
  have HP := Aside0.mk hp
  clear h h2 hp hn
  go_enter Try.func10, Try.ntmps10
  go_wp2_with (go_at_call 20; refine (lz_parse.calls k a0 l n true _ HP.out).mono ?_; rintro e w1 ⟨v0, rfl, _, hB⟩)
  go_ret2
  exact ⟨rfl, by assumption⟩

/-- 'copy(dst, s)' from a string, as a step of a region that draws its order: the row behind it is a splice, in a world that is otherwise as it was. -/
theorem step_copy_text {P : Program} {ops : Array Oper} {o : Oper} {a : Act} {w : World} {K : Act → World → Prop} {Q : Exit → Act → World → Prop} {E : Prop} (hgd : o.guard = none) (d s : Operand) (dT sT : TypeId)
    (ho : o.op = .call { callee := .builtin .copy, args := #[d, s], argTypes := #[dT, sT] }) (elem : TypeId) (hu : P.underlying dT = some (.slice elem)) (hsz : (P.info? elem).map (·.size) = some 1)
    (dp : Option Addr) (dLen dCap : Nat) (x : ByteArray) (hd : a.eval d = .slice dp dLen dCap) (hs : a.eval s = .string x)
    (g off : Nat) (cur : List Value) (t : TypeId) (hg : w.heap[g]? = some (.cells cur.toArray t (0, 0))) (hle : x.size ≤ dLen)
    (hpos : 0 < x.size → dp = some ⟨g, off, none⟩) (hfit : off + x.size ≤ cur.length)
    (h : ∀ w', Aside0 (w'.heap[g]? = some (.cells (splice cur off (Lib.byteCells x.data.toList)).toArray t (0, 0))) → Aside0 (∀ k, k ≠ g → w'.heap[k]? = w.heap[k]?) → Aside0 (Below g w w') → K (a.put o.dst (.int .i64 x.size)) w') :
    if Region.wanted o (yielded ops a.tmps) = true then Oper.wp P o a w K Q else E := by
  have hw : Region.wanted o (yielded ops a.tmps) = true := by simp [Region.wanted, hgd]
  rw [if_pos hw]
  have hlx : (Lib.byteCells x.data.toList).length = x.size := by rw [Lib.byteCells_length, ← Lib.size_eq]
  by_cases h0 : x.size = 0
  · have hrun := Lib.run_copy_empty_string (P := P) w dT sT o.type elem dp dLen dCap x hu (by cases hq : P.info? elem <;> simp_all) h0
    unfold Oper.wp
    simp only [execOp, ho, resolve, invoke, builtin, Sem.run_bind, Sem.run_pure, Result.andThen_ok, List.map_toArray, List.map_cons, List.map_nil, hd, hs, hrun]
    have hnil : Lib.byteCells x.data.toList = [] := List.eq_nil_of_length_eq_zero (by omega)
    have := h w ⟨by rw [hnil]; simpa [splice] using hg⟩ ⟨fun _ _ => rfl⟩ ⟨Below.refl _ _⟩
    show K (a.put o.dst (goInt 0)) w
    simpa [goInt, h0] using this
  · rw [hpos (by omega)] at hd
    have hrun := Lib.run_copy_row_string (P := P) w dT sT o.type elem g off dLen dCap x cur.toArray t hu hsz hg hle (by simpa using hfit)
    unfold Oper.wp
    simp only [execOp, ho, resolve, invoke, builtin, Sem.run_bind, Sem.run_pure, Result.andThen_ok, List.map_toArray, List.map_cons, List.map_nil, hd, hs, hrun]
    refine h _ ⟨?_⟩ ⟨fun k hk => setRow_other w g k _ hk⟩ ⟨below_setRow (Below.refl _ _) (Nat.le_refl _) _⟩
    rw [setRow_heap w g _ _ t _ hg]
    simp [splice, hlx]

theorem addr_add (g o j : Nat) : (⟨g, o, none⟩ : Addr).add j = ⟨g, o + j, none⟩ := by unfold Addr.add; split <;> simp_all

/-- 'copy(dst, src)' within one row, as a step of a region that draws its order. -/
theorem step_copy_cells {P : Program} {ops : Array Oper} {o : Oper} {a : Act} {w : World} {K : Act → World → Prop} {Q : Exit → Act → World → Prop} {E : Prop} (hgd : o.guard = none) (d s : Operand) (dT sT : TypeId)
    (ho : o.op = .call { callee := .builtin .copy, args := #[d, s], argTypes := #[dT, sT] }) (elem : TypeId) (hu : P.underlying dT = some (.slice elem)) (hsz : (P.info? elem).map (·.size) = some 1)
    (g off soff dLen dCap sLen sCap : Nat) (hd : a.eval d = .slice (some ⟨g, off, none⟩) dLen dCap) (hs : a.eval s = .slice (some ⟨g, soff, none⟩) sLen sCap)
    (cur : List Value) (t : TypeId) (hg : w.heap[g]? = some (.cells cur.toArray t (0, 0))) (cs : List Value) (hn : cs.length = Nat.min sLen dLen)
    (n : Nat) (hcn : cs.length = n) (hsrc : ∀ j v, cs[j]? = some v → cur[soff + j]? = some v) (hfit : off + cs.length ≤ cur.length) (h1 : ∀ v ∈ cs, v.oneCell' = true)
    (h : ∀ w', Aside0 (w'.heap[g]? = some (.cells (splice cur off cs).toArray t (0, 0))) → Aside0 (∀ k, k ≠ g → w'.heap[k]? = w.heap[k]?) → Aside0 (Below g w w') → K (a.put o.dst (.int .i64 n)) w') :
    if Region.wanted o (yielded ops a.tmps) = true then Oper.wp P o a w K Q else E := by
  have hw : Region.wanted o (yielded ops a.tmps) = true := by simp [Region.wanted, hgd]
  rw [if_pos hw]
  subst hcn
  have hrun := run_copy_row (P := P) w dT sT o.type elem g off dLen dCap ⟨g, soff, none⟩ sLen sCap cur.toArray t cs hu hsz hg hn (fun j v hj => by rw [addr_add, blk_cell hg]; simpa using hsrc j v hj) (by simpa using hfit) h1
  unfold Oper.wp
  simp only [execOp, ho, resolve, invoke, builtin, Sem.run_bind, Sem.run_pure, Result.andThen_ok, List.map_toArray, List.map_cons, List.map_nil, hd, hs, hrun]
  refine h _ ⟨?_⟩ ⟨fun k hk => setRow_other w g k _ hk⟩ ⟨below_setRow (Below.refl _ _) (Nat.le_refl _) _⟩
  rw [setRow_heap w g _ _ t _ hg]
  simp [splice]

theorem mk_size (l : List UInt8) : (Lz.mk l).size = l.length := by simp [Lz.mk, ByteArray.size]

/-- The row of bytes: what is out, and zeros behind it. -/
def outRow (out : List UInt8) (m : Nat) : List Value := Lib.byteCells out ++ List.replicate (m - out.length) (.int .u8 0)

theorem madeRow (m : Nat) : (madeCells #[Value.int .u8 0] m) = (outRow [] m).toArray := by
  apply Array.ext'
  rw [toList_madeCells_one]
  simp [outRow, Lib.byteCells]

theorem row_len (out : List UInt8) (m : Nat) (h : out.length ≤ m) : (outRow out m).length = m := by
  simp [outRow, Lib.byteCells]; omega

theorem byteCells_app (a b : List UInt8) : Lib.byteCells (a ++ b) = Lib.byteCells a ++ Lib.byteCells b := by simp [Lib.byteCells]
theorem byteCells_len (a : List UInt8) : (Lib.byteCells a).length = a.length := by simp [Lib.byteCells]
theorem splice_row (out x : List UInt8) (m : Nat) (_h : out.length + x.length ≤ m) : splice (outRow out m) out.length (Lib.byteCells x) = outRow (out ++ x) m := by
  unfold splice outRow
  rw [List.take_append_of_le_length (by rw [byteCells_len]; exact Nat.le_refl _), List.take_of_length_le (by rw [byteCells_len]; exact Nat.le_refl _), byteCells_len, byteCells_app, List.append_assoc]
  congr 1
  rw [List.drop_append, List.drop_eq_nil_of_le (by rw [byteCells_len]; omega), byteCells_len, List.drop_replicate]
  simp
  omega
theorem splice_out (out x : List UInt8) (m : Nat) (h : out.length + x.length ≤ m) : splice (outRow out m) out.length (Lib.byteCells (Lz.mk x).data.toList) = outRow (out ++ x) m := by
  have : (Lz.mk x).data.toList = x := by simp [Lz.mk]
  rw [this, splice_row out x m h]

theorem rep_chunk (d : Nat) : ∀ (n : Nat) (o : List UInt8), n ≤ d → d ≤ o.length → Lz.rep o d n = o ++ (o.drop (o.length - d)).take n := by
  intro n
  induction n with
  | zero => intro o _ _; simp [Lz.rep]
  | succ n ih =>
    intro o hn hd
    have hlt : o.length - d < o.length := by omega
    rw [Lz.rep, ih _ (by omega) (by simp; omega), List.drop_eq_getElem_cons hlt, List.take_succ_cons]
    have e1 : o.getD (o.length - d) 0 = o[o.length - d] := by simp [List.getD, List.getElem?_eq_getElem hlt]
    have e2 : (o ++ [o.getD (o.length - d) 0]).length - d = o.length - d + 1 := by simp; omega
    rw [e2, List.drop_append_of_le_length (by omega), List.take_append_of_le_length (by simp; omega), e1, List.append_assoc]
    rfl
theorem rep_add (d : Nat) : ∀ (n k : Nat) (o : List UInt8), Lz.rep (Lz.rep o d n) d k = Lz.rep o d (n + k) := by
  intro n
  induction n with
  | zero => intro k o; simp [Lz.rep]
  | succ n ih => intro k o; rw [Nat.add_right_comm, Lz.rep, Lz.rep, ih]
theorem chunk_len (o : List UInt8) (d n : Nat) (h : d ≤ o.length) : (Lib.byteCells ((o.drop (o.length - d)).take n)).length = Nat.min d n := by
  rw [byteCells_len, List.length_take, List.length_drop, Nat.min_comm, show o.length - (o.length - d) = d from by omega]
theorem chunk_at (o : List UInt8) (m d n : Nat) (h : d ≤ o.length) : ∀ j v, (Lib.byteCells ((o.drop (o.length - d)).take n))[j]? = some v → (outRow o m)[o.length - d + j]? = some v := by
  intro j v hj
  have hl := chunk_len o d n h
  have hjl : j < Nat.min d n := by rw [← hl]; exact (List.getElem?_eq_some_iff.1 hj).1
  have hjd : j < d := Nat.lt_of_lt_of_le hjl (Nat.min_le_left _ _)
  have hjn : j < n := Nat.lt_of_lt_of_le hjl (Nat.min_le_right _ _)
  unfold outRow
  rw [List.getElem?_append_left (by rw [byteCells_len]; omega)]
  simp only [Lib.byteCells, List.getElem?_map] at hj ⊢
  rw [List.getElem?_take_of_lt hjn, List.getElem?_drop] at hj
  exact hj
theorem chunk_fits (o : List UInt8) (m d n : Nat) (h : d ≤ o.length) (hm : o.length + n ≤ m) : o.length + (Lib.byteCells ((o.drop (o.length - d)).take n)).length ≤ (outRow o m).length := by
  rw [chunk_len o d n h, row_len o m (by omega)]
  have := Nat.min_le_right d n
  show o.length + min d n ≤ m
  omega
theorem chunk_out (o : List UInt8) (m d n : Nat) (hn : n ≤ d) (h : d ≤ o.length) (hm : o.length + n ≤ m) : splice (outRow o m) o.length (Lib.byteCells ((o.drop (o.length - d)).take n)) = outRow (Lz.rep o d n) m := by
  rw [rep_chunk d n o hn h, splice_row]
  have hl := chunk_len o d n h
  rw [byteCells_len] at hl
  have := Nat.min_le_right d n
  rw [hl]
  show o.length + min d n ≤ m
  omega

theorem str_mk (l : List UInt8) : strOfNums (l.map fun b => (b.toNat : Int)) = Lz.mk l := by
  simp [strOfNums, Lz.mk, Function.comp_def]

set_option maxHeartbeats 1000000 in
set_option maxRecDepth 100000 in
theorem unpack_main (a0 : ByteArray) (m k : Nat) (q : List Lz.Sq) (l : List S35) (w : World) (hm : m ≤ 1048576) (hl : l = q.map Lz.s35) (ht : Lz.total q = m) (hf : Lz.Fits 0 q) (hll : l.length ≤ 200000) (hp : lz_parse.f k a0 = some (l, (m : Int), true)) :
    Calls Try.prog 10 #[.string a0, .int .i64 m] w fun e w' => e = .returned (.tuple #[.string (Lz.mk (Lz.openL q)), .int .i64 0]) ∧ Below w.heap.size w w' := by
  have hb : decide ((m : Int) < 0) = false := decide_eq_false (by omega)
  have hb2 : decide (1048576 < (m : Int)) = false := decide_eq_false (by omega)
  have hb3 : ((m : Int) == (m : Int)) = true := by simp
  have hb4 : ((m : Int) != (m : Int)) = false := by simp
  have HP := Aside0.mk hp
  have HL := Aside0.mk hl
  have HT := Aside0.mk ht
  have HF := Aside0.mk hf
  clear hp hl ht hf
  have LLEN : Aside0 (l.length ≤ 1048576 + 1048576) := ⟨by omega⟩
  clear hll
  have hmk := print_make (P := Try.prog) 41 5 .u8 1 Try.underlying41 info5 (by decide) m (by omega)
  go_enter Try.func10, Try.ntmps10
  go_wp2_with (go_at_call 20; refine (lz_parse.calls k a0 l m true _ HP.out).mono ?_; rintro e w1 ⟨v0, rfl, hR, hB⟩; obtain ⟨A, c, hv, hlc, hC⟩ := Kd.R_reads hR; have HB := Aside0.mk hB; have HC := Aside0.mk hC; subst hv; clear hR hB hC)
  have HZ : Aside0 ((w1.alloc (.cells (madeCells #[.int .u8 0] m) 5)).heap[w1.heap.size]? = some (.cells (outRow [] m).toArray 5 (0, 0))) := ⟨by rw [← madeRow]; exact heap_alloc_new _ _⟩
  go_loopw [10, 38] (fun v10 v38 w' => ∃ (i : Nat) (out : List UInt8), v38 = .int .i64 (i : Int) ∧ v10 = .int .i64 (out.length : Int) ∧ Aside0 (i ≤ l.length) ∧ Aside0 (Lz.openFrom out (q.drop i) = Lz.openL q) ∧ Aside0 (Lz.Fits out.length (q.drop i)) ∧ Aside0 (out.length + Lz.total (q.drop i) = m) ∧ Aside0 (w'.heap[w1.heap.size]? = some (.cells (outRow out m).toArray 5 (0, 0))) ∧ Aside0 (Below w1.heap.size w1 w')) (fun _ v38 _ => l.length - (intOf v38).toNat)
  case atStart => exact ⟨0, [], rfl, rfl, ⟨Nat.zero_le _⟩, ⟨rfl⟩, ⟨HF.out⟩, ⟨by simpa using HT.out⟩, HZ, ⟨(Below.refl _ _).alloc (Nat.le_refl _) _⟩⟩
  case round =>
    obtain ⟨i, out, rfl, rfl, HI, HO, HFt, HS, HG, HW⟩ := hrel
    by_cases hlt : i < l.length
    · obtain ⟨⟨lits, d, M⟩, rest, hdrop⟩ : ∃ x rest, q.drop i = x :: rest := by
        have : i < q.length := by have := HL.out; rw [this] at hlt; simpa using hlt
        exact ⟨q[i], q.drop (i + 1), by rw [List.drop_eq_getElem_cons this]⟩
      have hrd : rd_T35 l (i : Int) = Lz.s35 (lits, d, M) := by
        have h1 : q[i]? = some (lits, d, M) := by
          have : (q.drop i)[0]? = some (lits, d, M) := by rw [hdrop]; rfl
          simpa using this
        rw [HL.out]
        simp [rd_T35, List.getD, h1]
      obtain ⟨ad, eA, c0, c1, c2⟩ := at_T35 (Kd.C_below HC.out HW.out) (i : Int) (by omega) (by omega)
      cases eA
      rw [hrd] at c0 c1 c2
      simp only [Int.toNat_natCast, Lz.s35] at c0 c1 c2
      have HR := Aside0.mk hdrop
      clear hdrop hrd
      have p1 : (0 : Int) ≤ (i : Int) := by omega
      have p2 : (i : Int) < (l.length : Int) := by omega
      replace p1 := eq_true p1
      replace p2 := eq_true p2
      have HLT := Aside0.mk hlt
      go_upto_region 11 with (first | ((with_reducible refine gate_dst (N := 12) rfl ?_); refine box_event ?hg (N := 12) ?hd (cs := #[.string (⟨#[]⟩ : ByteArray), .int .i64 0, .int .i64 0]) (t := 35) ?hr ?_; (case hd => rfl); (case hg => rfl); (case hr => first | (go_simp; done) | (go_simp; rfl)); intro gb hg w2 hbox hb; have BK := Aside0.mk hbox; have HB2 := Aside0.mk hb; have HGB := Aside0.mk hg; clear hbox hb hg; have hz0 : w2.cell? ⟨gb, 0, none⟩ = some (.string (⟨#[]⟩ : ByteArray)) := (blk_cell BK.out 0).trans rfl; have hz1 : w2.cell? ⟨gb, 1, none⟩ = some (.int .i64 0) := (blk_cell BK.out 1).trans rfl; have hz2 : w2.cell? ⟨gb, 2, none⟩ = some (.int .i64 0) := (blk_cell BK.out 2).trans rfl; have hf0 := blk_frozen BK.out 0; have hf1 := blk_frozen BK.out 1; have hf2 := blk_frozen BK.out 2))
      have BK3 : Aside0 ((((w2.setCell ⟨gb, 0, none⟩ (.string (Lz.mk lits))).setCell ⟨gb, 1, none⟩ (.int .i64 d)).setCell ⟨gb, 2, none⟩ (.int .i64 M)).heap[gb]? = some (.cells #[.string (Lz.mk lits), .int .i64 d, .int .i64 M] 35 (0, 0))) :=
        ⟨by refine blk_put (cs := #[.string (Lz.mk lits), .int .i64 d, .int .i64 0]) ?_ 2 _ rfl; refine blk_put (cs := #[.string (Lz.mk lits), .int .i64 0, .int .i64 0]) ?_ 1 _ rfl; refine blk_put (cs := #[.string (⟨#[]⟩ : ByteArray), .int .i64 0, .int .i64 0]) ?_ 0 _ rfl; exact BK.out⟩
      have hne : w1.heap.size ≠ gb := by
        have h1 := blk_lt HG.out
        have h2 := HGB.out
        omega
      have HNE := Aside0.mk hne
      have HG3 : Aside0 ((((w2.setCell ⟨gb, 0, none⟩ (.string (Lz.mk lits))).setCell ⟨gb, 1, none⟩ (.int .i64 d)).setCell ⟨gb, 2, none⟩ (.int .i64 M)).heap[w1.heap.size]? = some (.cells (outRow out m).toArray 5 (0, 0))) :=
        ⟨blk_far (blk_far (blk_far ((HB2.out.block _ (blk_lt HG.out)).trans HG.out) hne _) hne _) hne _⟩
      have hge : w1.heap.size ≤ gb := by
        have h1 := blk_lt HG.out
        have h2 := HGB.out
        omega
      have HW3 : Aside0 (Below w1.heap.size w1 (((w2.setCell ⟨gb, 0, none⟩ (.string (Lz.mk lits))).setCell ⟨gb, 1, none⟩ (.int .i64 d)).setCell ⟨gb, 2, none⟩ (.int .i64 M))) :=
        ⟨below_set (below_set (below_set (below_step HW.out HB2.out) hge) hge) hge⟩
      clear hne hge hz0 hz1 hz2 hf0 hf1 hf2 BK HB2 HGB HG HW c0 c1 c2
      generalize (((w2.setCell ⟨gb, 0, none⟩ (.string (Lz.mk lits))).setCell ⟨gb, 1, none⟩ (.int .i64 d)).setCell ⟨gb, 2, none⟩ (.int .i64 M)) = w3 at BK3 HG3 HW3 ⊢
      have z0 : w3.cell? ⟨gb, 0, none⟩ = some (.string (Lz.mk lits)) := (blk_cell BK3.out 0).trans rfl
      have hS := HS.out
      rw [HR.out] at hS
      simp only [Lz.total] at hS
      have hS2 : out.length + lits.length ≤ m := by omega
      have HS2 := Aside0.mk hS2
      have HS3 := Aside0.mk hS
      have b0 : (0 : Int) ≤ (out.length : Int) := by omega
      have b1 : (out.length : Int) ≤ (m : Int) := by omega
      clear hS hS2
      go_region_law ((refine step_copy_text (by rfl) (.tmp 45) (.tmp 47) 41 9 (by rfl) 5 Try.underlying41 (by kernel_rfl) _ _ _ (Lz.mk lits) (by rfl) (by rfl) w1.heap.size out.length (outRow out m) 5 (by exact HG3.out) (Nat.le_trans (Nat.le_of_eq (mk_size lits)) (by have := HS2.out; omega)) (fun h => if_neg (fun e => by have h3 := Nat.lt_of_lt_of_eq h (mk_size lits); have := HS2.out; omega)) (Nat.le_trans (Nat.le_of_eq (congrArg (out.length + ·) (mk_size lits))) (Nat.le_trans HS2.out (Nat.le_of_eq (row_len out m (Nat.le_trans (Nat.le_add_right _ _) HS2.out)).symm))) ?_; intro w4 HG4 HK4 HW4))
      generalize (if m = out.length then some (⟨w1.heap.size, 0, none⟩ : Addr) else some ⟨w1.heap.size, out.length, none⟩) = dp0
      have hne := HNE.out
      have BK4 : Aside0 (w4.heap[gb]? = some (.cells #[.string (Lz.mk lits), .int .i64 d, .int .i64 M] 35 (0, 0))) := ⟨(HK4.out gb (Ne.symm hne)).trans BK3.out⟩
      have HW5 : Aside0 (Below w1.heap.size w1 w4) := ⟨Below.trans (below_drew1 HW3.out) HW4.out⟩
      have HG5 : Aside0 (w4.heap[w1.heap.size]? = some (.cells (outRow (out ++ lits) m).toArray 5 (0, 0))) := ⟨by rw [HG4.out, splice_out _ _ _ HS2.out]⟩
      clear hne HK4 HG4 HW4 HG3 HW3 BK3 z0
      have z1 : w4.cell? ⟨gb, 2, none⟩ = some (.int .i64 M) := (blk_cell BK4.out 2).trans rfl
      have hsz : ((Lz.mk lits).size : Int) = (lits.length : Int) := congrArg _ (mk_size lits)
      have HSZ := Aside0.mk hsz
      clear hsz
      have b2 : (M : Int) ≤ (m : Int) := by have := HS3.out; omega
      have b3 : (out.length : Int) + ((Lz.mk lits).size : Int) ≤ (m : Int) := by rw [HSZ.out]; have := HS3.out; omega
      go_wp2
      clear b0 b1 b2 b3 z1 p1 p2
      have HF2 : Aside0 (M ≠ 0 → 1 ≤ d ∧ d ≤ out.length + lits.length) := ⟨by have h := HFt.out; rw [HR.out] at h; exact h.1⟩
      go_loopw [10, 13] (fun v10 v13 w' => ∃ (left : Nat) (o : List UInt8), v13 = .int .i64 (left : Int) ∧ v10 = .int .i64 (o.length : Int) ∧ Aside0 (Lz.rep o d left = Lz.rep (out ++ lits) d M) ∧ Aside0 (left ≤ M ∧ o.length + left = out.length + lits.length + M) ∧ Aside0 (w'.heap[w1.heap.size]? = some (.cells (outRow o m).toArray 5 (0, 0))) ∧ Aside0 (w'.heap[gb]? = some (.cells #[.string (Lz.mk lits), .int .i64 d, .int .i64 M] 35 (0, 0))) ∧ Aside0 (Below w1.heap.size w1 w')) (fun _ v13 _ => (intOf v13).toNat)
      case atStart => exact ⟨M, out ++ lits, rfl, by rw [List.length_append, HSZ.out]; rfl, ⟨rfl⟩, ⟨Nat.le_refl _, by rw [List.length_append]⟩, HG5, BK4, HW5⟩
      case round =>
        obtain ⟨left, o, rfl, rfl, HQ, HLe, HG6, BK6, HW6⟩ := hrel
        clear HG5 BK4 HW5
        by_cases h0 : 0 < left
        · have HD : Aside0 (1 ≤ d ∧ d ≤ o.length ∧ o.length + left ≤ m) := ⟨by have h1 := HF2.out; have h2 := HLe.out; have h3 := HS3.out; have h4 := h1 (by omega); omega⟩
          have z0 : wr.cell? ⟨gb, 1, none⟩ = some (.int .i64 d) := (blk_cell BK6.out 1).trans rfl
          have b0 : (0 : Int) ≤ (o.length : Int) := by omega
          have b1 : (o.length : Int) ≤ (m : Int) := by have := HD.out; omega
          have b2 : (d : Int) ≤ (o.length : Int) := by have := HD.out; omega
          have b3 : (o.length : Int) + (left : Int) ≤ (m : Int) := by have := HD.out; omega
          have b5 : (1 : Int) ≤ (d : Int) := by have := HD.out; omega
          by_cases hdl : d < left
          · have e1 : decide ((d : Int) < (left : Int)) = true := decide_eq_true (by omega)
            have e2 : decide (d < left) = true := decide_eq_true hdl
            have b4 : (d : Int) < (left : Int) := by omega
            have HLT2 : Aside0 (d ≤ left) := ⟨by omega⟩
            clear hdl
            go_wp2
            have g1 : (0 : Int) ≤ (o.length : Int) + (d : Int) := by omega
            have g2 : (o.length : Int) + (d : Int) ≤ (m : Int) := by omega
            have g3 : (0 : Int) ≤ (o.length : Int) - (d : Int) := by omega
            have g4 : (o.length : Int) - (d : Int) ≤ (m : Int) := by omega
            have g5 : ((o.length : Int) + (d : Int)).toNat = o.length + d := by omega
            have g6 : ((o.length : Int) - (d : Int)).toNat = o.length - d := by omega
            have g7 : o.length + d - o.length = d := by omega
            have g8 : o.length - (o.length - d) = d := by have := HD.out; omega
            have g9 : o.length - d ≤ o.length := by omega
            have g10 : o.length ≤ m := by omega
            have g11 : (o.length : Int) - (d : Int) ≤ (o.length : Int) := by omega
            have g12 : ¬ m = o.length - d := by have := HD.out; omega
            have g13 : ¬ m = o.length := by have := HD.out; omega
            have hlx : o.length + d ≤ m := by omega
            have hnd : d ≤ d := by omega
            have HND := Aside0.mk hnd
            have HLX := Aside0.mk hlx
            clear hlx hnd
            have f1 : IntKind.i64.wrap ((o.length : Int) + (d : Int)) = (o.length : Int) + (d : Int) := IntWalk.i64_in _ (by omega)
            have f2 : IntKind.i64.wrap ((o.length : Int) - (d : Int)) = (o.length : Int) - (d : Int) := IntWalk.i64_in _ (by omega)
            go_region_law ((refine step_copy_cells (by rfl) (.tmp 62) (.tmp 69) 41 41 (by rfl) 5 Try.underlying41 (by kernel_rfl) w1.heap.size o.length (o.length - d) d _ d _ (by rfl) (by rfl) (outRow o m) 5 (by exact HG6.out) (Lib.byteCells ((o.drop (o.length - d)).take d)) (chunk_len o d d HD.out.2.1) d ((chunk_len o d d HD.out.2.1).trans (Nat.min_eq_right HND.out)) (chunk_at o m d d HD.out.2.1) (chunk_fits o m d d HD.out.2.1 HLX.out) (Lib.byteCells_one _) ?_; intro w5 HG7 HK7 HW7))
            all_goals
              clear f1 f2 g1 g2 g3 g4 g5 g6 g7 g8 g9 g10 g11 g12 g13 z0
              have BK8 : Aside0 (w5.heap[gb]? = some (.cells #[.string (Lz.mk lits), .int .i64 d, .int .i64 M] 35 (0, 0))) := ⟨(HK7.out gb (Ne.symm HNE.out)).trans BK6.out⟩
              have HW8 : Aside0 (Below w1.heap.size w1 w5) := ⟨Below.trans (below_drew1 HW6.out) HW7.out⟩
              have HG8 : Aside0 (w5.heap[w1.heap.size]? = some (.cells (outRow (Lz.rep o d d) m).toArray 5 (0, 0))) := ⟨by rw [HG7.out, chunk_out o m d d HND.out HD.out.2.1 HLX.out]⟩
              clear HK7 HG7 HW7 HG6 HW6 BK6
              go_wp2
              go_roundw
              case rel => exact ⟨left - d, Lz.rep o d d, by first | rfl | (congr 1; omega) | go_num, by rw [Lz.length_rep]; go_num, ⟨by rw [rep_add, show d + (left - d) = left from by have := HLT2.out; omega]; exact HQ.out⟩, ⟨by have := HLe.out; omega, by rw [Lz.length_rep]; have := HLe.out; have := HLT2.out; omega⟩, HG8, BK8, HW8⟩
              case measure => simp [intOf]; have := HD.out; omega
          · have e1 : decide ((d : Int) < (left : Int)) = false := decide_eq_false (by omega)
            have e2 : decide (d < left) = false := decide_eq_false hdl
            have e3 : ¬ d < left := hdl
            have b4 : (left : Int) ≤ (d : Int) := by omega
            have HLT2 : Aside0 (left ≤ left) := ⟨Nat.le_refl _⟩
            clear hdl
            go_wp2
            have g1 : (0 : Int) ≤ (o.length : Int) + (left : Int) := by omega
            have g2 : (o.length : Int) + (left : Int) ≤ (m : Int) := by omega
            have g3 : (0 : Int) ≤ (o.length : Int) - (d : Int) := by omega
            have g4 : (o.length : Int) - (d : Int) ≤ (m : Int) := by omega
            have g5 : ((o.length : Int) + (left : Int)).toNat = o.length + left := by omega
            have g6 : ((o.length : Int) - (d : Int)).toNat = o.length - d := by omega
            have g7 : o.length + left - o.length = left := by omega
            have g8 : o.length - (o.length - d) = d := by have := HD.out; omega
            have g9 : o.length - d ≤ o.length := by omega
            have g10 : o.length ≤ m := by omega
            have g11 : (o.length : Int) - (d : Int) ≤ (o.length : Int) := by omega
            have g12 : ¬ m = o.length - d := by have := HD.out; omega
            have g13 : ¬ m = o.length := by have := HD.out; omega
            have hlx : o.length + left ≤ m := by omega
            have hnd : left ≤ d := by omega
            have HND := Aside0.mk hnd
            have HLX := Aside0.mk hlx
            clear hlx hnd
            have f1 : IntKind.i64.wrap ((o.length : Int) + (left : Int)) = (o.length : Int) + (left : Int) := IntWalk.i64_in _ (by omega)
            have f2 : IntKind.i64.wrap ((o.length : Int) - (d : Int)) = (o.length : Int) - (d : Int) := IntWalk.i64_in _ (by omega)
            go_region_law ((refine step_copy_cells (by rfl) (.tmp 62) (.tmp 69) 41 41 (by rfl) 5 Try.underlying41 (by kernel_rfl) w1.heap.size o.length (o.length - d) left _ d _ (by rfl) (by rfl) (outRow o m) 5 (by exact HG6.out) (Lib.byteCells ((o.drop (o.length - d)).take left)) (chunk_len o d left HD.out.2.1) left ((chunk_len o d left HD.out.2.1).trans (Nat.min_eq_right HND.out)) (chunk_at o m d left HD.out.2.1) (chunk_fits o m d left HD.out.2.1 HLX.out) (Lib.byteCells_one _) ?_; intro w5 HG7 HK7 HW7))
            all_goals
              clear f1 f2 g1 g2 g3 g4 g5 g6 g7 g8 g9 g10 g11 g12 g13 z0
              have BK8 : Aside0 (w5.heap[gb]? = some (.cells #[.string (Lz.mk lits), .int .i64 d, .int .i64 M] 35 (0, 0))) := ⟨(HK7.out gb (Ne.symm HNE.out)).trans BK6.out⟩
              have HW8 : Aside0 (Below w1.heap.size w1 w5) := ⟨Below.trans (below_drew1 HW6.out) HW7.out⟩
              have HG8 : Aside0 (w5.heap[w1.heap.size]? = some (.cells (outRow (Lz.rep o d left) m).toArray 5 (0, 0))) := ⟨by rw [HG7.out, chunk_out o m d left HND.out HD.out.2.1 HLX.out]⟩
              clear HK7 HG7 HW7 HG6 HW6 BK6
              go_wp2
              go_roundw
              case rel => exact ⟨left - left, Lz.rep o d left, by first | rfl | (congr 1; omega) | go_num, by rw [Lz.length_rep]; go_num, ⟨by rw [rep_add, show left + (left - left) = left from by have := HLT2.out; omega]; exact HQ.out⟩, ⟨by have := HLe.out; omega, by rw [Lz.length_rep]; have := HLe.out; have := HLT2.out; omega⟩, HG8, BK8, HW8⟩
              case measure => simp [intOf]; have := HD.out; omega
        · obtain rfl : left = 0 := by omega
          have HQ2 : Aside0 (o = Lz.rep (out ++ lits) d M) := ⟨HQ.out⟩
          have HE : Aside0 (rest = q.drop (i + 1)) := ⟨by rw [← List.drop_drop, HR.out]; rfl⟩
          have p1 : (i : Int) < (l.length : Int) := by have := HLT.out; omega
          have p2 : (l.length : Int) ≤ 9223372036854775800 := by have := LLEN.out; omega
          clear h0
          go_wp2
          go_roundw
          case rel => exact ⟨i + 1, o, by go_num, rfl, ⟨HLT.out⟩, ⟨by rw [← HE.out, HQ2.out]; have h := HO.out; rw [HR.out] at h; exact h⟩, ⟨by have h := HFt.out; rw [HR.out] at h; have h2 := h.2; rw [HE.out] at h2; have h3 := HLe.out; rw [show o.length = out.length + lits.length + M from by omega]; exact h2⟩, ⟨by have h3 := HLe.out; have h4 := HS3.out; rw [← HE.out]; omega⟩, HG6, HW6⟩
          case measure => simp [intOf]; have := HLT.out; omega
    · have hil : i = l.length := by have := HI.out; omega
      have hq : q.drop i = [] := by rw [hil, HL.out]; simp
      have hoo : out = Lz.openL q := by have h := HO.out; rw [hq] at h; exact h
      have hlen : out.length = m := by have h := HS.out; rw [hq] at h; simpa [Lz.total] using h
      have hconv : (convert 41 9 (.slice (some ⟨w1.heap.size, 0, none⟩) m m)).run Try.prog wr = .ok (.string (Lz.mk out)) wr := by
        rw [← str_mk]
        refine run_convert_bytes_arg wr 41 5 Try.underlying41 Try.underlying5 w1.heap.size 0 m m _ (by simp [hlen]) (fun j hj => ?_) 9 Try.underlying9
        have hj' : j < out.length := by omega
        rw [blk_cell HG.out]
        have hx : (outRow out m)[j]? = some (.int .u8 (out[j].toNat : Int)) := by
          unfold outRow
          rw [List.getElem?_append_left (by rw [byteCells_len]; exact hj')]
          simp [Lib.byteCells, hj']
        simp [hx, hj', List.getD]
      have HOO := Aside0.mk hoo
      clear hq hoo hlen hil
      go_wp2
      go_ret2
      exact ⟨by rw [HOO.out]; rfl, Below.trans HB.out (HW.out.mono HB.out.size)⟩

theorem lz_Unpack.calls (a0 : ByteArray) (a1 : Int) (r1 : ByteArray) (r2 : Int) (w : World) (h : lz_Unpack.f a0 a1 = some (r1, r2)) :
    Calls Try.prog 10 #[.string a0, .int .i64 a1] w fun e w' => e = .returned (.tuple #[.string r1, .int .i64 r2]) ∧ Below w.heap.size w w' := by
  unfold lz_Unpack.f at h
  by_cases hs : a0.size ≤ 200000
  · rw [if_pos hs] at h
    injection h with h
    unfold Lz.unpackOf at h
    by_cases h0 : a1 < 0
    · rw [if_pos h0] at h; cases h
      exact unpack_low a0 a1 w h0
    · rw [if_neg h0] at h
      by_cases h1 : a1 > 1048576
      · rw [if_pos h1] at h; cases h
        exact unpack_high a0 a1 w h1
      · rw [if_neg h1] at h
        obtain ⟨l, n, ok, hp, hq⟩ := Lz.parse_total a0 hs
        cases hpq : Lz.parseOf a0 with
        | none =>
          rw [hpq] at h hq
          simp only at h hq
          cases h; subst hq
          exact unpack_none a0 a1 _ l n w (by omega) (by omega) hp
        | some q =>
          rw [hpq] at h hq
          simp only at h hq
          obtain ⟨rfl, hl, hn⟩ := hq
          by_cases ht : (Lz.total q : Int) = a1
          · rw [if_pos ht] at h; cases h
            have hn2 : n = (Lz.total q : Int) := by rw [hn]; omega
            subst ht
            rw [hn2] at hp
            have hlen := Lz.parse_len _ _ _ _ hpq
            rw [data_length] at hlen
            exact unpack_main a0 (Lz.total q) _ q l w (by omega) hl rfl (Lz.parse_fits _ _ _ _ hpq) (by rw [hl, List.length_map]; omega) hp
          · rw [if_neg ht] at h; cases h
            exact unpack_other a0 a1 _ l n w (by omega) (by omega) (by omega) hp
  · rw [if_neg hs] at h; cases h

end Go.Proofs.Ytflkjofafgoapaa.Q
