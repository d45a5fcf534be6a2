/- Of the proof about model: several texts, joined. -/
import Derived.Test.YtkicenkljjpcfaaGreatDoorMJ
import Derived.Test.YtkicenkljjpcfaaGreatDoorMA
set_option linter.unusedVariables false
set_option linter.unusedSimpArgs false
set_option linter.unusedSimpArgs false
namespace Go.Proofs.YtkicenkljjpcfaaGreatDoor.Q
open Go.RowKit Go.Proofs.YtkicenkljjpcfaaGreatDoorW.PrintWords Go.Proofs.YtkicenkljjpcfaaGreatDoorW.PrintLast Go.Proofs.YtkicenkljjpcfaaGreatDoorW.PrintMore
theorem results1 {fn : Func} {t : Tmp} {ty : TypeId} (h : fn.results = #[.cell t ty]) (tmps : Array Value) {P : Program} {w : World} (ad : Addr) (hp : tmps.getD t undef = .pointer (some ad)) {v : Value} (hl : (loadVar ty ad).run P w = .ok v w) :
    (results fn tmps).run P w = .ok v w := by
  have hp2 : tmps[t]?.getD undef = .pointer (some ad) := by rw [← Array.getD_eq_getD_getElem?]; exact hp
  simp [results, h, hp2, asAddr, Sem.run_bind, hl]
abbrev aggE (x : Ev) : Value := .agg (encE x).toArray
set_option maxHeartbeats 8000000 in
set_option maxRecDepth 100000 in
theorem event_calls (job : Int) (beg : Bool) (c : Cm) (r : Re) (w : World) : Calls Tryz.prog 14 #[.int .i64 job, .bool beg, .agg (encC c).toArray, .agg (encR r).toArray] w fun e w' => e = .returned (aggE (⟨job, beg, c, r⟩ : Ev)) ∧ Below w.heap.size w w' := by
  have HB0 : Aside0 (Below w.heap.size w (((w.alloc (.cells #[.int .i64 c.kind, .slice c.eA c.eN c.eC, .int .i64 c.time, .string c.host, .string c.parent, .slice c.iA c.iN c.iC, .string c.path, .slice c.uA c.uN c.uC, .int .i64 c.percent, .bool c.rd] 28)).alloc (.cells #[.int .i64 r.code, .string r.id, .int .i64 r.n, .slice r.jA r.jN r.jC, .slice r.tA r.tN r.tC, .slice r.fA r.fN r.fC, .slice r.sA r.sN r.sC] 32)).alloc (.cells #[.int .i64 0, .bool false, .int .i64 0, .slice none 0 0, .int .i64 0, .string ⟨#[]⟩, .string ⟨#[]⟩, .slice none 0 0, .string ⟨#[]⟩, .slice none 0 0, .int .i64 0, .bool false, .int .i64 0, .string ⟨#[]⟩, .int .i64 0, .slice none 0 0, .slice none 0 0, .slice none 0 0, .slice none 0 0] 34))) := ⟨below_alloc (below_alloc (below_alloc (Below.refl _ _) _) _) _⟩
  have H28 : Aside0 ((((w.alloc (.cells #[.int .i64 c.kind, .slice c.eA c.eN c.eC, .int .i64 c.time, .string c.host, .string c.parent, .slice c.iA c.iN c.iC, .string c.path, .slice c.uA c.uN c.uC, .int .i64 c.percent, .bool c.rd] 28)).alloc (.cells #[.int .i64 r.code, .string r.id, .int .i64 r.n, .slice r.jA r.jN r.jC, .slice r.tA r.tN r.tC, .slice r.fA r.fN r.fC, .slice r.sA r.sN r.sC] 32)).alloc (.cells #[.int .i64 0, .bool false, .int .i64 0, .slice none 0 0, .int .i64 0, .string ⟨#[]⟩, .string ⟨#[]⟩, .slice none 0 0, .string ⟨#[]⟩, .slice none 0 0, .int .i64 0, .bool false, .int .i64 0, .string ⟨#[]⟩, .int .i64 0, .slice none 0 0, .slice none 0 0, .slice none 0 0, .slice none 0 0] 34)).heap[w.heap.size]? = some (.cells (encC c).toArray 28 (0, 0))) := ⟨blk_old (blk_old (blk_new rfl))⟩
  have H32 : Aside0 ((((w.alloc (.cells #[.int .i64 c.kind, .slice c.eA c.eN c.eC, .int .i64 c.time, .string c.host, .string c.parent, .slice c.iA c.iN c.iC, .string c.path, .slice c.uA c.uN c.uC, .int .i64 c.percent, .bool c.rd] 28)).alloc (.cells #[.int .i64 r.code, .string r.id, .int .i64 r.n, .slice r.jA r.jN r.jC, .slice r.tA r.tN r.tC, .slice r.fA r.fN r.fC, .slice r.sA r.sN r.sC] 32)).alloc (.cells #[.int .i64 0, .bool false, .int .i64 0, .slice none 0 0, .int .i64 0, .string ⟨#[]⟩, .string ⟨#[]⟩, .slice none 0 0, .string ⟨#[]⟩, .slice none 0 0, .int .i64 0, .bool false, .int .i64 0, .string ⟨#[]⟩, .int .i64 0, .slice none 0 0, .slice none 0 0, .slice none 0 0, .slice none 0 0] 34)).heap[w.heap.size + 1]? = some (.cells (encR r).toArray 32 (0, 0))) := ⟨blk_old (blk_new (by simp))⟩
  have H34 : Aside0 ((((w.alloc (.cells #[.int .i64 c.kind, .slice c.eA c.eN c.eC, .int .i64 c.time, .string c.host, .string c.parent, .slice c.iA c.iN c.iC, .string c.path, .slice c.uA c.uN c.uC, .int .i64 c.percent, .bool c.rd] 28)).alloc (.cells #[.int .i64 r.code, .string r.id, .int .i64 r.n, .slice r.jA r.jN r.jC, .slice r.tA r.tN r.tC, .slice r.fA r.fN r.fC, .slice r.sA r.sN r.sC] 32)).alloc (.cells #[.int .i64 0, .bool false, .int .i64 0, .slice none 0 0, .int .i64 0, .string ⟨#[]⟩, .string ⟨#[]⟩, .slice none 0 0, .string ⟨#[]⟩, .slice none 0 0, .int .i64 0, .bool false, .int .i64 0, .string ⟨#[]⟩, .int .i64 0, .slice none 0 0, .slice none 0 0, .slice none 0 0, .slice none 0 0] 34)).heap[w.heap.size + 1 + 1]? = some (.cells #[.int .i64 0, .bool false, .int .i64 0, .slice none 0 0, .int .i64 0, .string ⟨#[]⟩, .string ⟨#[]⟩, .slice none 0 0, .string ⟨#[]⟩, .slice none 0 0, .int .i64 0, .bool false, .int .i64 0, .string ⟨#[]⟩, .int .i64 0, .slice none 0 0, .slice none 0 0, .slice none 0 0, .slice none 0 0] 34 (0, 0))) := ⟨blk_new (by simp)⟩
  go_enter Tryz.func14, Tryz.ntmps14
  go_upto_region 1 with (fail)
  generalize (((w.alloc (.cells #[.int .i64 c.kind, .slice c.eA c.eN c.eC, .int .i64 c.time, .string c.host, .string c.parent, .slice c.iA c.iN c.iC, .string c.path, .slice c.uA c.uN c.uC, .int .i64 c.percent, .bool c.rd] 28)).alloc (.cells #[.int .i64 r.code, .string r.id, .int .i64 r.n, .slice r.jA r.jN r.jC, .slice r.tA r.tN r.tC, .slice r.fA r.fN r.fC, .slice r.sA r.sN r.sC] 32)).alloc (.cells #[.int .i64 0, .bool false, .int .i64 0, .slice none 0 0, .int .i64 0, .string ⟨#[]⟩, .string ⟨#[]⟩, .slice none 0 0, .string ⟨#[]⟩, .slice none 0 0, .int .i64 0, .bool false, .int .i64 0, .string ⟨#[]⟩, .int .i64 0, .slice none 0 0, .slice none 0 0, .slice none 0 0, .slice none 0 0] 34)) = W0 at HB0 H28 H32 H34 ⊢
  obtain ⟨g, hg⟩ : ∃ g, g = w.heap.size := ⟨_, rfl⟩
  have HGE : Aside0 (w.heap.size ≤ g + 1 + 1) := ⟨by omega⟩
  rw [← hg] at H28 H32 H34 ⊢
  clear hg
  go_wp2_with (first | ((with_reducible refine gate_dst (N := 11) rfl ?_); refine wpList_load_any (by rfl) 28 (.tmp 6) rfl ⟨g, 0, none⟩ rfl (encC c) _ (cells_blk H28.out) Tryz.underlying28 rfl s28 ?_) | ((with_reducible refine gate_dst (N := 12) rfl ?_); refine wpList_load_any (by rfl) 32 (.tmp 7) rfl ⟨g + 1, 0, none⟩ rfl (encR r) _ (cells_blk H32.out) Tryz.underlying32 rfl s32 ?_) | (refine wpList_store_new rfl 34 (.tmp 8) (.tmp 13) rfl (g + 1 + 1) _ (encE (⟨job, beg, c, r⟩ : Ev)) 34 rfl rfl H34.out rfl s34 (encE_one _) ?_; intro wy hy1 hy2; have HX := Aside0.mk hy1; have HBY : Aside0 (Below w.heap.size w wy) := ⟨pw_below_grown HB0.out _ HB0.out.size hy2 (fun k hk => by injection hk with hk; have := HGE.out; omega)⟩; clear hy1 hy2))
  (try simp only [Exit.inBlock, Exit.then])
  refine bodyPost_ret (results1 rfl _ ⟨g + 1 + 1, 0, none⟩ rfl (run_load_any wy _ 34 (encE (⟨job, beg, c, r⟩ : Ev)) _ (cells_blk HX.out) Tryz.underlying34 rfl s34)) rfl ?_
  exact ⟨rfl, HBY.out⟩
end Go.Proofs.YtkicenkljjpcfaaGreatDoor.Q
/- works of the law, walked: the chapter's example. -/
set_option linter.unusedSimpArgs false
namespace Go.Proofs.YtkicenkljjpcfaaGreatDoor.Q
open Go.RowKit Go.Proofs.YtkicenkljjpcfaaGreatDoorW.PrintWords Go.Proofs.YtkicenkljjpcfaaGreatDoorW.PrintLast Go.Proofs.YtkicenkljjpcfaaGreatDoorW.PrintMore
theorem repeat_i (w : World) : ∃ x : ByteArray, x.size = 32 ∧ Calls Tryz.prog 13 #[.string ⟨#[105]⟩, .int .i64 32] w fun e w' => e = .returned (.string x) ∧ Below w.heap.size w w' :=
  ⟨_, rfl, Go.Proofs.Tryz.strings_Repeat ⟨#[105]⟩ 32 w (by decide) (by decide)⟩
def cB : Cm := ⟨2, none, 0, 0, 0, ⟨#[]⟩, ⟨#[]⟩, none, 0, 0, ⟨#[]⟩, none, 0, 0, 0, false, [], []⟩
def cR (x : ByteArray) (g : Nat) : Cm := ⟨3, none, 0, 0, 0, ⟨#[]⟩, ⟨#[]⟩, some ⟨g, 0, none⟩, 1, 1, ⟨#[]⟩, none, 0, 0, 0, false, [], [x]⟩
def rI (x : ByteArray) : Re := ⟨0, x, 0, none, 0, 0, none, 0, 0, none, 0, 0, none, 0, 0, [], []⟩
def rN : Re := ⟨5, ⟨#[]⟩, 0, none, 0, 0, none, 0, 0, none, 0, 0, none, 0, 0, [], []⟩
def E0 : Ev := ⟨1, true, cB, zeroRe⟩
def E1 (x : ByteArray) : Ev := ⟨1, false, cB, rI x⟩
def E2 (x : ByteArray) (g : Nat) : Ev := ⟨2, true, cR x g, zeroRe⟩
def E3 (x : ByteArray) (g : Nat) : Ev := ⟨2, false, cR x g, rN⟩
def ex4 (x : ByteArray) (g : Nat) : List Ev := [E0, E1 x, E2 x g, E3 x g]
def ex3 (x : ByteArray) (g : Nat) : List Ev := [E0, E1 x, E2 x g]
theorem lit4_run {o : Oper} {x0 x1 x2 x3 : Ev} (a : Act) (w : World) (ho : o.op = .buildSlice 22 4 #[(0, .tmp 16), (1, .tmp 20), (2, .tmp 23), (3, .tmp 26)]) (h0 : a.eval (.tmp 16) = aggE x0) (h1 : a.eval (.tmp 20) = aggE x1) (h2 : a.eval (.tmp 23) = aggE x2) (h3 : a.eval (.tmp 26) = aggE x3) :
    (execOp a.eval o).run Tryz.prog w = .ok (.value (.slice (some ⟨w.heap.size, 0, none⟩) 4 4)) (w.alloc (.cells (encE x0 ++ encE x1 ++ encE x2 ++ encE x3).toArray 34)) := by
  have g0 : a.tmps[16]?.getD undef = aggE x0 := by rw [← Array.getD_eq_getD_getElem?]; exact h0
  have g1 : a.tmps[20]?.getD undef = aggE x1 := by rw [← Array.getD_eq_getD_getElem?]; exact h1
  have g2 : a.tmps[23]?.getD undef = aggE x2 := by rw [← Array.getD_eq_getD_getElem?]; exact h2
  have g3 : a.tmps[26]?.getD undef = aggE x3 := by rw [← Array.getD_eq_getD_getElem?]; exact h3
  clear h0 h1 h2 h3
  unfold execOp
  simp only [ho]
  go_simp
theorem ex4_check (x : ByteArray) (g : Nat) : checkP (ex4 x g) = true := rfl
theorem ex3_check (x : ByteArray) (g : Nat) : checkP (ex3 x g) = true := rfl
def S0 (x : ByteArray) : Sp := ⟨cB, rI x, 0, 1, false⟩
def S1 (x : ByteArray) (g : Nat) : Sp := ⟨cR x g, rN, 2, 3, false⟩
def S2 (x : ByteArray) (g : Nat) : Sp := ⟨cR x g, zeroRe, 2, 3, true⟩
theorem ex4_spans (x : ByteArray) (g : Nat) : spansP (ex4 x g) = [S0 x, S1 x g] := rfl
theorem ex3_spans (x : ByteArray) (g : Nat) : spansP (ex3 x g) = [S0 x, S2 x g] := rfl
theorem S0_right (all : List Sp) {x : ByteArray} (hx : x.size = 32) : wrongP all (S0 x) = false := by
  have : wrongP all (S0 x) = ((x.size : Int) != 32) := rfl
  rw [this, hx]; rfl
theorem S1_wrong {x : ByteArray} (g : Nat) : wrongP [S0 x, S1 x g] (S1 x g) = true := by
  have e : eqT x x = true := by unfold eqT; simp
  have m0 : madeP (S0 x) x = true := by
    have : madeP (S0 x) x = eqT x x := rfl
    rw [this, e]
  have k0 : keepsP [S0 x, S1 x g] (S0 x) x 2 3 = true := by
    have : keepsP [S0 x, S1 x g] (S0 x) x 2 3 = (madeP (S0 x) x && true) := rfl
    rw [this, m0]; rfl
  have s0 : sureP [S0 x, S1 x g] x 2 3 = true := by
    have : sureP [S0 x, S1 x g] x 2 3 = (keepsP [S0 x, S1 x g] (S0 x) x 2 3 || (keepsP [S0 x, S1 x g] (S1 x g) x 2 3 || false)) := rfl
    rw [this, k0]; rfl
  have q0 : mq (S1 x g) (S0 x) = true := mq_empty m0 (by unfold neP; rw [show (S1 x g).c.path.toList = [] from by rw [toList_data]; rfl]; rfl)
  have : wrongP [S0 x, S1 x g] (S1 x g) = (sureP [S0 x, S1 x g] x 2 3 && (mq (S1 x g) (S0 x) || (mq (S1 x g) (S1 x g) || false))) := rfl
  rw [this, s0, q0]; rfl
theorem ex4_judge {x : ByteArray} (g : Nat) (hx : x.size = 32) : judgeP (ex4 x g) = 4 := by
  unfold judgeP
  rw [ex4_check, if_pos rfl, ex4_spans]
  show badStep [S0 x, S1 x g] (badStep [S0 x, S1 x g] 0 (S0 x)) (S1 x g) = 4
  have h1 : badStep [S0 x, S1 x g] 0 (S0 x) = 0 := by unfold badStep; rw [S0_right _ hx]; rfl
  rw [h1]
  unfold badStep
  rw [S1_wrong, show (S1 x g).e = 3 from rfl, show wrap64 (3 + 1) = 4 from by unfold wrap64; omega]; rfl
theorem ex3_judge {x : ByteArray} (g : Nat) (hx : x.size = 32) : judgeP (ex3 x g) = 0 := by
  unfold judgeP
  rw [ex3_check, if_pos rfl, ex3_spans]
  show badStep [S0 x, S2 x g] (badStep [S0 x, S2 x g] 0 (S0 x)) (S2 x g) = 0
  have h1 : badStep [S0 x, S2 x g] 0 (S0 x) = 0 := by unfold badStep; rw [S0_right _ hx]; rfl
  rw [h1]
  have h2 : wrongP [S0 x, S2 x g] (S2 x g) = false := rfl
  unfold badStep
  rw [h2]; rfl
theorem flatE_get : ∀ (l : List Ev) (j : Nat) (p : Ev) (i : Nat), l[j]? = some p → i < 19 → (l.flatMap encE)[j * 19 + i]? = (encE p)[i]?
  | [], j, p, i, h, _ => by simp at h
  | a :: l, 0, p, i, h, hi => by
    simp only [List.getElem?_cons_zero, Option.some.injEq] at h
    subst h
    rw [List.flatMap_cons, List.getElem?_append_left (by show _ < 19; omega), Nat.zero_mul, Nat.zero_add]
  | a :: l, j + 1, p, i, h, hi => by
    rw [List.getElem?_cons_succ] at h
    rw [List.flatMap_cons, List.getElem?_append_right (by show 19 ≤ _; omega), show (j + 1) * 19 + i - (encE a).length = j * 19 + i from by show (j + 1) * 19 + i - 19 = _; omega]
    exact flatE_get l j p i h hi
theorem ex_row {w : World} {g : Nat} {l : List Ev} (h : w.heap[g]? = some (.cells (l.flatMap encE).toArray 34 (0, 0))) (hl : l.length ≤ 10000) : ∀ n, n ≤ l.length → Kd.C kE w (some ⟨g, 0, none⟩) (l.take n).length (l.take n) := by
  intro n hn
  refine ⟨rfl, by rw [List.length_take]; omega, fun _ => ⟨_, rfl, fun j p hj => ⟨encE p, rfl, rfl, fun i u hu => ?_⟩⟩⟩
  have hi : i < 19 := (List.getElem?_eq_some_iff.1 hu).1
  rw [add_off, blk_cell h]
  have hj2 : l[j]? = some p := by
    have hjn : j < n := by have := (List.getElem?_eq_some_iff.1 hj).1; rw [List.length_take] at this; omega
    rwa [List.getElem?_take_of_lt hjn] at hj
  rw [List.getElem?_toArray]
  rw [← hu]
  exact flatE_get l j p i hj2 hi
theorem ex_wf {x : ByteArray} {g : Nat} : ∀ y ∈ ex4 x g, -9223372036854775808 ≤ y.job ∧ y.job ≤ 9223372036854775807 := by
  intro y hy
  simp only [ex4, List.mem_cons, List.not_mem_nil, or_false] at hy
  rcases hy with rfl | rfl | rfl | rfl <;> first | exact ⟨(by decide : (-9223372036854775808 : Int) ≤ 1), (by decide : (1 : Int) ≤ 9223372036854775807)⟩ | exact ⟨(by decide : (-9223372036854775808 : Int) ≤ 2), (by decide : (2 : Int) ≤ 9223372036854775807)⟩
theorem ex_len {x : ByteArray} {g : Nat} : ∀ y ∈ ex4 x g, LenE y := by
  intro y hy
  simp only [ex4, List.mem_cons, List.not_mem_nil, or_false] at hy
  rcases hy with rfl | rfl | rfl | rfl <;> first | exact ⟨Nat.zero_le 10000, Nat.zero_le 10000, ⟨Nat.zero_le 10000, fun e he => by cases he⟩, Nat.zero_le 10000, Nat.zero_le 1048576⟩ | exact ⟨Nat.zero_le 10000, (by decide : 1 ≤ 10000), ⟨Nat.zero_le 10000, fun e he => by cases he⟩, Nat.zero_le 10000, Nat.zero_le 1048576⟩
theorem rdC_cB (w : World) : RdC w cB := ⟨⟨Nat.le_refl _, rfl, Kd.C_nil _ _⟩, ⟨Nat.le_refl _, rfl, Kd.C_nil _ _⟩⟩
theorem rdR_nil {w : World} {r : Re} (h1 : r.jN = 0) (h2 : r.jC = 0) (h3 : r.rids = []) (h4 : r.fN = 0) (h5 : r.fC = 0) (h6 : r.rents = []) (h7 : r.jA = none) (h8 : r.fA = none) : RdR w r := by
  refine ⟨⟨by rw [h1, h2]; exact Nat.le_refl _, by rw [h1, h3]; rfl, ?_⟩, ⟨by rw [h4, h5]; exact Nat.le_refl _, by rw [h4, h6]; rfl, ?_⟩⟩
  · rw [h7, h1, h3]; exact Kd.C_nil _ _
  · rw [h8, h4, h6]; exact Kd.C_nil _ _
theorem rdC_cR {w : World} {x : ByteArray} {g : Nat} (h : w.cell? ⟨g, 0, none⟩ = some (.string x)) : RdC w (cR x g) := by
  refine ⟨⟨Nat.le_refl _, rfl, ⟨rfl, by show 1 ≤ _; omega, fun _ => ⟨_, rfl, fun j p hj => ?_⟩⟩⟩, ⟨Nat.le_refl _, rfl, Kd.C_nil _ _⟩⟩
  cases j with
  | zero =>
    simp only [cR, List.getElem?_cons_zero, Option.some.injEq] at hj
    subst hj
    refine ⟨[.string x], rfl, rfl, fun i u hu => ?_⟩
    cases i with
    | zero => simp only [List.getElem?_cons_zero, Option.some.injEq] at hu; rw [← hu]; exact h
    | succ i => simp at hu
  | succ j => simp [cR] at hj
theorem ex_rd {w : World} {x : ByteArray} {g : Nat} (h : w.cell? ⟨g, 0, none⟩ = some (.string x)) : ∀ y ∈ ex4 x g, RdE w y := by
  intro y hy
  simp only [ex4, List.mem_cons, List.not_mem_nil, or_false] at hy
  rcases hy with rfl | rfl | rfl | rfl
  · exact ⟨rdC_cB w, RdR.zero w⟩
  · exact ⟨rdC_cB w, rdR_nil rfl rfl rfl rfl rfl rfl rfl rfl⟩
  · exact ⟨rdC_cR h, RdR.zero w⟩
  · exact ⟨rdC_cR h, rdR_nil rfl rfl rfl rfl rfl rfl rfl rfl⟩
theorem ex_sub {x : ByteArray} {g : Nat} {P : Ev → Prop} (h : ∀ y ∈ ex4 x g, P y) : ∀ y ∈ ex3 x g, P y := fun y hy => h y (List.mem_of_mem_take (i := 3) (l := ex4 x g) hy)
set_option maxHeartbeats 8000000 in
set_option maxRecDepth 100000 in
theorem works_calls (w : World) : Calls Tryz.prog 4 #[] w fun e w' => e = .returned (.bool true) ∧ Below w.heap.size w w' := by
  obtain ⟨x, hx, hrep⟩ := repeat_i w
  have HSZ := Aside0.mk hx
  clear hx
  go_enter Tryz.func4, Tryz.ntmps4
  go_wp2_with (fail)
  refine hrep.mono ?_
  rintro e1 w1 ⟨rfl, hB⟩
  have HB0 : Aside0 (Below w.heap.size w (((w1.alloc (.cells #[.string x] 9)).alloc (.cells (encC cB).toArray 28)).alloc (.cells (encC (cR x w1.heap.size)).toArray 28))) := ⟨below_alloc (below_alloc (below_alloc hB _) _) _⟩
  have HI : Aside0 ((((w1.alloc (.cells #[.string x] 9)).alloc (.cells (encC cB).toArray 28)).alloc (.cells (encC (cR x w1.heap.size)).toArray 28)).heap[w1.heap.size]? = some (.cells #[.string x] 9 (0, 0))) := ⟨blk_old (blk_old (blk_new rfl))⟩
  have HBB : Aside0 ((((w1.alloc (.cells #[.string x] 9)).alloc (.cells (encC cB).toArray 28)).alloc (.cells (encC (cR x w1.heap.size)).toArray 28)).heap[w1.heap.size + 1]? = some (.cells (encC cB).toArray 28 (0, 0))) := ⟨blk_old (blk_new (by simp))⟩
  have HBR : Aside0 ((((w1.alloc (.cells #[.string x] 9)).alloc (.cells (encC cB).toArray 28)).alloc (.cells (encC (cR x w1.heap.size)).toArray 28)).heap[w1.heap.size + 1 + 1]? = some (.cells (encC (cR x w1.heap.size)).toArray 28 (0, 0))) := ⟨blk_new (by simp)⟩
  clear hB hrep
  go_upto_region 3 with (fail)
  rw [show (((w1.alloc (.cells #[.string x] 9)).alloc (.cells #[.int .i64 2, .slice none 0 0, .int .i64 0, .string ⟨#[]⟩, .string ⟨#[]⟩, .slice none 0 0, .string ⟨#[]⟩, .slice none 0 0, .int .i64 0, .bool false] 28)).alloc (.cells #[.int .i64 3, .slice none 0 0, .int .i64 0, .string ⟨#[]⟩, .string ⟨#[]⟩, .slice (some ⟨w1.heap.size, 0, none⟩) 1 1, .string ⟨#[]⟩, .slice none 0 0, .int .i64 0, .bool false] 28)) = (((w1.alloc (.cells #[.string x] 9)).alloc (.cells (encC cB).toArray 28)).alloc (.cells (encC (cR x w1.heap.size)).toArray 28)) from rfl]
  generalize (((w1.alloc (.cells #[.string x] 9)).alloc (.cells (encC cB).toArray 28)).alloc (.cells (encC (cR x w1.heap.size)).toArray 28)) = W0 at HB0 HI HBB HBR ⊢
  generalize w1.heap.size + 1 + 1 = gr at HBR ⊢
  generalize w1.heap.size + 1 = gb at HBB ⊢
  generalize w1.heap.size = g at HI HBR ⊢
  have HCB : ∀ (z : Up W0) j v, (encC cB)[j]? = some v → z.w.cell? ((⟨gb, 0, none⟩ : Addr).add j) = some v := fun z => cells_blk (blk_below HBB.out z.h)
  have HCR : ∀ (z : Up W0) j v, (encC (cR x g))[j]? = some v → z.w.cell? ((⟨gr, 0, none⟩ : Addr).add j) = some v := fun z => cells_blk (blk_below HBR.out z.h)
  refine start_ (n := 15) (ds := ([] : List Nat)) (S := fun w' => ∃ z : Up W0, w' = z.w) #[false, false, false, false, false, false, false, false, false, false, false, false, false, false, false] (by kernel_rfl) rfl rfl ⟨⟨_, below_drew (Below.refl _ _)⟩, rfl⟩ (fun hHeld => ?_)
  refine take_ (i := 0) (N := (some 14)) (v := .agg (encC cB).toArray) (a' := ?_) #[true, false, false, false, false, false, false, false, false, false, false, false, false, false, false] rfl rfl (by kernel_rfl) (fun _ _ _ h => h) (yieldsIf_load_any (by rfl) 28 (.tmp 2) rfl (⟨gb, 0, none⟩ : Addr) rfl (encC cB) _ (by rintro _ ⟨z, rfl⟩; exact HCB z) Tryz.underlying28 rfl s28) hHeld ?_ ?_
  rotate_left
  · simp only [Act.put, List.setIfInBounds_toArray, List.set_cons_zero, List.set_cons_succ, i64_w, i32_w]
    rfl
  refine take_ (i := 1) (N := (some 15)) (v := ?_) (a' := ?_) #[true, true, false, false, false, false, false, false, false, false, false, false, false, false, false] rfl rfl (by kernel_rfl) (fun _ _ _ h => h) (Or.inl ⟨by rfl, ?_⟩) hHeld ?_ ?_
  rotate_left
  · rintro w' ⟨z, rfl⟩
    go_simp
    try with_reducible rfl
  rotate_left
  · simp only [Act.put, List.setIfInBounds_toArray, List.set_cons_zero, List.set_cons_succ, i64_w, i32_w]
    rfl
  refine take_ (i := 3) (N := (some 17)) (v := .agg (encC cB).toArray) (a' := ?_) #[true, true, false, true, false, false, false, false, false, false, false, false, false, false, false] rfl rfl (by kernel_rfl) (fun _ _ _ h => h) (yieldsIf_load_any (by rfl) 28 (.tmp 2) rfl (⟨gb, 0, none⟩ : Addr) rfl (encC cB) _ (by rintro _ ⟨z, rfl⟩; exact HCB z) Tryz.underlying28 rfl s28) hHeld ?_ ?_
  rotate_left
  · simp only [Act.put, List.setIfInBounds_toArray, List.set_cons_zero, List.set_cons_succ, i64_w, i32_w]
    rfl
  refine take_ (i := 4) (N := (some 18)) (v := ?_) (a' := ?_) #[true, true, false, true, true, false, false, false, false, false, false, false, false, false, false] rfl rfl (by kernel_rfl) (fun _ _ _ h => h) (Or.inl ⟨by rfl, ?_⟩) hHeld ?_ ?_
  rotate_left
  · rintro w' ⟨z, rfl⟩
    go_simp
    try with_reducible rfl
  rotate_left
  · simp only [Act.put, List.setIfInBounds_toArray, List.set_cons_zero, List.set_cons_succ, i64_w, i32_w]
    rfl
  refine take_ (i := 5) (N := (some 19)) (v := ?_) (a' := ?_) #[true, true, false, true, true, true, false, false, false, false, false, false, false, false, false] rfl rfl (by kernel_rfl) (fun _ _ _ h => h) (Or.inl ⟨by rfl, ?_⟩) hHeld ?_ ?_
  rotate_left
  · rintro w' ⟨z, rfl⟩
    go_simp
    try with_reducible rfl
  rotate_left
  · simp only [Act.put, List.setIfInBounds_toArray, List.set_cons_zero, List.set_cons_succ, i64_w, i32_w]
    rfl
  refine take_ (i := 7) (N := (some 21)) (v := .agg (encC (cR x g)).toArray) (a' := ?_) #[true, true, false, true, true, true, false, true, false, false, false, false, false, false, false] rfl rfl (by kernel_rfl) (fun _ _ _ h => h) (yieldsIf_load_any (by rfl) 28 (.tmp 3) rfl (⟨gr, 0, none⟩ : Addr) rfl (encC (cR x g)) _ (by rintro _ ⟨z, rfl⟩; exact HCR z) Tryz.underlying28 rfl s28) hHeld ?_ ?_
  rotate_left
  · simp only [Act.put, List.setIfInBounds_toArray, List.set_cons_zero, List.set_cons_succ, i64_w, i32_w]
    rfl
  refine take_ (i := 8) (N := (some 22)) (v := ?_) (a' := ?_) #[true, true, false, true, true, true, false, true, true, false, false, false, false, false, false] rfl rfl (by kernel_rfl) (fun _ _ _ h => h) (Or.inl ⟨by rfl, ?_⟩) hHeld ?_ ?_
  rotate_left
  · rintro w' ⟨z, rfl⟩
    go_simp
    try with_reducible rfl
  rotate_left
  · simp only [Act.put, List.setIfInBounds_toArray, List.set_cons_zero, List.set_cons_succ, i64_w, i32_w]
    rfl
  refine take_ (i := 10) (N := (some 24)) (v := .agg (encC (cR x g)).toArray) (a' := ?_) #[true, true, false, true, true, true, false, true, true, false, true, false, false, false, false] rfl rfl (by kernel_rfl) (fun _ _ _ h => h) (yieldsIf_load_any (by rfl) 28 (.tmp 3) rfl (⟨gr, 0, none⟩ : Addr) rfl (encC (cR x g)) _ (by rintro _ ⟨z, rfl⟩; exact HCR z) Tryz.underlying28 rfl s28) hHeld ?_ ?_
  rotate_left
  · simp only [Act.put, List.setIfInBounds_toArray, List.set_cons_zero, List.set_cons_succ, i64_w, i32_w]
    rfl
  refine take_ (i := 11) (N := (some 25)) (v := ?_) (a' := ?_) #[true, true, false, true, true, true, false, true, true, false, true, true, false, false, false] rfl rfl (by kernel_rfl) (fun _ _ _ h => h) (Or.inl ⟨by rfl, ?_⟩) hHeld ?_ ?_
  rotate_left
  · rintro w' ⟨z, rfl⟩
    go_simp
    try with_reducible rfl
  rotate_left
  · simp only [Act.put, List.setIfInBounds_toArray, List.set_cons_zero, List.set_cons_succ, i64_w, i32_w]
    rfl
  refine one_ (i := 2) (N := (some 16)) #[true, true, true, true, true, true, false, true, true, false, true, true, false, false, false] rfl rfl (by kernel_rfl) (by decide) (fun K hK => ?_)
  refine goes_ Tryz.func14 (by kernel_rfl) rfl #[.int .i64 1, .bool true, .agg (encC cB).toArray, .agg (encR zeroRe).toArray] (by rfl) rfl rfl (by (try simp only [List.map_toArray, List.map_cons, List.map_nil]); first | done | rfl) ?_
  refine (event_calls 1 true cB zeroRe _).mono ?_
  rintro e2 v2 ⟨rfl, hB⟩
  have HV1 : Below W0.heap.size W0 v2 := below_step (below_drew (Below.refl _ _)) hB
  clear hB
  refine ⟨_, rfl, ?_⟩
  refine hK.out _ _ ⟨⟨_, HV1⟩, rfl⟩ (fun hHeld => ?_)
  clear hK K
  refine norm_ (a' := ?_) ?_ ?_
  rotate_left
  · show Act.put _ (some 16) _ = _
    simp only [Act.put, List.setIfInBounds_toArray, List.set_cons_zero, List.set_cons_succ, i64_w, i32_w]
    rfl
  refine one_ (i := 6) (N := (some 20)) #[true, true, true, true, true, true, true, true, true, false, true, true, false, false, false] rfl rfl (by kernel_rfl) (by decide) (fun K hK => ?_)
  refine goes_ Tryz.func14 (by kernel_rfl) rfl #[.int .i64 1, .bool false, .agg (encC cB).toArray, .agg (encR (rI x)).toArray] (by rfl) rfl rfl (by (try simp only [List.map_toArray, List.map_cons, List.map_nil]); first | done | rfl) ?_
  refine (event_calls 1 false cB (rI x) _).mono ?_
  rintro e6 v6 ⟨rfl, hB⟩
  have HV2 : Below W0.heap.size W0 v6 := below_step HV1 hB
  clear hB
  refine ⟨_, rfl, ?_⟩
  refine hK.out _ _ ⟨⟨_, HV2⟩, rfl⟩ (fun hHeld => ?_)
  clear hK K
  refine norm_ (a' := ?_) ?_ ?_
  rotate_left
  · show Act.put _ (some 20) _ = _
    simp only [Act.put, List.setIfInBounds_toArray, List.set_cons_zero, List.set_cons_succ, i64_w, i32_w]
    rfl
  refine one_ (i := 9) (N := (some 23)) #[true, true, true, true, true, true, true, true, true, true, true, true, false, false, false] rfl rfl (by kernel_rfl) (by decide) (fun K hK => ?_)
  refine goes_ Tryz.func14 (by kernel_rfl) rfl #[.int .i64 2, .bool true, .agg (encC (cR x g)).toArray, .agg (encR zeroRe).toArray] (by rfl) rfl rfl (by (try simp only [List.map_toArray, List.map_cons, List.map_nil]); first | done | rfl) ?_
  refine (event_calls 2 true (cR x g) zeroRe _).mono ?_
  rintro e9 v9 ⟨rfl, hB⟩
  have HV3 : Below W0.heap.size W0 v9 := below_step HV2 hB
  clear hB
  refine ⟨_, rfl, ?_⟩
  refine hK.out _ _ ⟨⟨_, HV3⟩, rfl⟩ (fun hHeld => ?_)
  clear hK K
  refine norm_ (a' := ?_) ?_ ?_
  rotate_left
  · show Act.put _ (some 23) _ = _
    simp only [Act.put, List.setIfInBounds_toArray, List.set_cons_zero, List.set_cons_succ, i64_w, i32_w]
    rfl
  refine one_ (i := 12) (N := (some 26)) #[true, true, true, true, true, true, true, true, true, true, true, true, true, false, false] rfl rfl (by kernel_rfl) (by decide) (fun K hK => ?_)
  refine goes_ Tryz.func14 (by kernel_rfl) rfl #[.int .i64 2, .bool false, .agg (encC (cR x g)).toArray, .agg (encR rN).toArray] (by rfl) rfl rfl (by (try simp only [List.map_toArray, List.map_cons, List.map_nil]); first | done | rfl) ?_
  refine (event_calls 2 false (cR x g) rN _).mono ?_
  rintro e12 v12 ⟨rfl, hB⟩
  have HV4 : Below W0.heap.size W0 v12 := below_step HV3 hB
  clear hB
  refine ⟨_, rfl, ?_⟩
  refine hK.out _ _ ⟨⟨_, HV4⟩, rfl⟩ (fun hHeld => ?_)
  clear hK K
  refine norm_ (a' := ?_) ?_ ?_
  rotate_left
  · show Act.put _ (some 26) _ = _
    simp only [Act.put, List.setIfInBounds_toArray, List.set_cons_zero, List.set_cons_succ, i64_w, i32_w]
    rfl
  refine one_ (i := 13) (N := (some 27)) #[true, true, true, true, true, true, true, true, true, true, true, true, true, true, false] rfl rfl (by kernel_rfl) (by decide) (fun K hK => ?_)
  rw [if_pos (by rfl)]
  show Oper.upon _ _ _ _ _ (Sem.run _ _ _)
  rw [lit4_run _ _ (by rfl) (x0 := E0) (x1 := E1 x) (x2 := E2 x g) (x3 := E3 x g) rfl rfl rfl rfl, Oper.upon_value]
  have HW5 : Below W0.heap.size W0 (v12.alloc (.cells (encE E0 ++ encE (E1 x) ++ encE (E2 x g) ++ encE (E3 x g)).toArray 34)) := below_alloc HV4 _
  refine hK.out _ _ ⟨⟨_, HW5⟩, rfl⟩ (fun hHeld => ?_)
  clear hK K
  refine norm_ (a' := ?_) ?_ ?_
  rotate_left
  · show Act.put _ (some 27) _ = _
    simp only [Act.put, List.setIfInBounds_toArray, List.set_cons_zero, List.set_cons_succ, i64_w, i32_w]
    rfl
  refine take_ (i := 14) (N := (some 4)) (v := ?_) (a' := ?_) #[true, true, true, true, true, true, true, true, true, true, true, true, true, true, true] rfl rfl (by kernel_rfl) (fun _ _ _ h => h) (Or.inl ⟨by rfl, ?_⟩) hHeld ?_ ?_
  rotate_left
  · rintro w' ⟨z, rfl⟩
    go_simp
    try with_reducible rfl
  rotate_left
  · simp only [Act.put, List.setIfInBounds_toArray, List.set_cons_zero, List.set_cons_succ, i64_w, i32_w]
    rfl
  refine done_ (by kernel_rfl) ?_
  have HWZ := Aside0.mk (below_step HB0.out HW5)
  have HRW : Aside0 ((v12.alloc (.cells (encE E0 ++ encE (E1 x) ++ encE (E2 x g) ++ encE (E3 x g)).toArray 34)).heap[v12.heap.size]? = some (.cells ((ex4 x g).flatMap encE).toArray 34 (0, 0))) := ⟨blk_new rfl⟩
  have HI5 := Aside0.mk (blk_below HI.out HW5)
  clear HCB HCR hHeld HV1 HV2 HV3 HV4 HW5 HI HBB HBR HB0
  generalize (v12.alloc (.cells (encE E0 ++ encE (E1 x) ++ encE (E2 x g) ++ encE (E3 x g)).toArray 34)) = w5 at HWZ HRW HI5 ⊢
  generalize v12.heap.size = ge at HRW ⊢
  have HC4 : Aside0 (Kd.C kE w5 (some ⟨ge, 0, none⟩) (ex4 x g).length (ex4 x g)) := ⟨ex_row HRW.out (by show 4 ≤ 10000; omega) 4 (Nat.le_refl _)⟩
  have HC3 : Aside0 (Kd.C kE w5 (some ⟨ge, 0, none⟩) (ex3 x g).length (ex3 x g)) := ⟨ex_row HRW.out (by show 4 ≤ 10000; omega) 3 (by show 3 ≤ 4; omega)⟩
  have HRD : Aside0 (∀ y ∈ ex4 x g, RdE w5 y) := ⟨ex_rd (cell_one HI5.out)⟩
  have HJ4 := Aside0.mk (pjudge_calls (some ⟨ge, 0, none⟩) 4 (ex4 x g) w5 HC4.out (by show 4 ≤ 1000; omega) ex_wf HRD.out ex_len)
  go_wp2_with (fail)
  refine HJ4.out.mono ?_
  rintro e6 w6 ⟨rfl, hB⟩
  have HB6 := Aside0.mk (below_step HWZ.out hB)
  have HJ3 := Aside0.mk (pjudge_calls (some ⟨ge, 0, none⟩) 4 (ex3 x g) w6 (Kd.C_below HC3.out hB) (by show 3 ≤ 1000; omega) (ex_sub ex_wf) (fun y hy => ⟨(ex_sub HRD.out y hy).1.below hB, (ex_sub HRD.out y hy).2.below hB⟩) (ex_sub ex_len))
  clear hB HJ4
  rw [ex4_judge g HSZ.out, ex4_check]
  unfold ckC
  go_wp2_with (fail)
  refine HJ3.out.mono ?_
  rintro e7 w7 ⟨rfl, hB⟩
  have HB7 := Aside0.mk (below_step HB6.out hB)
  clear hB HJ3
  rw [ex3_judge g HSZ.out, ex3_check]
  unfold ckC
  go_wp2_with (fail)
  go_ret
  exact ⟨rfl, HB7.out⟩
end Go.Proofs.YtkicenkljjpcfaaGreatDoor.Q
-- Made by wip/qprint.sh (a patched copy of the kit's print program) out of the translation. Lean checks it.
namespace Go.Proofs.YtkicenkljjpcfaaGreatDoor.Q
open Go.RowKit Go.Proofs.YtkicenkljjpcfaaGreatDoorW.PrintWords Go.Proofs.YtkicenkljjpcfaaGreatDoorW.PrintLast Go.Proofs.YtkicenkljjpcfaaGreatDoorW.PrintMore
attribute [local go_sem] max2_int min2_int max_two min_two max_three min_three max_four min_four   -- for this text's walks alone
set_option linter.unusedVariables false
set_option linter.unusedSimpArgs false

/-! ### garretbook_SameTexts: function 9 -/
def garretbook_SameTexts.l0 : Nat → List ByteArray → List ByteArray → Int → Option (Bool)
  | 0, _, _, _ => none
  | k + 1, x0, x1, x5 => if x5 < (x0.length : Int) then (if 0 ≤ x5 then (if x5 < (x1.length : Int) then (if (rdOf ByteArray.empty x0 x5).toList = (rdOf ByteArray.empty x1 x5).toList then (garretbook_SameTexts.l0 k x0 x1 (wrap64 (x5 + 1))) else (some false)) else (none)) else (none)) else (some true)
def garretbook_SameTexts.f (k : Nat) (l0 : List ByteArray) (l1 : List ByteArray) : Option (Bool) := if (l0.length : Int) = (l1.length : Int) then (garretbook_SameTexts.l0 k l0 l1 0) else (some false)
theorem garretbook_SameTexts.mono_l : ∀ k, (∀ y0 y1 y2, LeO (garretbook_SameTexts.l0 k y0 y1 y2) (garretbook_SameTexts.l0 (k + 1) y0 y1 y2))
  | 0 => fun _ _ _ r h => by simp [garretbook_SameTexts.l0] at h
  | k + 1 => by
    have ih0 := garretbook_SameTexts.mono_l k
    · intro y0 y1 y2
      unfold garretbook_SameTexts.l0
      repeat' first
      | (with_reducible exact ih0 _ _ _)
      | (with_reducible exact LeO.refl _)
      | (with_reducible exact LeO.none _)
      | (with_reducible refine LeO.ite ?_ ?_)
      | (with_reducible refine LeO.bind ?_ (fun _ => ?_))
      | exact ih0 _ _ _
      | exact LeO.none _
      | refine LeO.ite ?_ ?_
      | refine LeO.bind ?_ (fun _ => ?_)
theorem garretbook_SameTexts.mono : ∀ a0 a1 k, LeO (garretbook_SameTexts.f k a0 a1) (garretbook_SameTexts.f (k + 1) a0 a1) := by
  intro a0 a1 k
  have ih0 := garretbook_SameTexts.mono_l k
  unfold garretbook_SameTexts.f
  repeat' first
      | (with_reducible exact ih0 _ _ _)
      | (with_reducible exact LeO.refl _)
      | (with_reducible exact LeO.none _)
      | (with_reducible refine LeO.ite ?_ ?_)
      | (with_reducible refine LeO.bind ?_ (fun _ => ?_))
      | exact ih0 _ _ _
      | exact LeO.none _
      | refine LeO.ite ?_ ?_
      | refine LeO.bind ?_ (fun _ => ?_)
set_option maxHeartbeats 8000000 in
set_option maxRecDepth 100000 in
theorem garretbook_SameTexts.calls (k : Nat) (A0 : Option Addr) (c0 : Nat) (l0 : List ByteArray) (A1 : Option Addr) (c1 : Nat) (l1 : List ByteArray) (r : Bool) (w : World) (hr0 : Kd.C Kd.string w A0 l0.length l0) (hc0 : l0.length ≤ c0) (hr1 : Kd.C Kd.string w A1 l1.length l1) (hc1 : l1.length ≤ c1) (h : garretbook_SameTexts.f k l0 l1 = some r) :
    Calls Tryz.prog 9 #[.slice A0 l0.length c0, .slice A1 l1.length c1] w fun e w' => e = .returned (.bool r) ∧ Drawn0 w w' := by
  have HR0 := Aside0.mk hr0
  have HC0 := Aside0.mk hc0
  clear hr0 hc0
  have HR1 := Aside0.mk hr1
  have HC1 := Aside0.mk hc1
  clear hr1 hc1
  have H : (if (l0.length : Int) = (l1.length : Int) then (garretbook_SameTexts.l0 k l0 l1 0) else (some false)) = some r := h
  clear h
  by_cases c3 : (l0.length : Int) = (l1.length : Int)
  · rw [if_pos c3] at H
    have c3b0 : ((l0.length : Int) == (l1.length : Int)) = true := beq_iff_eq.mpr c3
    have c3b1 : ((l0.length : Int) != (l1.length : Int)) = false := bne_eq_false_iff_eq.mpr c3
    have c3b2 : (l0.length == l1.length) = true := by first | simpa using c3 | (simp at c3 ⊢; omega)
    clear c3
    have H' := Aside0.mk H
    clear H
    go_enter Tryz.func9, Tryz.ntmps9
    go_wp2
    repeat (go_quiet (fail); try go_wp2)
    go_loopg [5] k (fun kq v5 w' => ∃ (x5_1 : Int), v5 = .int .i64 x5_1 ∧ Aside0 (garretbook_SameTexts.l0 kq l0 l1 x5_1 = some r) ∧ Aside0 (kq ≤ k) ∧ Drawn0 w w')
    case atStart => exact ⟨(0), (by first | rfl | (simp; done) | (simp [*]; done)), H', ⟨Nat.le_refl _⟩, by repeat (first | exact Drawn0.refl _ | apply Drawn0.step)⟩
    case round =>
      clear H'
      try clear c1
      try clear p2
      try clear c3
      try clear c3b0
      try clear c3b1
      try clear c3b2
      obtain ⟨x5_1, rfl, HA, HK1, ⟨m1, rfl⟩⟩ := hrel
      cases gk with
      | zero => exact absurd HA.out (by simp [garretbook_SameTexts.l0])
      | succ k1 =>
        have H := HA.out
        clear HA
        simp only [garretbook_SameTexts.l0] at H
        by_cases c4 : x5_1 < (l0.length : Int)
        · rw [if_pos c4] at H
          have c4b0 : decide (x5_1 < (l0.length : Int)) = true := decide_eq_true c4
          clear c4
          by_cases c5 : 0 ≤ x5_1
          · rw [if_pos c5] at H
            have c5b0 : decide (0 ≤ x5_1) = true := decide_eq_true c5
            clear c5
            by_cases c6 : x5_1 < (l1.length : Int)
            · rw [if_pos c6] at H
              have c6b0 : decide (x5_1 < (l1.length : Int)) = true := decide_eq_true c6
              clear c6
              by_cases c7 : (rdOf ByteArray.empty l0 x5_1).toList = (rdOf ByteArray.empty l1 x5_1).toList
              · rw [if_pos c7] at H
                have c7b0 : ((rdOf ByteArray.empty l0 x5_1).toList == (rdOf ByteArray.empty l1 x5_1).toList) = true := beq_iff_eq.mpr c7
                have c7b1 : ((rdOf ByteArray.empty l0 x5_1).toList != (rdOf ByteArray.empty l1 x5_1).toList) = false := bne_eq_false_iff_eq.mpr c7
                clear c7
                have H' := Aside0.mk H
                clear H
                have p406 : 0 ≤ (x5_1 : Int) := of_decide_eq_true (by first | (with_reducible assumption) | assumption)
                have q406 : x5_1 < (l0.length : Int) := of_decide_eq_true (by first | (with_reducible assumption) | assumption)
                obtain ⟨ad406, e406, hx406_0⟩ := Kd.at_string HR0.out x5_1 p406 q406
                cases e406
                replace p406 := eq_true p406
                replace q406 := eq_true q406
                have p407 : 0 ≤ (x5_1 : Int) := of_decide_eq_true (by first | (with_reducible assumption) | assumption)
                have q407 : x5_1 < (l1.length : Int) := of_decide_eq_true (by first | (with_reducible assumption) | assumption)
                obtain ⟨ad407, e407, hx407_0⟩ := Kd.at_string HR1.out x5_1 p407 q407
                cases e407
                replace p407 := eq_true p407
                replace q407 := eq_true q407
                go_wp2
                repeat (go_quiet (fail); try go_wp2)
                go_roundg k1
                case measure => have := HK1.out; omega
                case rel => exact ⟨(wrap64 (x5_1 + 1)), (by first | rfl | (simp; done) | (simp [*]; done)), H', ⟨by have := HK1.out; omega⟩, by repeat (first | exact Drawn0.refl _ | apply Drawn0.step)⟩
              · rw [if_neg c7] at H
                have c7b0 : ((rdOf ByteArray.empty l0 x5_1).toList == (rdOf ByteArray.empty l1 x5_1).toList) = false := beq_eq_false_iff_ne.mpr c7
                have c7b1 : ((rdOf ByteArray.empty l0 x5_1).toList != (rdOf ByteArray.empty l1 x5_1).toList) = true := bne_iff_ne.mpr c7
                obtain rfl := Option.some.inj H
                have p406 : 0 ≤ (x5_1 : Int) := of_decide_eq_true (by first | (with_reducible assumption) | assumption)
                have q406 : x5_1 < (l0.length : Int) := of_decide_eq_true (by first | (with_reducible assumption) | assumption)
                obtain ⟨ad406, e406, hx406_0⟩ := Kd.at_string HR0.out x5_1 p406 q406
                cases e406
                replace p406 := eq_true p406
                replace q406 := eq_true q406
                have p407 : 0 ≤ (x5_1 : Int) := of_decide_eq_true (by first | (with_reducible assumption) | assumption)
                have q407 : x5_1 < (l1.length : Int) := of_decide_eq_true (by first | (with_reducible assumption) | assumption)
                obtain ⟨ad407, e407, hx407_0⟩ := Kd.at_string HR1.out x5_1 p407 q407
                cases e407
                replace p407 := eq_true p407
                replace q407 := eq_true q407
                go_wp2
                repeat (go_quiet (fail); try go_wp2)
                go_ret
                exact ⟨by first | rfl | (simp; done) | (simp [*]; done), by repeat (first | exact Drawn0.refl _ | apply Drawn0.step)⟩
            · rw [if_neg c6] at H
              exact absurd H (by simp)
          · rw [if_neg c5] at H
            exact absurd H (by simp)
        · rw [if_neg c4] at H
          have c4b0 : decide (x5_1 < (l0.length : Int)) = false := decide_eq_false c4
          clear c4
          obtain rfl := Option.some.inj H
          go_wp2
          repeat (go_quiet (fail); try go_wp2)
          go_ret
          exact ⟨by first | rfl | (simp; done) | (simp [*]; done), by repeat (first | exact Drawn0.refl _ | apply Drawn0.step)⟩
  · rw [if_neg c3] at H
    have c3b0 : ((l0.length : Int) == (l1.length : Int)) = false := beq_eq_false_iff_ne.mpr c3
    have c3b1 : ((l0.length : Int) != (l1.length : Int)) = true := bne_iff_ne.mpr c3
    have c3b2 : (l0.length == l1.length) = false := by first | simpa using c3 | (simp at c3 ⊢; omega)
    obtain rfl := Option.some.inj H
    go_enter Tryz.func9, Tryz.ntmps9
    go_wp2
    repeat (go_quiet (fail); try go_wp2)
    go_ret
    exact ⟨by first | rfl | (simp; done) | (simp [*]; done), by repeat (first | exact Drawn0.refl _ | apply Drawn0.step)⟩

end Go.Proofs.YtkicenkljjpcfaaGreatDoor.Q
-- Made by wip/qprint.sh (a patched copy of the kit's print program) out of the translation. Lean checks it.
namespace Go.Proofs.YtkicenkljjpcfaaGreatDoor.Q
open Go.RowKit Go.Proofs.YtkicenkljjpcfaaGreatDoorW.PrintWords Go.Proofs.YtkicenkljjpcfaaGreatDoorW.PrintLast Go.Proofs.YtkicenkljjpcfaaGreatDoorW.PrintMore
attribute [local go_sem] max2_int min2_int max_two min_two max_three min_three max_four min_four   -- for this text's walks alone
set_option linter.unusedVariables false
set_option linter.unusedSimpArgs false

/-! ### garretbook_SpoilTexts: function 12 -/
def garretbook_SpoilTexts.l0 : Nat → List ByteArray → Int → Option (List ByteArray)
  | 0, _, _ => none
  | k + 1, x0, x2 => if x2 < (x0.length : Int) then (if 0 ≤ x2 then (garretbook_SpoilTexts.l0 k (x0.set (x2 : Int).toNat (⟨#[115, 112, 111, 105, 108, 116]⟩ : ByteArray)) (wrap64 (x2 + 1))) else (none)) else (some x0)
def garretbook_SpoilTexts.f (k : Nat) (l0 : List ByteArray) : Option (List ByteArray) := garretbook_SpoilTexts.l0 k l0 0
theorem garretbook_SpoilTexts.mono_l : ∀ k, (∀ y0 y1, LeO (garretbook_SpoilTexts.l0 k y0 y1) (garretbook_SpoilTexts.l0 (k + 1) y0 y1))
  | 0 => fun _ _ r h => by simp [garretbook_SpoilTexts.l0] at h
  | k + 1 => by
    have ih0 := garretbook_SpoilTexts.mono_l k
    · intro y0 y1
      unfold garretbook_SpoilTexts.l0
      repeat' first
      | (with_reducible exact ih0 _ _)
      | (with_reducible exact LeO.refl _)
      | (with_reducible exact LeO.none _)
      | (with_reducible refine LeO.ite ?_ ?_)
      | (with_reducible refine LeO.bind ?_ (fun _ => ?_))
      | exact ih0 _ _
      | exact LeO.none _
      | refine LeO.ite ?_ ?_
      | refine LeO.bind ?_ (fun _ => ?_)
theorem garretbook_SpoilTexts.mono : ∀ a0 k, LeO (garretbook_SpoilTexts.f k a0) (garretbook_SpoilTexts.f (k + 1) a0) := by
  intro a0 k
  have ih0 := garretbook_SpoilTexts.mono_l k
  unfold garretbook_SpoilTexts.f
  repeat' first
      | (with_reducible exact ih0 _ _)
      | (with_reducible exact LeO.refl _)
      | (with_reducible exact LeO.none _)
      | (with_reducible refine LeO.ite ?_ ?_)
      | (with_reducible refine LeO.bind ?_ (fun _ => ?_))
      | exact ih0 _ _
      | exact LeO.none _
      | refine LeO.ite ?_ ?_
      | refine LeO.bind ?_ (fun _ => ?_)
set_option maxHeartbeats 8000000 in
set_option maxRecDepth 100000 in
theorem garretbook_SpoilTexts.calls (k : Nat) (P0_ : Nat → Prop) (u9000_ : Value) (l0 : List ByteArray) (r : List ByteArray) (w0 w : World) (hB : Below w0.heap.size w0 w) (ho0 : Kd.R Kd.string 9 w w0.heap.size P0_ u9000_ l0) (h : garretbook_SpoilTexts.f k l0 = some r) :
    Calls Tryz.prog 12 #[u9000_] w fun e w' => e = .returned (.tuple #[]) ∧ Kd.R Kd.string 9 w' w0.heap.size (fun k_ => (P0_ k_ ∨ w.heap.size ≤ k_)) u9000_ r ∧ Below w0.heap.size w0 w' ∧ Kept w w' (fun k_ => P0_ k_) := by
  have HO0 := Aside0.mk (show Kd.R Kd.string 9 w w0.heap.size (fun k_ => (P0_ k_ ∨ w.heap.size ≤ k_)) u9000_ l0 from Kd.R_mono ho0 (fun k_ hk => (.inl hk)))
  have HK := Aside0.mk (Kept.refl w (fun k_ => P0_ k_))
  have HW0 := Aside0.mk hB.size
  have HB := Aside0.mk hB
  clear hB
  have H : (garretbook_SpoilTexts.l0 k l0 0) = some r := h
  clear h
  have H' := Aside0.mk H
  clear H
  go_enter Tryz.func12, Tryz.ntmps12
  go_wp2
  go_loopg [2] k (fun kq v2 w' => ∃ (x0_1 : List ByteArray) (x2_1 : Int), v2 = .int .i64 x2_1 ∧ Aside0 (garretbook_SpoilTexts.l0 kq x0_1 x2_1 = some r) ∧ Aside0 (kq ≤ k) ∧ Aside0 (Kd.R Kd.string 9 w' w0.heap.size (fun k_ => (P0_ k_ ∨ w.heap.size ≤ k_)) u9000_ x0_1) ∧ Aside0 (Kept w w' (fun k_ => P0_ k_)) ∧ Aside0 (Below w0.heap.size w0 w'))
  case atStart => exact ⟨(l0), (0), (by first | rfl | (simp; done) | (simp [*]; done)), H', ⟨Nat.le_refl _⟩, ⟨by (with_reducible repeat (first | apply Kd.R_alloc | apply Kd.R_drewN | apply Kd.R_drew)); exact HO0.out⟩, ⟨by repeat (first | (with_reducible first | exact HK.out | apply Kept.alloc | apply Kept.drewN | apply Kept.drew) | exact HK.out)⟩, ⟨by repeat (first | (with_reducible first | exact HB.out | apply below_alloc | apply pw_below_drewN | apply below_drew1) | exact HB.out)⟩⟩
  case round =>
    clear H'
    try clear c1
    obtain ⟨x0_1, x2_1, rfl, HA, HK1, HO_0, HK, HB⟩ := hrel
    cases gk with
    | zero => exact absurd HA.out (by simp [garretbook_SpoilTexts.l0])
    | succ k1 =>
      have H := HA.out
      clear HA
      simp only [garretbook_SpoilTexts.l0] at H
      by_cases c2 : x2_1 < (x0_1.length : Int)
      · rw [if_pos c2] at H
        have c2b0 : decide (x2_1 < (x0_1.length : Int)) = true := decide_eq_true c2
        clear c2
        by_cases c3 : 0 ≤ x2_1
        · rw [if_pos c3] at H
          have c3b0 : decide (0 ≤ x2_1) = true := decide_eq_true c3
          clear c3
          obtain ⟨y408, hy408⟩ : ∃ y_ : List ByteArray, y_ = (x0_1.set (x2_1 : Int).toNat (⟨#[115, 112, 111, 105, 108, 116]⟩ : ByteArray)) := ⟨_, rfl⟩
          replace H : (garretbook_SpoilTexts.l0 k1 y408 (wrap64 (x2_1 + 1))) = some r := by first | (rw [hy408]; with_reducible exact H) | (have H2_ := (Option.bind_some _ _).symm.trans H; rw [hy408]; with_reducible exact H2_) | (have H2_ := (Option.bind_some _ _).symm.trans H; with_reducible exact H2_) | with_reducible exact H | (rw [hy408]; exact H) | exact H
          have Ny408 := Aside0.mk hy408
          clear hy408
          have H' := Aside0.mk H
          clear H
          obtain ⟨Ao5, co5, eo5⟩ := Kd.R_slice HO_0.out
          subst eo5
          have p4 : 0 ≤ (x2_1 : Int) := of_decide_eq_true (by first | (with_reducible assumption) | assumption)
          have q4 : (x2_1 : Int) < ((x0_1.length : Int) : Int) := of_decide_eq_true (by first | (with_reducible assumption) | assumption)
          obtain ⟨go4, co4, eo4, gb4, gl4, cl4, HG4⟩ := Kd.R_form HO_0.out (by omega)
          (first | cases eo4 | (injection eo4 with ea_ en_ ec_; (first | subst ea_ | (injection ea_ with ea_; subst ea_)); subst ec_; clear en_))
          have GB4 := Aside0.mk gb4
          have GG4 := Aside0.mk HG4
          clear gb4 gl4 HG4
          have HMgo4 := Aside0.mk (show (P0_ go4 ∨ w.heap.size ≤ go4) from (HO_0.out.1 _ rfl))
          obtain ⟨hx4_0, hf4_0⟩ := Kd.R_celln (⟨#[]⟩ : ByteArray) HO_0.out (x2_1 : Int) p4 q4
          replace p4 := eq_true p4
          replace q4 := eq_true q4
          have HP6 := Kd.R_putg HO_0.out (x2_1 : Int) (⟨#[115, 112, 111, 105, 108, 116]⟩ : ByteArray)
          go_wp2_with (first | ((with_reducible refine gate_store (t := 9) (p := 11) rfl ?_); refine store_event (t := 9) (p := 11) (v := ?vo_w7) (w1 := (wr.setCell ⟨go4, (x2_1 : Int).toNat, none⟩ (.string (⟨#[115, 112, 111, 105, 108, 116]⟩ : ByteArray)))) ?hg ?ho ?hn ?hr ?_; (case ho => rfl); (case hg => rfl); (case hn => rfl); (case hr => first | (go_simp; done) | (go_simp; rfl)); intro w7 hw; have hg : wr.grownBy w7 (some go4) := (by rw [hw]; exact HP6.2); have hp_ : Kd.R Kd.string 9 w7 w0.heap.size (fun k_ => (P0_ k_ ∨ w.heap.size ≤ k_)) (.slice (some ⟨go4, 0, none⟩) x0_1.length co5) y408 := (by rw [hw, Ny408.out]; exact HP6.1); clear HP6; have n0_ := Aside0.mk (hp_); have n1_ := Aside0.mk ((by rw [hw]; exact below_set (HB.out) GB4.out : Below w0.heap.size w0 w7)); have n2_ := Aside0.mk (Kept.of_grown (S := (fun k_ => P0_ k_)) hg (by repeat (first | (with_reducible first | exact HK.out | apply Kept.alloc | apply Kept.drewN | apply Kept.drew) | exact HK.out)) (fun k_ e_ => (HO_0.out.1 k_ e_))); clear HO_0; clear HB; clear HK; have HO_0 := n0_; have HB := n1_; have HK := n2_; clear n0_ n1_ n2_; clear hg hw hp_))
          go_roundg k1
          case measure => have := HK1.out; omega
          case rel => exact ⟨(y408), (wrap64 (x2_1 + 1)), (by first | rfl | (simp; done) | (simp [*]; done)), H', ⟨by have := HK1.out; omega⟩, ⟨by (with_reducible repeat (first | apply Kd.R_alloc | apply Kd.R_drewN | apply Kd.R_drew)); exact HO_0.out⟩, ⟨by repeat (first | (with_reducible first | exact HK.out | apply Kept.alloc | apply Kept.drewN | apply Kept.drew) | exact HK.out)⟩, ⟨by repeat (first | (with_reducible first | exact HB.out | apply below_alloc | apply pw_below_drewN | apply below_drew1) | exact HB.out)⟩⟩
        · rw [if_neg c3] at H
          exact absurd H (by simp)
      · rw [if_neg c2] at H
        have c2b0 : decide (x2_1 < (x0_1.length : Int)) = false := decide_eq_false c2
        clear c2
        obtain rfl := Option.some.inj H
        obtain ⟨Ao8, co8, eo8⟩ := Kd.R_slice HO_0.out
        subst eo8
        go_wp2
        first | go_end0 | ((try simp only [Exit.inBlock, Exit.then]); refine bodyPost_ret (results_none rfl _ _ _) rfl ?_)
        exact ⟨by first | rfl | (simp [errW_none, errW_some] <;> rfl) | (simp [*, errW_none, errW_some] <;> rfl), by (with_reducible repeat (first | apply Kd.R_alloc | apply Kd.R_drewN | apply Kd.R_drew)); exact HO_0.out, by repeat (first | (with_reducible first | exact HB.out | apply below_alloc | apply pw_below_drewN | apply below_drew1) | exact HB.out), by repeat (first | (with_reducible first | exact HK.out | apply Kept.alloc | apply Kept.drewN | apply Kept.drew) | exact HK.out)⟩

end Go.Proofs.YtkicenkljjpcfaaGreatDoor.Q
/- The law ModelJudges, walked over the rows of its argument. -/
set_option linter.unusedSimpArgs false
namespace Go.Proofs.YtkicenkljjpcfaaGreatDoor.Q
open Go.RowKit Go.Proofs.YtkicenkljjpcfaaGreatDoorW.PrintWords Go.Proofs.YtkicenkljjpcfaaGreatDoorW.PrintLast Go.Proofs.YtkicenkljjpcfaaGreatDoorW.PrintMore
theorem info34 : (Tryz.prog.info? 34).map (fun i => (i.zero, i.size, i.bytes)) = some (some (.agg #[.int .i64 0, .bool false, .int .i64 0, .slice none 0 0, .int .i64 0, .string ⟨#[]⟩, .string ⟨#[]⟩, .slice none 0 0, .string ⟨#[]⟩, .slice none 0 0, .int .i64 0, .bool false, .int .i64 0, .string ⟨#[]⟩, .int .i64 0, .slice none 0 0, .slice none 0 0, .slice none 0 0, .slice none 0 0]), 19, 296) := by kernel_rfl
def Small (x : Ev) : Prop := x.c.eN ≤ 20 ∧ x.r.fN ≤ 20 ∧ x.c.iN ≤ 20 ∧ x.r.jN ≤ 20 ∧ x.c.path.size ≤ 300
theorem small_take {l : List Ev} {k : Nat} {x : Ev} (hx : l[k]? = some x) (h : ∀ y ∈ l.take k, Small y) (hs : Small x) : ∀ y ∈ l.take (k + 1), Small y := by
  intro y hy
  rw [List.take_add_one, hx] at hy
  rcases List.mem_append.1 hy with h1 | h1
  · exact h y h1
  · obtain rfl : y = x := by simpa using h1
    exact hs
theorem same_f (l : List ByteArray) (hl : l.length ≤ 10000) : ∀ d i, i + d = l.length → garretbook_SameTexts.l0 (d + 1) l l (i : Int) = some true
  | 0, i, h => by rw [garretbook_SameTexts.l0, if_neg (by omega)]
  | d + 1, i, h => by rw [garretbook_SameTexts.l0, if_pos (by omega), if_pos (by omega), if_pos (by omega), if_pos rfl, wrapN (by omega), same_f l hl d (i + 1) (by omega)]
theorem sametexts_calls (A : Option Addr) (c n : Nat) (l : List ByteArray) (B : Option Addr) (d : Nat) (w : World) (hn : l.length = n) (h1 : Kd.C Kd.string w A n l) (hc : n ≤ c) (h2 : Kd.C Kd.string w B n l) (hd : n ≤ d) (hl : n ≤ 10000) :
    Calls Tryz.prog 9 #[.slice A n c, .slice B n d] w fun e w' => e = .returned (.bool true) ∧ Below w.heap.size w w' := by
  subst hn
  refine (garretbook_SameTexts.calls (l.length + 1) A c l B d l true w h1 hc h2 hd ?_).mono fun e w' h => ⟨h.1, h.2.below⟩
  unfold garretbook_SameTexts.f
  rw [if_pos rfl]
  exact same_f l hl l.length 0 (by omega)
theorem spoil_f : ∀ (d i : Nat) (l : List ByteArray), i + d = l.length → l.length ≤ 10000 → ∃ r, garretbook_SpoilTexts.l0 (d + 1) l (i : Int) = some r
  | 0, i, l, h, _ => ⟨l, by rw [garretbook_SpoilTexts.l0, if_neg (by omega)]⟩
  | d + 1, i, l, h, hl => by
    obtain ⟨r, hr⟩ := spoil_f d (i + 1) (l.set (i : Int).toNat (⟨#[115, 112, 111, 105, 108, 116]⟩ : ByteArray)) (by simp; omega) (by simpa using hl)
    refine ⟨r, ?_⟩
    rw [garretbook_SpoilTexts.l0, if_pos (by omega), if_pos (by omega), wrapN (by omega)]
    exact hr
theorem spoil_calls (v : Value) (l : List ByteArray) (w0 w : World) (hB : Below w0.heap.size w0 w) (ho : Kd.R Kd.string 9 w w0.heap.size (fun _ => True) v l) (hl : l.length ≤ 10000) :
    Calls Tryz.prog 12 #[v] w fun e w' => e = .returned (.tuple #[]) ∧ Below w0.heap.size w0 w' := by
  obtain ⟨r, hr⟩ := spoil_f l.length 0 l (by omega) hl
  exact (garretbook_SpoilTexts.calls (l.length + 1) (fun _ => True) v l r w0 w hB ho (by unfold garretbook_SpoilTexts.f; exact hr)).mono fun e w' h => ⟨h.1, h.2.2.1⟩
set_option maxHeartbeats 16000000 in
set_option maxRecDepth 100000 in
theorem law_calls (A : Option Addr) (c : Nat) (l : List Ev) (w : World) (h : Kd.C kE w A l.length l) (hc : l.length ≤ c) (hr : ∀ x ∈ l, RdE w x) (hj : ∀ x ∈ l, -9223372036854775808 ≤ x.job ∧ x.job ≤ 9223372036854775807) (hz : ∀ x ∈ l, (∀ e ∈ x.c.ents, e.f0.size ≤ 1048576) ∧ x.r.id.size ≤ 1048576) :
    Calls Tryz.prog 3 #[.slice A l.length c] w fun e w' => e = .returned (.bool true) ∧ Below w.heap.size w w' := by
  have HC := Aside0.mk h
  have HCC := Aside0.mk hc
  have HR := Aside0.mk hr
  have HJ := Aside0.mk hj
  have HZ := Aside0.mk hz
  have hml0 : l.length ≤ 9223372036854775807 := h.2.1
  clear h hc hr hj hz
  by_cases hl : 40 < l.length
  · have d0 : decide ((40 : Int) < (l.length : Int)) = true := decide_eq_true (by omega)
    go_enter Tryz.func3, Tryz.ntmps3
    go_wp2_with (fail)
    refine (works_calls _).mono ?_
    rintro e9 w9 ⟨rfl, hB⟩
    have HBZ := Aside0.mk (below_step (Below.refl _ _) hB)
    clear hB
    go_wp2_with (fail)
    go_ret
    exact ⟨rfl, HBZ.out⟩
  · have d0 : decide ((40 : Int) < (l.length : Int)) = false := decide_eq_false (by omega)
    go_enter Tryz.func3, Tryz.ntmps3
    go_wp2_with (fail)
    go_loopw [3] (fun v3 wr => ∃ k : Nat, k ≤ l.length ∧ v3 = .int .i64 k ∧ Aside0 (∀ y ∈ l.take k, Small y) ∧ Aside0 (Below w.heap.size w wr)) (fun v3 _ => l.length - (intOf v3).toNat)
    case atStart => exact ⟨0, Nat.zero_le _, rfl, ⟨fun y hy => by simp at hy⟩, ⟨Below.refl _ _⟩⟩
    case round =>
      obtain ⟨k, hk, rfl, HOK, HW⟩ := hrel
      by_cases hlt : k < l.length
      · obtain ⟨x, hx⟩ : ∃ r, l[k]? = some r := ⟨_, List.getElem?_eq_getElem hlt⟩
        obtain ⟨ad, rfl, hcell⟩ := cellsE (Kd.C_below HC.out HW.out) k hlt x hx
        have HCE := Aside0.mk hcell
        have HM := Aside0.mk hx
        have hml : k < maxLen := by unfold maxLen; omega
        clear hcell hx
        have c3 : wr.cell? ⟨(ad.add (k * 19)).block, (ad.add (k * 19)).off + 3, none⟩ = some (.slice x.c.eA x.c.eN x.c.eC) := (addf ad (k * 19) 3 (by omega)) ▸ HCE.out 3 _ rfl
        have c7 : wr.cell? ⟨(ad.add (k * 19)).block, (ad.add (k * 19)).off + 7, none⟩ = some (.slice x.c.iA x.c.iN x.c.iC) := (addf ad (k * 19) 7 (by omega)) ▸ HCE.out 7 _ rfl
        have c8 : wr.cell? ⟨(ad.add (k * 19)).block, (ad.add (k * 19)).off + 8, none⟩ = some (.string x.c.path) := (addf ad (k * 19) 8 (by omega)) ▸ HCE.out 8 _ rfl
        have c15 : wr.cell? ⟨(ad.add (k * 19)).block, (ad.add (k * 19)).off + 15, none⟩ = some (.slice x.r.jA x.r.jN x.r.jC) := (addf ad (k * 19) 15 (by omega)) ▸ HCE.out 15 _ rfl
        have c17 : wr.cell? ⟨(ad.add (k * 19)).block, (ad.add (k * 19)).off + 17, none⟩ = some (.slice x.r.fA x.r.fN x.r.fC) := (addf ad (k * 19) 17 (by omega)) ▸ HCE.out 17 _ rfl
        by_cases t0 : 20 < x.c.eN
        · have d0 : decide ((20 : Int) < (x.c.eN : Int)) = true := decide_eq_true (by omega)
          clear HCE
          go_wp2_with (fail)
          refine (works_calls _).mono ?_
          rintro e9 w9 ⟨rfl, hB⟩
          have HBZ := Aside0.mk (below_step HW.out hB)
          clear hB
          go_wp2_with (fail)
          go_ret
          exact ⟨rfl, HBZ.out⟩
        · have d0 : decide ((20 : Int) < (x.c.eN : Int)) = false := decide_eq_false (by omega)
          by_cases t1 : 20 < x.r.fN
          · have d1 : decide ((20 : Int) < (x.r.fN : Int)) = true := decide_eq_true (by omega)
            clear HCE
            go_wp2_with (fail)
            refine (works_calls _).mono ?_
            rintro e9 w9 ⟨rfl, hB⟩
            have HBZ := Aside0.mk (below_step HW.out hB)
            clear hB
            go_wp2_with (fail)
            go_ret
            exact ⟨rfl, HBZ.out⟩
          · have d1 : decide ((20 : Int) < (x.r.fN : Int)) = false := decide_eq_false (by omega)
            by_cases t2 : 20 < x.c.iN
            · have d2 : decide ((20 : Int) < (x.c.iN : Int)) = true := decide_eq_true (by omega)
              clear HCE
              go_wp2_with (fail)
              refine (works_calls _).mono ?_
              rintro e9 w9 ⟨rfl, hB⟩
              have HBZ := Aside0.mk (below_step HW.out hB)
              clear hB
              go_wp2_with (fail)
              go_ret
              exact ⟨rfl, HBZ.out⟩
            · have d2 : decide ((20 : Int) < (x.c.iN : Int)) = false := decide_eq_false (by omega)
              by_cases t3 : 20 < x.r.jN
              · have d3 : decide ((20 : Int) < (x.r.jN : Int)) = true := decide_eq_true (by omega)
                clear HCE
                go_wp2_with (fail)
                refine (works_calls _).mono ?_
                rintro e9 w9 ⟨rfl, hB⟩
                have HBZ := Aside0.mk (below_step HW.out hB)
                clear hB
                go_wp2_with (fail)
                go_ret
                exact ⟨rfl, HBZ.out⟩
              · have d3 : decide ((20 : Int) < (x.r.jN : Int)) = false := decide_eq_false (by omega)
                by_cases t4 : 300 < x.c.path.size
                · have d4 : decide ((300 : Int) < (x.c.path.size : Int)) = true := decide_eq_true (by omega)
                  clear HCE
                  go_wp2_with (fail)
                  refine (works_calls _).mono ?_
                  rintro e9 w9 ⟨rfl, hB⟩
                  have HBZ := Aside0.mk (below_step HW.out hB)
                  clear hB
                  go_wp2_with (fail)
                  go_ret
                  exact ⟨rfl, HBZ.out⟩
                · have d4 : decide ((300 : Int) < (x.c.path.size : Int)) = false := decide_eq_false (by omega)
                  have HOK2 : Aside0 (∀ y ∈ l.take (k + 1), Small y) := ⟨small_take HM.out HOK.out ⟨by omega, by omega, by omega, by omega, by omega⟩⟩
                  clear HCE
                  go_wp2_with (fail)
                  go_roundw
                  case rel => exact ⟨k + 1, hlt, by go_simp, HOK2, HW⟩
                  case measure => simp [intOf]; omega
      · obtain rfl : k = l.length := by omega
        have HLE : Aside0 (∀ x ∈ l, LenE x) := ⟨fun x hx => by
          have h1 := HOK.out x (by rw [List.take_length]; exact hx)
          exact ⟨by have := h1.2.2.2.1; omega, by have := h1.2.2.1; omega, ⟨by have := h1.1; omega, (HZ.out x hx).1⟩, by have := h1.2.1; omega, by have := h1.2.2.2.2; omega⟩⟩
        have HRN : Aside0 (∀ x ∈ l, x.r.jN ≤ 10000) := ⟨fun x hx => (HLE.out x hx).1⟩
        clear HOK
        go_upto_region 9 with (first | ((with_reducible refine gate_dst (N := 73) rfl ?_); refine Kd.R_lit kE (w0 := wr) wr.heap.size 34 ?hg (N := 73) ?hd (xs := ([] : List Ev)) (inner := []) (ok := fun _ => True) (okp := fun _ => True) ?hr ?hp (fun _ hk => hk) trivial (Below.refl _ _) (Nat.le_refl _) (by simp) ?_; (case hd => rfl); (case hg => rfl); (case hr => first | (go_simp; done) | (go_simp; rfl)); (case hp => exact Reps.none _ _); intro v1 w1 ho hb hg_ hnew_; have HO1 := Aside0.mk ho; have HB1 := Aside0.mk hb; clear ho hb hg_ hnew_) | ((with_reducible refine gate_builtin (b := .append) (xs := #[.tmp 73, .tmp 74]) rfl ?_); at_builtin; refine Kd.R_append_rows kE (Rr := kE.K w1) (w0 := wr) wr.heap.size ?hg (.tmp 73) (.tmp 74) 22 34 (.agg #[.int .i64 0, .bool false, .int .i64 0, .slice none 0 0, .int .i64 0, .string ⟨#[]⟩, .string ⟨#[]⟩, .slice none 0 0, .string ⟨#[]⟩, .slice none 0 0, .int .i64 0, .bool false, .int .i64 0, .string ⟨#[]⟩, .int .i64 0, .slice none 0 0, .slice none 0 0, .slice none 0 0, .slice none 0 0]) 296 ?ho Tryz.underlying22 info34 rfl (by decide) (by omega) v1 [] l A l.length c (fun _ => True) (fun _ => False) ?hs ?hx ?aO ?aR ?aK (fun _ hk => hk.elim) (fun _ _ => trivial) ?aB ?aS ?aL ?_; (case hg => rfl); (case ho => rfl); (case hs => rfl); (case hx => rfl); (case aO => exact HO1.out); (case aR => exact Kd.C_below HC.out (below_step HW.out HB1.out)); (case aK => intro y cs hy; exact hy); (case aB => exact HB1.out); (case aS => exact HB1.out.size); (case aL => simp; omega); intro v2 w2 ho hb hg_ hnew_; have HO2 := Aside0.mk ho; have HB2 := Aside0.mk hb; clear ho hb hg_ hnew_ HO1 HB1))
        have ho2 := HO2.out
        rw [List.nil_append] at ho2
        obtain ⟨A2, c2, rfl, hc2, hC2⟩ := Kd.R_reads ho2
        have HC2 := Aside0.mk hC2
        have HCC2 := Aside0.mk hc2
        have HBW := Aside0.mk (below_step HW.out HB2.out)
        clear hC2 hc2 ho2 HO2 HB2 HW
        have HR2 : Aside0 (∀ x ∈ l, RdE w2 x) := ⟨fun x hx => ⟨(HR.out x hx).1.below HBW.out, (HR.out x hx).2.below HBW.out⟩⟩
        have HI : Aside0 (∀ x ∈ l, x.r.id.size ≤ 1048576) := ⟨fun x hx => (HZ.out x hx).2⟩
        go_wp2_with (fail)
        refine (pjudge_calls A2 c2 l w2 HC2.out (by omega) HJ.out HR2.out HLE.out).mono ?_
        rintro e3 w3 ⟨rfl, hB⟩
        have HB3 := Aside0.mk hB
        have HR3 : Aside0 (∀ x ∈ l, RdE w3 x) := ⟨fun x hx => ⟨(HR2.out x hx).1.below HB3.out, (HR2.out x hx).2.below HB3.out⟩⟩
        clear hB
        go_wp2_with (fail)
        refine (judge_calls A c l w3 (Kd.C_below HC.out (below_step HBW.out HB3.out)) (by omega) HR3.out HLE.out).mono ?_
        rintro e4 w4 ⟨rfl, hB⟩
        have HB4 := Aside0.mk (below_step HB3.out hB)
        have HR4 : Aside0 (∀ x ∈ l, RdE w4 x) := ⟨fun x hx => ⟨(HR2.out x hx).1.below HB4.out, (HR2.out x hx).2.below HB4.out⟩⟩
        clear hB HB3 HR3
        go_wp2_with (fail)
        refine (psureall_calls A2 c2 l w4 (Kd.C_below HC2.out HB4.out) (by omega) HJ.out HR4.out HLE.out HI.out).mono ?_
        rintro e5 w5 ⟨v5, rs, rfl, hR5, hri5, hme5, hle5, hB⟩
        have HB5 := Aside0.mk hB
        have HR5 : Aside0 (∀ x ∈ l, RdE w5 x) := ⟨fun x hx => ⟨(HR4.out x hx).1.below HB5.out, (HR4.out x hx).2.below HB5.out⟩⟩
        have HO5 := Aside0.mk hR5
        have HRI := Aside0.mk (And.intro hri5 (And.intro hme5 hle5))
        clear hB hR5 hri5 hme5 hle5
        go_wp2_with (fail)
        refine (rsure_calls A c l w5 (Kd.C_below HC.out (below_step HBW.out (below_step HB4.out HB5.out))) (by omega) HR5.out HLE.out).mono ?_
        rintro e6 w6 ⟨v6, rs6, rfl, hR6, hri6, hme6, hle6, hB⟩
        have hrs : rs6 = rs := rising_eq hri6 HRI.out.1 (fun s => by rw [hme6, HRI.out.2.1])
        subst hrs
        have HB6 := Aside0.mk (below_step HB5.out hB)
        have HO6 := Aside0.mk (Kd.R_below HO5.out hB)
        have HL6 : Aside0 (rs6.length ≤ 10000) := ⟨by omega⟩
        obtain ⟨A5, c5, hv5, hc5, hC5⟩ := Kd.R_reads HO6.out
        obtain ⟨A6, c6, hv6, hc6, hC6⟩ := Kd.R_reads hR6
        subst hv5; subst hv6
        have HS5 := Aside0.mk (And.intro hC5 hc5)
        have HS6 := Aside0.mk (And.intro hC6 hc6)
        clear hB hR6 hri6 hme6 hle6 HB5 HO5 HRI hC5 hc5 hC6 hc6 HR5
        have HST := Aside0.mk (sametexts_calls A5 c5 rs6.length rs6 A6 c6 w6 rfl HS5.out.1 HS5.out.2 HS6.out.1 HS6.out.2 HL6.out)
        clear HS5 HS6
        have HR6 : Aside0 (∀ x ∈ l, RdE w6 x) := ⟨fun x hx => ⟨(HR4.out x hx).1.below HB6.out, (HR4.out x hx).2.below HB6.out⟩⟩
        generalize judgeP l = jg
        obtain ⟨ck, hck⟩ : ∃ ck, ck = ckC (checkP l) := ⟨_, rfl⟩
        rw [← hck]
        have HCK := Aside0.mk hck
        clear hck
        go_wp2_with (fail)
        refine HST.out.mono ?_
        rintro e7 w7 ⟨rfl, hB⟩
        have HB7 := Aside0.mk (below_step HB6.out hB)
        have HO7 := Aside0.mk (Kd.R_below HO6.out hB)
        have HR7 : Aside0 (∀ x ∈ l, RdE w7 x) := ⟨fun x hx => ⟨(HR6.out x hx).1.below hB, (HR6.out x hx).2.below hB⟩⟩
        clear hB HB6 HO6 HR6 HST
        go_wp2_with (fail)
        refine (pcheck_calls A2 c2 l w7 (Kd.C_below HC2.out (below_step HB4.out HB7.out)) (by omega) HJ.out HR7.out).mono ?_
        rintro e8 w8 ⟨rfl, hB⟩
        rw [← HCK.out]
        have HB8 := Aside0.mk (below_step HB7.out hB)
        have HO8 := Aside0.mk (Kd.R_below HO7.out hB)
        clear hB HB7 HO7 HR7
        go_wp2_with (fail)
        refine (check_calls A c l w8 (Kd.C_below HC.out (below_step HBW.out (below_step HB4.out HB8.out))) (by omega)).mono ?_
        rintro e9 w9 ⟨rfl, hB⟩
        rw [← HCK.out]
        have HB9 := Aside0.mk (below_step HB8.out hB)
        have HO9 := Aside0.mk (Kd.R_below HO8.out hB)
        clear hB HB8 HO8
        go_wp2_with (fail)
        refine (spoil_calls _ rs6 w4 w9 HB9.out HO9.out HL6.out).mono ?_
        rintro e10 w10 ⟨rfl, hB⟩
        have HB10 := Aside0.mk (below_step HB4.out hB)
        clear hB HB9 HO9 HB4 HR4 HCK
        go_wp2_with (fail)
        go_loopw [13] (fun v13 wq => ∃ k : Nat, k ≤ l.length ∧ v13 = .int .i64 k ∧ Aside0 (Below w2.heap.size w2 wq)) (fun v13 _ => l.length - (intOf v13).toNat)
        case atStart => exact ⟨0, Nat.zero_le _, rfl, HB10⟩
        case round =>
          obtain ⟨k, hk, rfl, HW⟩ := hrel
          by_cases hlt : k < l.length
          · obtain ⟨wq, hwq⟩ : ∃ q, q = wr := ⟨_, rfl⟩
            rw [← hwq] at HW ⊢
            clear hwq
            obtain ⟨x, hx⟩ : ∃ r, l[k]? = some r := ⟨_, List.getElem?_eq_getElem hlt⟩
            obtain ⟨ad, hA, hcell⟩ := cellsE (Kd.C_below HC.out (below_step HBW.out HW.out)) k hlt x hx
            obtain ⟨ao, hA2, hcell2⟩ := cellsE (Kd.C_below HC2.out HW.out) k hlt x hx
            subst hA; subst hA2
            have Hp := Aside0.mk hcell
            have Hq := Aside0.mk hcell2
            have HRX := Aside0.mk ((HR2.out x (List.mem_of_getElem? hx)).2)
            have HNX := Aside0.mk (HRN.out x (List.mem_of_getElem? hx))
            have hml : k < maxLen := by unfold maxLen; omega
            clear hcell hcell2 hx
            have p0 : ∀ z : Up wq, z.w.cell? (ad.add (k * 19)) = some (.int .i64 x.job) := fun z => pw_cell_below z.h (by have := Hp.out 0 _ rfl; exact this)
            have p1 : ∀ z : Up wq, z.w.cell? ⟨(ad.add (k * 19)).block, (ad.add (k * 19)).off + 1, none⟩ = some (.bool x.beg) := fun z => pw_cell_below z.h ((addf ad (k * 19) 1 (by omega)) ▸ Hp.out 1 _ rfl)
            have p13 : ∀ z : Up wq, z.w.cell? ⟨(ad.add (k * 19)).block, (ad.add (k * 19)).off + 13, none⟩ = some (.string x.r.id) := fun z => pw_cell_below z.h ((addf ad (k * 19) 13 (by omega)) ▸ Hp.out 13 _ rfl)
            have p15 : ∀ z : Up wq, z.w.cell? ⟨(ad.add (k * 19)).block, (ad.add (k * 19)).off + 15, none⟩ = some (.slice x.r.jA x.r.jN x.r.jC) := fun z => pw_cell_below z.h ((addf ad (k * 19) 15 (by omega)) ▸ Hp.out 15 _ rfl)
            have q0 : ∀ z : Up wq, z.w.cell? (ao.add (k * 19)) = some (.int .i64 x.job) := fun z => pw_cell_below z.h (by have := Hq.out 0 _ rfl; exact this)
            have q1 : ∀ z : Up wq, z.w.cell? ⟨(ao.add (k * 19)).block, (ao.add (k * 19)).off + 1, none⟩ = some (.bool x.beg) := fun z => pw_cell_below z.h ((addf ao (k * 19) 1 (by omega)) ▸ Hq.out 1 _ rfl)
            have q13 : ∀ z : Up wq, z.w.cell? ⟨(ao.add (k * 19)).block, (ao.add (k * 19)).off + 13, none⟩ = some (.string x.r.id) := fun z => pw_cell_below z.h ((addf ao (k * 19) 13 (by omega)) ▸ Hq.out 13 _ rfl)
            have q15 : ∀ z : Up wq, z.w.cell? ⟨(ao.add (k * 19)).block, (ao.add (k * 19)).off + 15, none⟩ = some (.slice x.r.jA x.r.jN x.r.jC) := fun z => pw_cell_below z.h ((addf ao (k * 19) 15 (by omega)) ▸ Hq.out 15 _ rfl)
            have HST : ∀ z : Up wq, Calls Tryz.prog 9 #[.slice x.r.jA x.r.jN x.r.jC, .slice x.r.jA x.r.jN x.r.jC] z.w fun e' w' => e' = .returned (.bool true) ∧ ∃ u : Up wq, w' = u.w := fun z => z.calls (sametexts_calls x.r.jA x.r.jC x.r.jN x.r.rids x.r.jA x.r.jC z.w HRX.out.ids.2.1 (Kd.C_below HRX.out.ids.2.2 (below_step HW.out z.h)) HRX.out.ids.1 (Kd.C_below HRX.out.ids.2.2 (below_step HW.out z.h)) HRX.out.ids.1 HNX.out)
            have HST := Aside0.mk HST
            go_wp2_with (fail)
            refine wp_region_up (by kernel_rfl) (by kernel_rfl) ?_
            repeat (first | go_big_quiet_skip | (go_big_quiet_want; first | fail | (go_big_quiet_op; first | go_big_quiet_on | (apply Exists.intro; refine ⟨fun z => ?_, ?_⟩; (focus (exact HST.out z; done)); go_big_quiet_on))))
            refine wpQuiet_nil ?_
            rintro _ ⟨z, rfl⟩
            have HWZ := Aside0.mk (below_step HW.out z.h)
            clear HST p0 p1 p13 p15 q0 q1 q13 q15
            go_wp2_with (fail)
            go_roundw
            case rel => exact ⟨k + 1, hlt, by go_simp, HWZ⟩
            case measure => simp [intOf]; omega
          · obtain rfl : k = l.length := by omega
            go_wp2_with (fail)
            refine (works_calls _).mono ?_
            rintro e9 w9 ⟨rfl, hB⟩
            have HBZ := Aside0.mk (below_step (below_step HBW.out HW.out) hB)
            clear hB
            go_wp2_with (fail)
            go_ret
            exact ⟨rfl, HBZ.out⟩
end Go.Proofs.YtkicenkljjpcfaaGreatDoor.Q
