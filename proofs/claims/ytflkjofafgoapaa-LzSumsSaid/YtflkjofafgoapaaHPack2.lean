/- lz's packer: its table of fours, as a datum. -/
import Derived.Test.YtflkjofafgoapaaHPack1
import Derived.WideKeyPair
import Derived.Maps.Own
import Derived.Maps.OwnSet
namespace Go.Proofs.Ytflkjofafgoapaa.Q
open Go.RowKit Go.Proofs.YtflkjofafgoapaaW.PrintWords Go.Proofs.YtflkjofafgoapaaW.PrintLast Go.Proofs.YtflkjofafgoapaaW.PrintMore
open Go.WideMaps Go.Maps
attribute [local go_sem] max2_int min2_int max_two min_two max_three min_three max_four min_four

theorem keyOf_four {P : Program} {k e : TypeId} {q : IntKind} (A : ArrKey P k e 4) (he : P.underlying e = some (.int q)) (hsz : ∃ m, P.types.size = m + 1) {a b c d : Int}
    (wa : (Lit.int q a).wf = true) (wb : (Lit.int q b).wf = true) (wc : (Lit.int q c).wf = true) (wd : (Lit.int q d).wf = true) :
    keyOf P k (.agg #[.int q a, .int q b, .int q c, .int q d]) = some (.string (keyBytes [.int q a, .int q b, .int q c, .int q d])) := by
  have hkt := A.keyType hsz
  obtain ⟨m, hm⟩ := hsz
  unfold keyOf
  simp only [A.hu]
  rw [if_pos (by simp [hkt, Value.formed, A.hu, A.size]), hm]
  unfold Program.keyLits
  simp only [A.hu, Value.cells]
  rw [if_pos (by rw [A.size]; rfl), show List.range 4 = [0, 1, 2, 3] from rfl, List.mapM_cons, List.mapM_cons, List.mapM_cons, List.mapM_cons, List.mapM_nil]
  simp [A.one, Program.keyLits, he, wa, wb, wc, wd]

theorem arr61 : ArrKey Try.prog 61 5 4 := ⟨Try.underlying61, by decide +kernel, by decide +kernel, by decide +kernel⟩
theorem keyed61 : Keyed Try.prog 61 := Keyed.of_law arr61.law
theorem und5 : Try.prog.underlying 5 = some (.int .u8) := Try.underlying5

def fourV (s : ByteArray) (i : Nat) : Value := .agg #[.int .u8 (bt s i), .int .u8 (bt s (i + 1 : Nat)), .int .u8 (bt s (i + 2 : Nat)), .int .u8 (bt s (i + 3 : Nat))]
def keyL (s : ByteArray) (i : Nat) : Lit := .string (keyBytes [.int .u8 (bt s i), .int .u8 (bt s (i + 1 : Nat)), .int .u8 (bt s (i + 2 : Nat)), .int .u8 (bt s (i + 3 : Nat))])

theorem bt_wf (s : ByteArray) (i : Int) : (Lit.int .u8 (bt s i)).wf = true := by
  have h := bt_range s i
  have e1 : IntKind.u8.min = 0 := by decide
  have e2 : IntKind.u8.max = 255 := by decide
  simp only [Lit.wf, e1, e2, Bool.and_eq_true, decide_eq_true_eq]
  exact h

theorem keyOf_fourV (s : ByteArray) (i : Nat) : keyOf Try.prog 61 (fourV s i) = some (keyL s i) :=
  keyOf_four arr61 und5 ⟨Try.prog.types.size - 1, by decide +kernel⟩ (bt_wf s _) (bt_wf s _) (bt_wf s _) (bt_wf s _)

/-- The four bytes at two places are the same. -/
def same4 (s : ByteArray) (p a : Nat) : Bool := decide (bt s p = bt s a ∧ bt s (p + 1 : Nat) = bt s (a + 1 : Nat) ∧ bt s (p + 2 : Nat) = bt s (a + 2 : Nat) ∧ bt s (p + 3 : Nat) = bt s (a + 3 : Nat))

theorem keyL_iff (s : ByteArray) (p a : Nat) : keyL s p = keyL s a ↔ same4 s p a = true := by
  constructor
  · intro h
    have h2 := keyed61.inj (keyOf_fourV s p) (h ▸ keyOf_fourV s a)
    simp only [fourV, Value.agg.injEq] at h2
    have h3 := congrArg Array.toList h2
    simp at h3
    simp [same4]
    exact h3
  · intro h
    simp [same4] at h
    simp [keyL, h.1, h.2.1, h.2.2.1, h.2.2.2]

/-- The last place ahead of q with the four bytes that stand at a. -/
def lastN (s : ByteArray) (a : Nat) : Nat → Option Nat
  | 0 => none
  | p + 1 => if same4 s p a then some p else lastN s a p

def tabD (s : ByteArray) : Nat → DataW Unit
  | 0 => .map []
  | p + 1 => (tabD s p).put (keyL s p) (.lit (.int .i64 p))

theorem tab_isMap (s : ByteArray) : ∀ q, IsMap (tabD s q)
  | 0 => isMap_empty
  | q + 1 => (tab_isMap s q).put _ _

theorem tab_has (s : ByteArray) (a : Nat) : ∀ q, has (tabD s q) (keyL s a) = (lastN s a q).isSome
  | 0 => rfl
  | q + 1 => by
    rw [tabD, lastN]
    by_cases h : same4 s q a = true
    · rw [if_pos h, (keyL_iff s q a).2 h, has_put_same (tab_isMap s q) (show WideAt.IsKeyLit (keyL s a) from trivial)]; rfl
    · rw [if_neg h, has_put_other (fun e => h ((keyL_iff s q a).1 e.symm)), tab_has s a q]

theorem tab_at (s : ByteArray) (a : Nat) (z : DataW Unit) : ∀ q, (tabD s q).atKey (keyL s a) z = match lastN s a q with | some p => .lit (.int .i64 p) | none => z
  | 0 => rfl
  | q + 1 => by
    rw [tabD, lastN]
    by_cases h : same4 s q a = true
    · rw [if_pos h, (keyL_iff s q a).2 h, atKey_put_same (tab_isMap s q) (show WideAt.IsKeyLit (keyL s a) from trivial)]
    · rw [if_neg h, atKey_put_other (fun e => h ((keyL_iff s q a).1 e.symm)), tab_at s a z q]

theorem lastN_lt {s : ByteArray} {a p : Nat} : ∀ {q}, lastN s a q = some p → p < q
  | 0, h => by simp [lastN] at h
  | q + 1, h => by
    rw [lastN] at h
    split at h
    · simp at h; omega
    · have := lastN_lt h; omega

theorem lastN_same {s : ByteArray} {a p : Nat} : ∀ {q}, lastN s a q = some p → same4 s p a = true
  | 0, h => by simp [lastN] at h
  | q + 1, h => by
    rw [lastN] at h
    split at h
    · rename_i h1
      simp at h; rw [← h]; exact h1
    · exact lastN_same h

/-- A map stays behind a call that leaves all blocks as they are. -/
theorem own_after {w W w' : World} {B n : Nat} {D : DataW Unit} {R : Value → Option (DataW Unit × List MemPlace)} (h : w.ownsMap Try.prog 61 R B n D) (hB : Below W.heap.size W w') (hW : W.heap = w.heap) : w'.ownsMap Try.prog 61 R B n D := by
  obtain ⟨es, clock, hb, F, hn, hD⟩ := h
  rw [← hW] at hb
  exact ⟨es, clock, (hB.block B (Array.getElem?_eq_some_iff.1 hb).1).trans hb, F, hn, hD⟩

/-- The table's lookup, as the walk takes it. -/
theorem look_four {w : World} {B n : Nat} {s : ByteArray} {q a : Nat} (h : w.ownsMap Try.prog 61 (plainElem Try.prog 3) B n (tabD s q)) :
    ∃ f : Int, (Instr.lookup 52 (.map (some B)) (fourV s a) true).run Try.prog w = .ok (.tuple #[.int .i64 f, .bool (lastN s a q).isSome]) w ∧ (∀ p, lastN s a q = some p → f = (p : Int)) := by
  obtain ⟨v, ps, hrun, hv⟩ := h.look_ok keyed61 Try.underlying52 (z := .int .i64 0) rfl (plainElem_int Try.underlying3 (by decide)) (keyOf_fourV s a)
  obtain ⟨c, rfl, hc, hwc⟩ := plainElem_int_inv Try.underlying3 hv
  rw [tab_has] at hrun
  refine ⟨c, hrun, fun p hp => ?_⟩
  have h1 := congrArg Prod.fst hc
  simp only [tab_at, hp] at h1
  simp at h1
  omega

theorem look_none {w : World} {B n : Nat} {s : ByteArray} {q a : Nat} (h : w.ownsMap Try.prog 61 (plainElem Try.prog 3) B n (tabD s q)) (hp : lastN s a q = none) :
    ∃ f : Int, (Instr.lookup 52 (.map (some B)) (fourV s a) true).run Try.prog w = .ok (.tuple #[.int .i64 f, .bool false]) w := by
  obtain ⟨f, h1, _⟩ := look_four (a := a) h
  rw [hp] at h1
  exact ⟨f, h1⟩

theorem look_some {w : World} {B n : Nat} {s : ByteArray} {q a p : Nat} (h : w.ownsMap Try.prog 61 (plainElem Try.prog 3) B n (tabD s q)) (hp : lastN s a q = some p) :
    (Instr.lookup 52 (.map (some B)) (fourV s a) true).run Try.prog w = .ok (.tuple #[.int .i64 (p : Int), .bool true]) w := by
  obtain ⟨f, h1, h2⟩ := look_four (a := a) h
  rw [h2 p hp, hp] at h1
  exact h1

theorem IsP.below {w w' : World} {g B : Nat} {s : ByteArray} (h : IsP w g s B) (hB : Below w.heap.size w w') : IsP w' g s B := (hB.block g (blk_lt h)).trans h

/-- From how far ahead most bytes are repeated, among the near places. -/
def nearL (s : ByteArray) (a : Nat) : Nat → Nat → Nat → Nat → Nat × Nat
  | 0, _, dist, long => (dist, long)
  | k + 1, d, dist, long => if long < alikeN s (a - d) a (s.size - a) 0 then nearL s a k (d + 1) d (alikeN s (a - d) a (s.size - a) 0) else nearL s a k (d + 1) dist long

def bestN (s : ByteArray) (a : Nat) (c : Option Nat) : Nat × Nat :=
  match c with
  | none => nearL s a (min 64 a) 1 0 0
  | some f => if a - f ≤ 65535 ∧ (nearL s a (min 64 a) 1 0 0).2 < alikeN s f a (s.size - a) 0 then (a - f, alikeN s f a (s.size - a) 0) else nearL s a (min 64 a) 1 0 0

theorem IsP.drewN {w : World} {g B : Nat} {s : ByteArray} (h : IsP w g s B) (n : Nat) : IsP (w.drewN n) g s B := h

set_option maxHeartbeats 1000000 in
set_option maxRecDepth 100000 in
theorem best_calls (s : ByteArray) (g B a q n : Nat) (w : World) (h : IsP w g s B) (hm : w.ownsMap Try.prog 61 (plainElem Try.prog 3) B n (tabD s q)) (hq : q ≤ a) (hs : s.size ≤ 10000) (ha : a + 4 ≤ s.size) :
    Calls Try.prog 21 #[.pointer (some ⟨g, 0, none⟩), .int .i64 a] w fun e w' => e = .returned (.tuple #[.int .i64 (bestN s a (lastN s a q)).1, .int .i64 (bestN s a (lastN s a q)).2]) ∧ Below w.heap.size w w' := by
  have H := Aside0.mk h
  have hc : w.cell? ⟨g, 0, none⟩ = some (.string s) := (blk_cell h 0).trans rfl
  have hcm : w.cell? ⟨g, 1, none⟩ = some (.map (some B)) := (blk_cell h 1).trans rfl
  have HM := Aside0.mk hm
  clear h hm
  have q1 : (if (64 : Int) < (a : Int) then (64 : Int) else (a : Int)) = ((min 64 a : Nat) : Int) := by omega
  have q2 : (if (a : Int) < 64 then (a : Int) else (64 : Int)) = ((min 64 a : Nat) : Int) := by omega
  go_enter Try.func21, Try.ntmps21
  go_wp2
  go_loopw [4, 5, 6] (fun v4 v5 v6 w' => ∃ (dist long d m : Nat), v4 = .int .i64 (dist : Int) ∧ v5 = .int .i64 (long : Int) ∧ v6 = .int .i64 (d : Int) ∧ Aside0 (1 ≤ d ∧ d ≤ min 64 a + 1) ∧ Aside0 (nearL s a (min 64 a + 1 - d) d dist long = nearL s a (min 64 a) 1 0 0) ∧ w' = w.drewN m) (fun _ _ v6 _ => 65 - (intOf v6).toNat)
  case atStart => exact ⟨0, 0, 1, 0, rfl, rfl, rfl, ⟨by omega⟩, ⟨rfl⟩, rfl⟩
  case round =>
    obtain ⟨dist, long, d, m, rfl, rfl, rfl, HD, HA, rfl⟩ := hrel
    by_cases hlt : d ≤ min 64 a
    · have g1 : decide ((d : Int) ≤ ((min 64 a : Nat) : Int)) = true := decide_eq_true (by omega)
      have f1 : IntKind.i64.wrap ((a : Int) - (d : Int)) = ((a - d : Nat) : Int) := by rw [IntKind.wrap_i64]; omega
      have HL := Aside0.mk hlt
      have HD1 := HD.out
      have f0 : (a : Int) - (d : Int) = ((a - d : Nat) : Int) := by omega
      have F0 := Aside0.mk f0
      have b1 : 0 ≤ (a : Int) - (d : Int) := by omega
      have b2 : (d : Int) ≤ 64 := by omega
      clear hlt f0 f1 HD1
      have HFR := Aside0.mk (show a - d < a ∧ a ≤ s.size from ⟨by have := HD.out; omega, by omega⟩)
      go_wp2_with (go_at_call 27; rw [F0.out]; refine (alike_calls s g B (a - d) a _ (H.out.drewN _) HFR.out.2 HFR.out.1 (by omega)).mono ?_; rintro e w1 ⟨rfl, m1, rfl⟩; generalize hAL : alikeN s (a - d) a (s.size - a) 0 = al; have HAL := Aside0.mk hAL; clear hAL)
      · have hg : long < al := by
          omega
        have hA2 : nearL s a (min 64 a + 1 - (d + 1)) (d + 1) d al = nearL s a (min 64 a) 1 0 0 := by
          have := HL.out
          rw [← HA.out, show min 64 a + 1 - d = (min 64 a + 1 - (d + 1)) + 1 from by omega, nearL, HAL.out, if_pos hg]
        go_roundw
        case rel => exact ⟨d, al, d + 1, _, rfl, rfl, by go_num, ⟨by have := HL.out; omega⟩, ⟨hA2⟩, rfl⟩
        case measure => simp [intOf]; omega
      · have hg : ¬ long < al := by
          omega
        have hA2 : nearL s a (min 64 a + 1 - (d + 1)) (d + 1) dist long = nearL s a (min 64 a) 1 0 0 := by
          have := HL.out
          rw [← HA.out, show min 64 a + 1 - d = (min 64 a + 1 - (d + 1)) + 1 from by omega, nearL, HAL.out, if_neg hg]
        go_roundw
        case rel => exact ⟨dist, long, d + 1, _, rfl, rfl, by go_num, ⟨by have := HL.out; omega⟩, ⟨hA2⟩, rfl⟩
        case measure => simp [intOf]; omega
    · have g1 : decide ((d : Int) ≤ ((min 64 a : Nat) : Int)) = false := decide_eq_false (by omega)
      have HN : Aside0 (nearL s a (min 64 a) 1 0 0 = (dist, long)) := ⟨by rw [← HA.out, show min 64 a + 1 - d = 0 from by omega, nearL]⟩
      go_wp2
      clear HA HD hlt q1 q2 g1
      have HB0 : Aside0 (Below w.heap.size w (w.drewN m)) := ⟨pw_below_drewN (Below.refl _ _) m⟩
      have H1 : Aside0 (IsP (w.drewN m) g s B) := ⟨H.out⟩
      have HM1 : Aside0 ((w.drewN m).ownsMap Try.prog 61 (plainElem Try.prog 3) B n (tabD s q)) := ⟨HM.out⟩
      have hc1 : (w.drewN m).cell? ⟨g, 0, none⟩ = some (.string s) := hc
      have hcm1 : (w.drewN m).cell? ⟨g, 1, none⟩ = some (.map (some B)) := hcm
      clear H HM hc hcm
      generalize w.drewN m = w1 at HB0 H1 HM1 hc1 hcm1 ⊢
      rcases hp : lastN s a q with _ | p
      · have HP := Aside0.mk hp
        clear hp
        go_region_with (go_at_call 23; refine (four_calls s g B a _ ?_ ha (by omega)).mono ?_; exact H1.out; rintro e w2 ⟨he, hB⟩; replace he : e = .returned (fourV s a) := he; subst he; have hL := look_none (own_after HM1.out hB rfl) HP.out; obtain ⟨f, hrun⟩ := hL; have hcm2 := pw_cell_below hB hcm1; have hc2 := pw_cell_below hB hc1; have HB2 : Aside0 (Below w.heap.size w w2) := ⟨(below_drew1 HB0.out).trans (hB.mono HB0.out.size)⟩; have HP2 : Aside0 (IsP w2 g s B) := ⟨(hB.block g (blk_lt H1.out)).trans H1.out⟩; generalize fourV s a = V at hrun ⊢)
        all_goals go_wp2
        all_goals refine bodyPost_ret (results_tmp2 rfl _ _ _) rfl ?_
        all_goals exact ⟨by rw [HP.out]; simp only [bestN, HN.out]; rfl, HB2.out⟩
      · have HP := Aside0.mk hp
        have HPQ := Aside0.mk (lastN_lt hp)
        clear hp
        have f0 : (a : Int) - (p : Int) = ((a - p : Nat) : Int) := by have := HPQ.out; omega
        have F0 := Aside0.mk f0
        have f1 : decide ((a : Int) - (p : Int) ≤ 65535) = true := decide_eq_true (by omega)
        have f2 : IntKind.i64.wrap ((a : Int) - (p : Int)) = (a : Int) - (p : Int) := by rw [IntKind.wrap_i64]; omega
        clear f0
        go_region_with (go_at_call 23; refine (four_calls s g B a _ ?_ ha (by omega)).mono ?_; exact H1.out; rintro e w2 ⟨he, hB⟩; replace he : e = .returned (fourV s a) := he; subst he; have hrun := look_some (own_after HM1.out hB rfl) HP.out; have hcm2 := pw_cell_below hB hcm1; have hc2 := pw_cell_below hB hc1; have HB2 : Aside0 (Below w.heap.size w w2) := ⟨(below_drew1 HB0.out).trans (hB.mono HB0.out.size)⟩; have HP2 : Aside0 (IsP w2 g s B) := ⟨(hB.block g (blk_lt H1.out)).trans H1.out⟩; generalize fourV s a = V at hrun ⊢)
        all_goals go_wp2_with (go_at_call 27; refine (alike_calls s g B p a _ ?_ (by omega) (by have := HPQ.out; omega) (by omega)).mono ?_; exact HP2.out; rintro e w3 ⟨rfl, m3, rfl⟩; generalize hAL : alikeN s p a (s.size - a) 0 = al; have HAL := Aside0.mk hAL; clear hAL)
        all_goals refine bodyPost_ret (results_tmp2 rfl _ _ _) rfl ?_
        all_goals first
          | exact ⟨by rw [HP.out]; simp only [bestN, HN.out, HAL.out]; rw [if_pos ⟨by omega, by omega⟩, ← F0.out]; rfl, pw_below_drewN HB2.out _⟩
          | exact ⟨by rw [HP.out]; simp only [bestN, HN.out, HAL.out]; rw [if_neg (by omega)]; rfl, pw_below_drewN HB2.out _⟩

end Go.Proofs.Ytflkjofafgoapaa.Q
