/-
  No cell of these rows narrows 'for every input' (looked for: loops, veiled, ifaces, maps, wideKeys, modest, calm, conditions, laid).
  DERIVED. THE GIVEN ROWS OF THIS SEAT. 3 by the template 'for every input the law returns true; each argument reads behind the call as it read before'; 0 by the template 'total and deterministic' (their statements: YtoiedcnhojkpiaaTotals.lean).
  GIVEN WITH THE SEED: the statements are not yours to turn. If you find one false, say at which input.
  Laid BY PROGRAM, IN A SANDBOX (cutbox-rows.mjs): the forced cells as the released guide's own fill.sh prints them over the translation 80a2175f4a228b08… (all of the seat's roots in one cut). By AI agents, Wed Nov 11 2026. No macro, syntax, notation, axiom, sorry.
-/
import Derived.Test.YtoiedcnhojkpiaaChecked
import GoSem.Claim
import GoSem.ClaimJoined
import GoSem.ClaimMapViews
import Derived.JoinedTies
import Derived.KernelRfl
namespace Go.Proofs.Ytoiedcnhojkpiaa
/- THE CELL 'sum', in the pinned program and in every row, IS THE sha256 OF THE DUMP (.gsa) THAT YtoiedcnhojkpiaaProg.lean LOADS. Nothing in Lean hashes anything: it is a label: what it is worth is what the hold of that sum in a sandbox is worth. -/
noncomputable def Try.pinned : Pinned := { name := "ytoiedcnhojkpiaa", sum := "80a2175f4a228b086822887bfb682bf1a70076c70832dfd41bfc069ce2318abe", checked := Try.checked }
namespace Rows
def none {H : Type} : Left H := { results := [], args := [] }

/-- 'garretlaw29.SweepPlans': WHATEVER THE INPUT: true; the input reads as it did. -/
def sweepPlansSpec : ChangeSpec := { name := "sweepPlans", fn := fun _ => fun
  | [d1, d2, d3] => { results := [.lit (.bool true)], args := [d1, d2, d3] }
  | _ => none }
def sweepPlansRow : OpenClaim := { program := "ytoiedcnhojkpiaa", sum := "80a2175f4a228b086822887bfb682bf1a70076c70832dfd41bfc069ce2318abe", func := "garret/garretlaw29.SweepPlans", spec := "sweepPlans", inPlace := ["internal/abi.NoEscape", "internal/bytealg.MakeNoZero", "slices.overlaps[garret/api.Item]"], unfollowed := true, recurses := true, apart := false }
def SweepPlansSaid : Prop := sweepPlansRow.holds Try.pinned (OpenSpec.ofChange sweepPlansSpec)

/-- ITS FALSE NEIGHBOUR: 'it returns false'. Refute it at one input. -/
def sweepPlansWrong : ChangeSpec := { name := "sweepPlans", fn := fun _ => fun
  | [d1, d2, d3] => { results := [.lit (.bool false)], args := [d1, d2, d3] }
  | _ => none }
def SweepPlansWrongFalsely : Prop := sweepPlansRow.holds Try.pinned (OpenSpec.ofChange sweepPlansWrong)

/-- 'garretlaw29.SweepHalves': WHATEVER THE INPUT: true; the input reads as it did. -/
def sweepHalvesSpec : ChangeSpec := { name := "sweepHalves", fn := fun _ => fun
  | [d1, d2, d3] => { results := [.lit (.bool true)], args := [d1, d2, d3] }
  | _ => none }
def sweepHalvesRow : OpenClaim := { program := "ytoiedcnhojkpiaa", sum := "80a2175f4a228b086822887bfb682bf1a70076c70832dfd41bfc069ce2318abe", func := "garret/garretlaw29.SweepHalves", spec := "sweepHalves", inPlace := ["internal/abi.NoEscape", "internal/bytealg.MakeNoZero", "slices.overlaps[garret/api.Item]"], unfollowed := true, recurses := true, apart := false }
def SweepHalvesSaid : Prop := sweepHalvesRow.holds Try.pinned (OpenSpec.ofChange sweepHalvesSpec)

/-- ITS FALSE NEIGHBOUR: 'it returns false'. Refute it at one input. -/
def sweepHalvesWrong : ChangeSpec := { name := "sweepHalves", fn := fun _ => fun
  | [d1, d2, d3] => { results := [.lit (.bool false)], args := [d1, d2, d3] }
  | _ => none }
def SweepHalvesWrongFalsely : Prop := sweepHalvesRow.holds Try.pinned (OpenSpec.ofChange sweepHalvesWrong)

/-- 'garretlaw29.SweepReach': WHATEVER THE INPUT: true; the input reads as it did. -/
def sweepReachSpec : ChangeSpec := { name := "sweepReach", fn := fun _ => fun
  | [d1, d2] => { results := [.lit (.bool true)], args := [d1, d2] }
  | _ => none }
def sweepReachRow : OpenClaim := { program := "ytoiedcnhojkpiaa", sum := "80a2175f4a228b086822887bfb682bf1a70076c70832dfd41bfc069ce2318abe", func := "garret/garretlaw29.SweepReach", spec := "sweepReach", inPlace := ["internal/abi.NoEscape", "internal/bytealg.MakeNoZero", "slices.overlaps[garret/api.Item]"], unfollowed := true, recurses := true, apart := false }
def SweepReachSaid : Prop := sweepReachRow.holds Try.pinned (OpenSpec.ofChange sweepReachSpec)

/-- ITS FALSE NEIGHBOUR: 'it returns false'. Refute it at one input. -/
def sweepReachWrong : ChangeSpec := { name := "sweepReach", fn := fun _ => fun
  | [d1, d2] => { results := [.lit (.bool false)], args := [d1, d2] }
  | _ => none }
def SweepReachWrongFalsely : Prop := sweepReachRow.holds Try.pinned (OpenSpec.ofChange sweepReachWrong)

/- THE SECOND FORM. 'bulk': how many values and letters a reading holds, each counted each time it is reached (what is shared counts as often as it is met; a slice's spare places count too). A statement '..UptoSaid' is the law's where the arguments, and the package variables that the reading takes, are together of bulk at most 1048576: NARROWER than '..Said'. Prove '..Said' where nothing that the law and all that it calls make is longer than what came in: it says more and counts as full. Else prove '..UptoSaid'. A law counts once. -/
mutual
def uptoBulk {H : Type} : DataW H → Nat
  | .lit (.string bytes) => bytes.length + 1
  | .lit _ => 1
  | .nil => 1
  | .ptr d => uptoBulk d + 1
  | .slice elems spare => uptoBulkAll elems + uptoBulkAll spare + 1
  | .agg parts => uptoBulkAll parts + 1
  | .iface _ d => uptoBulk d + 1
  | .map entries => uptoBulkEntries entries + 1
  | .held _ => 1
def uptoBulkAll {H : Type} : List (DataW H) → Nat
  | [] => 0
  | d :: r => uptoBulk d + uptoBulkAll r
def uptoBulkEntries {H : Type} : List (Lit × DataW H) → Nat
  | [] => 0
  | x :: r => uptoBulkEntry x + uptoBulkEntries r
def uptoBulkEntry {H : Type} : Lit × DataW H → Nat
  | (.string bytes, d) => bytes.length + uptoBulk d + 1
  | (_, d) => uptoBulk d + 1
 end
def uptoSmall : (H : Type) → List (DataW H) → Bool := fun _ ds => decide (uptoBulkAll ds ≤ 1048576)
def OpenSpec.upto (s : _root_.Go.ChangeSpec) : _root_.Go.OpenSpec := { _root_.Go.OpenSpec.ofChange s with cond := some uptoSmall }

/-- 'garretlaw29.SweepPlans', WHERE WHAT IT READS IS OF BULK AT MOST 1048576: true; the input reads as it did. -/
def sweepPlansUptoRow : OpenClaim := { program := "ytoiedcnhojkpiaa", sum := "80a2175f4a228b086822887bfb682bf1a70076c70832dfd41bfc069ce2318abe", func := "garret/garretlaw29.SweepPlans", spec := "sweepPlans", inPlace := ["internal/abi.NoEscape", "internal/bytealg.MakeNoZero", "slices.overlaps[garret/api.Item]"], unfollowed := true, recurses := true, apart := false, narrowed := true }
def SweepPlansUptoSaid : Prop := sweepPlansUptoRow.holds Try.pinned (OpenSpec.upto sweepPlansSpec)

/-- 'garretlaw29.SweepHalves', WHERE WHAT IT READS IS OF BULK AT MOST 1048576: true; the input reads as it did. -/
def sweepHalvesUptoRow : OpenClaim := { program := "ytoiedcnhojkpiaa", sum := "80a2175f4a228b086822887bfb682bf1a70076c70832dfd41bfc069ce2318abe", func := "garret/garretlaw29.SweepHalves", spec := "sweepHalves", inPlace := ["internal/abi.NoEscape", "internal/bytealg.MakeNoZero", "slices.overlaps[garret/api.Item]"], unfollowed := true, recurses := true, apart := false, narrowed := true }
def SweepHalvesUptoSaid : Prop := sweepHalvesUptoRow.holds Try.pinned (OpenSpec.upto sweepHalvesSpec)

/-- 'garretlaw29.SweepReach', WHERE WHAT IT READS IS OF BULK AT MOST 1048576: true; the input reads as it did. -/
def sweepReachUptoRow : OpenClaim := { program := "ytoiedcnhojkpiaa", sum := "80a2175f4a228b086822887bfb682bf1a70076c70832dfd41bfc069ce2318abe", func := "garret/garretlaw29.SweepReach", spec := "sweepReach", inPlace := ["internal/abi.NoEscape", "internal/bytealg.MakeNoZero", "slices.overlaps[garret/api.Item]"], unfollowed := true, recurses := true, apart := false, narrowed := true }
def SweepReachUptoSaid : Prop := sweepReachUptoRow.holds Try.pinned (OpenSpec.upto sweepReachSpec)

end Rows
end Go.Proofs.Ytoiedcnhojkpiaa
