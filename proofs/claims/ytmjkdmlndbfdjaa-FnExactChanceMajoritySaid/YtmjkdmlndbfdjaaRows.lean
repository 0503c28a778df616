/-
  No cell of these rows narrows 'for every input' (looked for: loops, veiled, ifaces, maps, wideKeys, modest, calm, conditions, laid).
  DERIVED. THE GIVEN ROWS OF THIS SEAT. 6 by the template 'for every input the law returns true; each argument reads behind the call as it read before'; 0 by the template 'total and deterministic' (their statements: YtmjkdmlndbfdjaaTotals.lean).
  GIVEN WITH THE SEED: the statements are not yours to turn. If you find one false, say at which input.
  Laid BY PROGRAM, IN A SANDBOX (cutbox-rows.mjs): the forced cells as the released guide's own fill.sh prints them over the translation a39ab8e13194daa6… (all of the seat's roots in one cut). By AI agents, Wed Nov 11 2026. No macro, syntax, notation, axiom, sorry.
-/
import Derived.Test.YtmjkdmlndbfdjaaChecked
import GoSem.Claim
import GoSem.ClaimJoined
import GoSem.ClaimMapViews
import Derived.JoinedTies
import Derived.KernelRfl
namespace Go.Proofs.Ytmjkdmlndbfdjaa
/- THE CELL 'sum', in the pinned program and in every row, IS THE sha256 OF THE DUMP (.gsa) THAT YtmjkdmlndbfdjaaProg.lean LOADS. Nothing in Lean hashes anything: it is a label: what it is worth is what the hold of that sum in a sandbox is worth. -/
noncomputable def Try.pinned : Pinned := { name := "ytmjkdmlndbfdjaa", sum := "a39ab8e13194daa6197fe4cb8d4a961f052ebf6e72dd0fa3e5b74a4b6be3ee29", checked := Try.checked }
namespace Rows
def none {H : Type} : Left H := { results := [], args := [] }

/-- 'laws.FnExactIsDoubt': WHATEVER THE INPUT: true; the input reads as it did. -/
def fnExactIsDoubtSpec : ChangeSpec := { name := "fnExactIsDoubt", fn := fun _ => fun
  | [d] => { results := [.lit (.bool true)], args := [d] }
  | _ => none }
def fnExactIsDoubtRow : OpenClaim := { program := "ytmjkdmlndbfdjaa", sum := "a39ab8e13194daa6197fe4cb8d4a961f052ebf6e72dd0fa3e5b74a4b6be3ee29", func := "loop.example/g01269/laws.FnExactIsDoubt", spec := "fnExactIsDoubt", apart := false }
def FnExactIsDoubtSaid : Prop := fnExactIsDoubtRow.holds Try.pinned (OpenSpec.ofChange fnExactIsDoubtSpec)

/-- ITS FALSE NEIGHBOUR: 'it returns false'. Refute it at one input. -/
def fnExactIsDoubtWrong : ChangeSpec := { name := "fnExactIsDoubt", fn := fun _ => fun
  | [d] => { results := [.lit (.bool false)], args := [d] }
  | _ => none }
def FnExactIsDoubtWrongFalsely : Prop := fnExactIsDoubtRow.holds Try.pinned (OpenSpec.ofChange fnExactIsDoubtWrong)

/-- 'laws.FnExactMeanFalse': WHATEVER THE INPUT: true; the input reads as it did. -/
def fnExactMeanFalseSpec : ChangeSpec := { name := "fnExactMeanFalse", fn := fun _ => fun
  | [d1, d2] => { results := [.lit (.bool true)], args := [d1, d2] }
  | _ => none }
def fnExactMeanFalseRow : OpenClaim := { program := "ytmjkdmlndbfdjaa", sum := "a39ab8e13194daa6197fe4cb8d4a961f052ebf6e72dd0fa3e5b74a4b6be3ee29", func := "loop.example/g01269/laws.FnExactMeanFalse", spec := "fnExactMeanFalse", apart := false }
def FnExactMeanFalseSaid : Prop := fnExactMeanFalseRow.holds Try.pinned (OpenSpec.ofChange fnExactMeanFalseSpec)

/-- ITS FALSE NEIGHBOUR: 'it returns false'. Refute it at one input. -/
def fnExactMeanFalseWrong : ChangeSpec := { name := "fnExactMeanFalse", fn := fun _ => fun
  | [d1, d2] => { results := [.lit (.bool false)], args := [d1, d2] }
  | _ => none }
def FnExactMeanFalseWrongFalsely : Prop := fnExactMeanFalseRow.holds Try.pinned (OpenSpec.ofChange fnExactMeanFalseWrong)

/-- 'laws.FnExactRepeatsFor': WHATEVER THE INPUT: true; the input reads as it did. -/
def fnExactRepeatsForSpec : ChangeSpec := { name := "fnExactRepeatsFor", fn := fun _ => fun
  | [d1, d2] => { results := [.lit (.bool true)], args := [d1, d2] }
  | _ => none }
def fnExactRepeatsForRow : OpenClaim := { program := "ytmjkdmlndbfdjaa", sum := "a39ab8e13194daa6197fe4cb8d4a961f052ebf6e72dd0fa3e5b74a4b6be3ee29", func := "loop.example/g01269/laws.FnExactRepeatsFor", spec := "fnExactRepeatsFor", apart := false }
def FnExactRepeatsForSaid : Prop := fnExactRepeatsForRow.holds Try.pinned (OpenSpec.ofChange fnExactRepeatsForSpec)

/-- ITS FALSE NEIGHBOUR: 'it returns false'. Refute it at one input. -/
def fnExactRepeatsForWrong : ChangeSpec := { name := "fnExactRepeatsFor", fn := fun _ => fun
  | [d1, d2] => { results := [.lit (.bool false)], args := [d1, d2] }
  | _ => none }
def FnExactRepeatsForWrongFalsely : Prop := fnExactRepeatsForRow.holds Try.pinned (OpenSpec.ofChange fnExactRepeatsForWrong)

/-- 'laws.FnExactChanceFalse': WHATEVER THE INPUT: true; the input reads as it did. -/
def fnExactChanceFalseSpec : ChangeSpec := { name := "fnExactChanceFalse", fn := fun _ => fun
  | [d1, d2, d3] => { results := [.lit (.bool true)], args := [d1, d2, d3] }
  | _ => none }
def fnExactChanceFalseRow : OpenClaim := { program := "ytmjkdmlndbfdjaa", sum := "a39ab8e13194daa6197fe4cb8d4a961f052ebf6e72dd0fa3e5b74a4b6be3ee29", func := "loop.example/g01269/laws.FnExactChanceFalse", spec := "fnExactChanceFalse", apart := false }
def FnExactChanceFalseSaid : Prop := fnExactChanceFalseRow.holds Try.pinned (OpenSpec.ofChange fnExactChanceFalseSpec)

/-- ITS FALSE NEIGHBOUR: 'it returns false'. Refute it at one input. -/
def fnExactChanceFalseWrong : ChangeSpec := { name := "fnExactChanceFalse", fn := fun _ => fun
  | [d1, d2, d3] => { results := [.lit (.bool false)], args := [d1, d2, d3] }
  | _ => none }
def FnExactChanceFalseWrongFalsely : Prop := fnExactChanceFalseRow.holds Try.pinned (OpenSpec.ofChange fnExactChanceFalseWrong)

/-- 'laws.FnExactChanceWithin': WHATEVER THE INPUT: true; the input reads as it did. -/
def fnExactChanceWithinSpec : ChangeSpec := { name := "fnExactChanceWithin", fn := fun _ => fun
  | [d1, d2, d3] => { results := [.lit (.bool true)], args := [d1, d2, d3] }
  | _ => none }
def fnExactChanceWithinRow : OpenClaim := { program := "ytmjkdmlndbfdjaa", sum := "a39ab8e13194daa6197fe4cb8d4a961f052ebf6e72dd0fa3e5b74a4b6be3ee29", func := "loop.example/g01269/laws.FnExactChanceWithin", spec := "fnExactChanceWithin", apart := false }
def FnExactChanceWithinSaid : Prop := fnExactChanceWithinRow.holds Try.pinned (OpenSpec.ofChange fnExactChanceWithinSpec)

/-- ITS FALSE NEIGHBOUR: 'it returns false'. Refute it at one input. -/
def fnExactChanceWithinWrong : ChangeSpec := { name := "fnExactChanceWithin", fn := fun _ => fun
  | [d1, d2, d3] => { results := [.lit (.bool false)], args := [d1, d2, d3] }
  | _ => none }
def FnExactChanceWithinWrongFalsely : Prop := fnExactChanceWithinRow.holds Try.pinned (OpenSpec.ofChange fnExactChanceWithinWrong)

/-- 'laws.FnExactChanceMajority': WHATEVER THE INPUT: true; the input reads as it did. -/
def fnExactChanceMajoritySpec : ChangeSpec := { name := "fnExactChanceMajority", fn := fun _ => fun
  | [d1, d2] => { results := [.lit (.bool true)], args := [d1, d2] }
  | _ => none }
def fnExactChanceMajorityRow : OpenClaim := { program := "ytmjkdmlndbfdjaa", sum := "a39ab8e13194daa6197fe4cb8d4a961f052ebf6e72dd0fa3e5b74a4b6be3ee29", func := "loop.example/g01269/laws.FnExactChanceMajority", spec := "fnExactChanceMajority", apart := false }
def FnExactChanceMajoritySaid : Prop := fnExactChanceMajorityRow.holds Try.pinned (OpenSpec.ofChange fnExactChanceMajoritySpec)

/-- ITS FALSE NEIGHBOUR: 'it returns false'. Refute it at one input. -/
def fnExactChanceMajorityWrong : ChangeSpec := { name := "fnExactChanceMajority", fn := fun _ => fun
  | [d1, d2] => { results := [.lit (.bool false)], args := [d1, d2] }
  | _ => none }
def FnExactChanceMajorityWrongFalsely : Prop := fnExactChanceMajorityRow.holds Try.pinned (OpenSpec.ofChange fnExactChanceMajorityWrong)

/- THE SECOND FORM. 'bulk': how many values and letters a reading holds, each counted each time it is reached (what is shared counts as often as it is met; a slice's spare places count too). A statement '..UptoSaid' is the law's where the arguments, and the package variables that the reading takes, are together of bulk at most 1048576: NARROWER than '..Said'. Prove '..Said' where nothing that the law and all that it calls make is longer than what came in: it says more and counts as full. Else prove '..UptoSaid'. A law counts once. -/
mutual
def uptoBulk {H : Type} : DataW H → Nat
  | .lit (.string bytes) => bytes.length + 1
  | .lit _ => 1
  | .nil => 1
  | .ptr d => uptoBulk d + 1
  | .slice elems spare => uptoBulkAll elems + uptoBulkAll spare + 1
  | .agg parts => uptoBulkAll parts + 1
  | .iface _ d => uptoBulk d + 1
  | .map entries => uptoBulkEntries entries + 1
  | .held _ => 1
def uptoBulkAll {H : Type} : List (DataW H) → Nat
  | [] => 0
  | d :: r => uptoBulk d + uptoBulkAll r
def uptoBulkEntries {H : Type} : List (Lit × DataW H) → Nat
  | [] => 0
  | x :: r => uptoBulkEntry x + uptoBulkEntries r
def uptoBulkEntry {H : Type} : Lit × DataW H → Nat
  | (.string bytes, d) => bytes.length + uptoBulk d + 1
  | (_, d) => uptoBulk d + 1
 end
def uptoSmall : (H : Type) → List (DataW H) → Bool := fun _ ds => decide (uptoBulkAll ds ≤ 1048576)
def OpenSpec.upto (s : _root_.Go.ChangeSpec) : _root_.Go.OpenSpec := { _root_.Go.OpenSpec.ofChange s with cond := some uptoSmall }

/-- 'laws.FnExactIsDoubt', WHERE WHAT IT READS IS OF BULK AT MOST 1048576: true; the input reads as it did. -/
def fnExactIsDoubtUptoRow : OpenClaim := { program := "ytmjkdmlndbfdjaa", sum := "a39ab8e13194daa6197fe4cb8d4a961f052ebf6e72dd0fa3e5b74a4b6be3ee29", func := "loop.example/g01269/laws.FnExactIsDoubt", spec := "fnExactIsDoubt", apart := false, narrowed := true }
def FnExactIsDoubtUptoSaid : Prop := fnExactIsDoubtUptoRow.holds Try.pinned (OpenSpec.upto fnExactIsDoubtSpec)

/-- 'laws.FnExactMeanFalse', WHERE WHAT IT READS IS OF BULK AT MOST 1048576: true; the input reads as it did. -/
def fnExactMeanFalseUptoRow : OpenClaim := { program := "ytmjkdmlndbfdjaa", sum := "a39ab8e13194daa6197fe4cb8d4a961f052ebf6e72dd0fa3e5b74a4b6be3ee29", func := "loop.example/g01269/laws.FnExactMeanFalse", spec := "fnExactMeanFalse", apart := false, narrowed := true }
def FnExactMeanFalseUptoSaid : Prop := fnExactMeanFalseUptoRow.holds Try.pinned (OpenSpec.upto fnExactMeanFalseSpec)

/-- 'laws.FnExactRepeatsFor', WHERE WHAT IT READS IS OF BULK AT MOST 1048576: true; the input reads as it did. -/
def fnExactRepeatsForUptoRow : OpenClaim := { program := "ytmjkdmlndbfdjaa", sum := "a39ab8e13194daa6197fe4cb8d4a961f052ebf6e72dd0fa3e5b74a4b6be3ee29", func := "loop.example/g01269/laws.FnExactRepeatsFor", spec := "fnExactRepeatsFor", apart := false, narrowed := true }
def FnExactRepeatsForUptoSaid : Prop := fnExactRepeatsForUptoRow.holds Try.pinned (OpenSpec.upto fnExactRepeatsForSpec)

/-- 'laws.FnExactChanceFalse', WHERE WHAT IT READS IS OF BULK AT MOST 1048576: true; the input reads as it did. -/
def fnExactChanceFalseUptoRow : OpenClaim := { program := "ytmjkdmlndbfdjaa", sum := "a39ab8e13194daa6197fe4cb8d4a961f052ebf6e72dd0fa3e5b74a4b6be3ee29", func := "loop.example/g01269/laws.FnExactChanceFalse", spec := "fnExactChanceFalse", apart := false, narrowed := true }
def FnExactChanceFalseUptoSaid : Prop := fnExactChanceFalseUptoRow.holds Try.pinned (OpenSpec.upto fnExactChanceFalseSpec)

/-- 'laws.FnExactChanceWithin', WHERE WHAT IT READS IS OF BULK AT MOST 1048576: true; the input reads as it did. -/
def fnExactChanceWithinUptoRow : OpenClaim := { program := "ytmjkdmlndbfdjaa", sum := "a39ab8e13194daa6197fe4cb8d4a961f052ebf6e72dd0fa3e5b74a4b6be3ee29", func := "loop.example/g01269/laws.FnExactChanceWithin", spec := "fnExactChanceWithin", apart := false, narrowed := true }
def FnExactChanceWithinUptoSaid : Prop := fnExactChanceWithinUptoRow.holds Try.pinned (OpenSpec.upto fnExactChanceWithinSpec)

/-- 'laws.FnExactChanceMajority', WHERE WHAT IT READS IS OF BULK AT MOST 1048576: true; the input reads as it did. -/
def fnExactChanceMajorityUptoRow : OpenClaim := { program := "ytmjkdmlndbfdjaa", sum := "a39ab8e13194daa6197fe4cb8d4a961f052ebf6e72dd0fa3e5b74a4b6be3ee29", func := "loop.example/g01269/laws.FnExactChanceMajority", spec := "fnExactChanceMajority", apart := false, narrowed := true }
def FnExactChanceMajorityUptoSaid : Prop := fnExactChanceMajorityUptoRow.holds Try.pinned (OpenSpec.upto fnExactChanceMajoritySpec)

end Rows
end Go.Proofs.Ytmjkdmlndbfdjaa
