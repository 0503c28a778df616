/-
  No cell of these rows narrows 'for every input' (looked for: loops, veiled, ifaces, maps, wideKeys, modest, calm, conditions, laid).
  DERIVED. THE GIVEN ROWS OF THIS SEAT. 6 by the template 'for every input the law returns true; each argument reads behind the call as it read before'; 0 by the template 'total and deterministic' (their statements: YtgnclbdhpdjafaaTotals.lean).
  GIVEN WITH THE SEED: the statements are not yours to turn. If you find one false, say at which input.
  Laid BY PROGRAM, IN A SANDBOX (cutbox-rows.mjs): the forced cells as the released guide's own fill.sh prints them over the translation 48e936ef3be74f26… (all of the seat's roots in one cut). By AI agents, Wed Nov 11 2026. No macro, syntax, notation, axiom, sorry.
-/
import Derived.Test.YtgnclbdhpdjafaaChecked
import GoSem.Claim
import GoSem.ClaimJoined
import GoSem.ClaimMapViews
import Derived.JoinedTies
import Derived.KernelRfl
namespace Go.Proofs.Ytgnclbdhpdjafaa
/- THE CELL 'sum', in the pinned program and in every row, IS THE sha256 OF THE DUMP (.gsa) THAT YtgnclbdhpdjafaaProg.lean LOADS. Nothing in Lean hashes anything: it is a label: what it is worth is what the hold of that sum in a sandbox is worth. -/
noncomputable def Try.pinned : Pinned := { name := "ytgnclbdhpdjafaa", sum := "48e936ef3be74f26bcd13e48962ad9f5c611a25fe17365bc4f5f61f175f18c9e", checked := Try.checked }
namespace Rows
def none {H : Type} : Left H := { results := [], args := [] }

/-- 'laws.FnExactLessTable': WHATEVER THE INPUT: true; the input reads as it did. -/
def fnExactLessTableSpec : ChangeSpec := { name := "fnExactLessTable", fn := fun _ => fun
  | [d] => { results := [.lit (.bool true)], args := [d] }
  | _ => none }
def fnExactLessTableRow : OpenClaim := { program := "ytgnclbdhpdjafaa", sum := "48e936ef3be74f26bcd13e48962ad9f5c611a25fe17365bc4f5f61f175f18c9e", func := "loop.example/g01269/laws.FnExactLessTable", spec := "fnExactLessTable", unfollowed := true, recurses := true, apart := false }
def FnExactLessTableSaid : Prop := fnExactLessTableRow.holds Try.pinned (OpenSpec.ofChange fnExactLessTableSpec)

/-- ITS FALSE NEIGHBOUR: 'it returns false'. Refute it at one input. -/
def fnExactLessTableWrong : ChangeSpec := { name := "fnExactLessTable", fn := fun _ => fun
  | [d] => { results := [.lit (.bool false)], args := [d] }
  | _ => none }
def FnExactLessTableWrongFalsely : Prop := fnExactLessTableRow.holds Try.pinned (OpenSpec.ofChange fnExactLessTableWrong)

/-- 'laws.FnExactLessNeed': WHATEVER THE INPUT: true; the input reads as it did. -/
def fnExactLessNeedSpec : ChangeSpec := { name := "fnExactLessNeed", fn := fun _ => fun
  | [d] => { results := [.lit (.bool true)], args := [d] }
  | _ => none }
def fnExactLessNeedRow : OpenClaim := { program := "ytgnclbdhpdjafaa", sum := "48e936ef3be74f26bcd13e48962ad9f5c611a25fe17365bc4f5f61f175f18c9e", func := "loop.example/g01269/laws.FnExactLessNeed", spec := "fnExactLessNeed", unfollowed := true, recurses := true, apart := false }
def FnExactLessNeedSaid : Prop := fnExactLessNeedRow.holds Try.pinned (OpenSpec.ofChange fnExactLessNeedSpec)

/-- ITS FALSE NEIGHBOUR: 'it returns false'. Refute it at one input. -/
def fnExactLessNeedWrong : ChangeSpec := { name := "fnExactLessNeed", fn := fun _ => fun
  | [d] => { results := [.lit (.bool false)], args := [d] }
  | _ => none }
def FnExactLessNeedWrongFalsely : Prop := fnExactLessNeedRow.holds Try.pinned (OpenSpec.ofChange fnExactLessNeedWrong)

/-- 'laws.FnExactNeedOfLess': WHATEVER THE INPUT: true; the input reads as it did. -/
def fnExactNeedOfLessSpec : ChangeSpec := { name := "fnExactNeedOfLess", fn := fun _ => fun
  | [d1, d2] => { results := [.lit (.bool true)], args := [d1, d2] }
  | _ => none }
def fnExactNeedOfLessRow : OpenClaim := { program := "ytgnclbdhpdjafaa", sum := "48e936ef3be74f26bcd13e48962ad9f5c611a25fe17365bc4f5f61f175f18c9e", func := "loop.example/g01269/laws.FnExactNeedOfLess", spec := "fnExactNeedOfLess", unfollowed := true, recurses := true, apart := false }
def FnExactNeedOfLessSaid : Prop := fnExactNeedOfLessRow.holds Try.pinned (OpenSpec.ofChange fnExactNeedOfLessSpec)

/-- ITS FALSE NEIGHBOUR: 'it returns false'. Refute it at one input. -/
def fnExactNeedOfLessWrong : ChangeSpec := { name := "fnExactNeedOfLess", fn := fun _ => fun
  | [d1, d2] => { results := [.lit (.bool false)], args := [d1, d2] }
  | _ => none }
def FnExactNeedOfLessWrongFalsely : Prop := fnExactNeedOfLessRow.holds Try.pinned (OpenSpec.ofChange fnExactNeedOfLessWrong)

/-- 'laws.FnExactBestLess': WHATEVER THE INPUT: true; the input reads as it did. -/
def fnExactBestLessSpec : ChangeSpec := { name := "fnExactBestLess", fn := fun _ => fun
  | [d] => { results := [.lit (.bool true)], args := [d] }
  | _ => none }
def fnExactBestLessRow : OpenClaim := { program := "ytgnclbdhpdjafaa", sum := "48e936ef3be74f26bcd13e48962ad9f5c611a25fe17365bc4f5f61f175f18c9e", func := "loop.example/g01269/laws.FnExactBestLess", spec := "fnExactBestLess", unfollowed := true, recurses := true, apart := false }
def FnExactBestLessSaid : Prop := fnExactBestLessRow.holds Try.pinned (OpenSpec.ofChange fnExactBestLessSpec)

/-- ITS FALSE NEIGHBOUR: 'it returns false'. Refute it at one input. -/
def fnExactBestLessWrong : ChangeSpec := { name := "fnExactBestLess", fn := fun _ => fun
  | [d] => { results := [.lit (.bool false)], args := [d] }
  | _ => none }
def FnExactBestLessWrongFalsely : Prop := fnExactBestLessRow.holds Try.pinned (OpenSpec.ofChange fnExactBestLessWrong)

/-- 'laws.FnExactLessWorst': WHATEVER THE INPUT: true; the input reads as it did. -/
def fnExactLessWorstSpec : ChangeSpec := { name := "fnExactLessWorst", fn := fun _ => fun
  | [d] => { results := [.lit (.bool true)], args := [d] }
  | _ => none }
def fnExactLessWorstRow : OpenClaim := { program := "ytgnclbdhpdjafaa", sum := "48e936ef3be74f26bcd13e48962ad9f5c611a25fe17365bc4f5f61f175f18c9e", func := "loop.example/g01269/laws.FnExactLessWorst", spec := "fnExactLessWorst", unfollowed := true, recurses := true, apart := false }
def FnExactLessWorstSaid : Prop := fnExactLessWorstRow.holds Try.pinned (OpenSpec.ofChange fnExactLessWorstSpec)

/-- ITS FALSE NEIGHBOUR: 'it returns false'. Refute it at one input. -/
def fnExactLessWorstWrong : ChangeSpec := { name := "fnExactLessWorst", fn := fun _ => fun
  | [d] => { results := [.lit (.bool false)], args := [d] }
  | _ => none }
def FnExactLessWorstWrongFalsely : Prop := fnExactLessWorstRow.holds Try.pinned (OpenSpec.ofChange fnExactLessWorstWrong)

/-- 'laws.FnExactLessPlay': WHATEVER THE INPUT: true; the input reads as it did. -/
def fnExactLessPlaySpec : ChangeSpec := { name := "fnExactLessPlay", fn := fun _ => fun
  | [d1, d2, d3] => { results := [.lit (.bool true)], args := [d1, d2, d3] }
  | _ => none }
def fnExactLessPlayRow : OpenClaim := { program := "ytgnclbdhpdjafaa", sum := "48e936ef3be74f26bcd13e48962ad9f5c611a25fe17365bc4f5f61f175f18c9e", func := "loop.example/g01269/laws.FnExactLessPlay", spec := "fnExactLessPlay", unfollowed := true, recurses := true, apart := false }
def FnExactLessPlaySaid : Prop := fnExactLessPlayRow.holds Try.pinned (OpenSpec.ofChange fnExactLessPlaySpec)

/-- ITS FALSE NEIGHBOUR: 'it returns false'. Refute it at one input. -/
def fnExactLessPlayWrong : ChangeSpec := { name := "fnExactLessPlay", fn := fun _ => fun
  | [d1, d2, d3] => { results := [.lit (.bool false)], args := [d1, d2, d3] }
  | _ => none }
def FnExactLessPlayWrongFalsely : Prop := fnExactLessPlayRow.holds Try.pinned (OpenSpec.ofChange fnExactLessPlayWrong)

/- THE SECOND FORM. 'bulk': how many values and letters a reading holds, each counted each time it is reached (what is shared counts as often as it is met; a slice's spare places count too). A statement '..UptoSaid' is the law's where the arguments, and the package variables that the reading takes, are together of bulk at most 1048576: NARROWER than '..Said'. Prove '..Said' where nothing that the law and all that it calls make is longer than what came in: it says more and counts as full. Else prove '..UptoSaid'. A law counts once. -/
mutual
def uptoBulk {H : Type} : DataW H → Nat
  | .lit (.string bytes) => bytes.length + 1
  | .lit _ => 1
  | .nil => 1
  | .ptr d => uptoBulk d + 1
  | .slice elems spare => uptoBulkAll elems + uptoBulkAll spare + 1
  | .agg parts => uptoBulkAll parts + 1
  | .iface _ d => uptoBulk d + 1
  | .map entries => uptoBulkEntries entries + 1
  | .held _ => 1
def uptoBulkAll {H : Type} : List (DataW H) → Nat
  | [] => 0
  | d :: r => uptoBulk d + uptoBulkAll r
def uptoBulkEntries {H : Type} : List (Lit × DataW H) → Nat
  | [] => 0
  | x :: r => uptoBulkEntry x + uptoBulkEntries r
def uptoBulkEntry {H : Type} : Lit × DataW H → Nat
  | (.string bytes, d) => bytes.length + uptoBulk d + 1
  | (_, d) => uptoBulk d + 1
 end
def uptoSmall : (H : Type) → List (DataW H) → Bool := fun _ ds => decide (uptoBulkAll ds ≤ 1048576)
def OpenSpec.upto (s : _root_.Go.ChangeSpec) : _root_.Go.OpenSpec := { _root_.Go.OpenSpec.ofChange s with cond := some uptoSmall }

/-- 'laws.FnExactLessTable', WHERE WHAT IT READS IS OF BULK AT MOST 1048576: true; the input reads as it did. -/
def fnExactLessTableUptoRow : OpenClaim := { program := "ytgnclbdhpdjafaa", sum := "48e936ef3be74f26bcd13e48962ad9f5c611a25fe17365bc4f5f61f175f18c9e", func := "loop.example/g01269/laws.FnExactLessTable", spec := "fnExactLessTable", unfollowed := true, recurses := true, apart := false, narrowed := true }
def FnExactLessTableUptoSaid : Prop := fnExactLessTableUptoRow.holds Try.pinned (OpenSpec.upto fnExactLessTableSpec)

/-- 'laws.FnExactLessNeed', WHERE WHAT IT READS IS OF BULK AT MOST 1048576: true; the input reads as it did. -/
def fnExactLessNeedUptoRow : OpenClaim := { program := "ytgnclbdhpdjafaa", sum := "48e936ef3be74f26bcd13e48962ad9f5c611a25fe17365bc4f5f61f175f18c9e", func := "loop.example/g01269/laws.FnExactLessNeed", spec := "fnExactLessNeed", unfollowed := true, recurses := true, apart := false, narrowed := true }
def FnExactLessNeedUptoSaid : Prop := fnExactLessNeedUptoRow.holds Try.pinned (OpenSpec.upto fnExactLessNeedSpec)

/-- 'laws.FnExactNeedOfLess', WHERE WHAT IT READS IS OF BULK AT MOST 1048576: true; the input reads as it did. -/
def fnExactNeedOfLessUptoRow : OpenClaim := { program := "ytgnclbdhpdjafaa", sum := "48e936ef3be74f26bcd13e48962ad9f5c611a25fe17365bc4f5f61f175f18c9e", func := "loop.example/g01269/laws.FnExactNeedOfLess", spec := "fnExactNeedOfLess", unfollowed := true, recurses := true, apart := false, narrowed := true }
def FnExactNeedOfLessUptoSaid : Prop := fnExactNeedOfLessUptoRow.holds Try.pinned (OpenSpec.upto fnExactNeedOfLessSpec)

/-- 'laws.FnExactBestLess', WHERE WHAT IT READS IS OF BULK AT MOST 1048576: true; the input reads as it did. -/
def fnExactBestLessUptoRow : OpenClaim := { program := "ytgnclbdhpdjafaa", sum := "48e936ef3be74f26bcd13e48962ad9f5c611a25fe17365bc4f5f61f175f18c9e", func := "loop.example/g01269/laws.FnExactBestLess", spec := "fnExactBestLess", unfollowed := true, recurses := true, apart := false, narrowed := true }
def FnExactBestLessUptoSaid : Prop := fnExactBestLessUptoRow.holds Try.pinned (OpenSpec.upto fnExactBestLessSpec)

/-- 'laws.FnExactLessWorst', WHERE WHAT IT READS IS OF BULK AT MOST 1048576: true; the input reads as it did. -/
def fnExactLessWorstUptoRow : OpenClaim := { program := "ytgnclbdhpdjafaa", sum := "48e936ef3be74f26bcd13e48962ad9f5c611a25fe17365bc4f5f61f175f18c9e", func := "loop.example/g01269/laws.FnExactLessWorst", spec := "fnExactLessWorst", unfollowed := true, recurses := true, apart := false, narrowed := true }
def FnExactLessWorstUptoSaid : Prop := fnExactLessWorstUptoRow.holds Try.pinned (OpenSpec.upto fnExactLessWorstSpec)

/-- 'laws.FnExactLessPlay', WHERE WHAT IT READS IS OF BULK AT MOST 1048576: true; the input reads as it did. -/
def fnExactLessPlayUptoRow : OpenClaim := { program := "ytgnclbdhpdjafaa", sum := "48e936ef3be74f26bcd13e48962ad9f5c611a25fe17365bc4f5f61f175f18c9e", func := "loop.example/g01269/laws.FnExactLessPlay", spec := "fnExactLessPlay", unfollowed := true, recurses := true, apart := false, narrowed := true }
def FnExactLessPlayUptoSaid : Prop := fnExactLessPlayUptoRow.holds Try.pinned (OpenSpec.upto fnExactLessPlaySpec)

end Rows
end Go.Proofs.Ytgnclbdhpdjafaa
