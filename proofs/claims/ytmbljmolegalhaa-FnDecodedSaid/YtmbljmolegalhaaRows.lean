/-
  No cell of these rows narrows 'for every input' (looked for: loops, veiled, ifaces, maps, wideKeys, modest, calm, conditions, laid).
  DERIVED. THE GIVEN ROWS OF THIS SEAT. 8 by the template 'for every input the law returns true; each argument reads behind the call as it read before'; 0 by the template 'total and deterministic' (their statements: YtmbljmolegalhaaTotals.lean).
  GIVEN WITH THE SEED: the statements are not yours to turn. If you find one false, say at which input.
  Laid BY PROGRAM, IN A SANDBOX (cutbox-rows.mjs): the forced cells as the released guide's own fill.sh prints them over the translation e24e4911f0b81db4… (all of the seat's roots in one cut). By AI agents, Wed Nov 11 2026. No macro, syntax, notation, axiom, sorry.
-/
import Derived.Test.YtmbljmolegalhaaChecked
import GoSem.Claim
import GoSem.ClaimJoined
import GoSem.ClaimMapViews
import Derived.JoinedTies
import Derived.KernelRfl
namespace Go.Proofs.Ytmbljmolegalhaa
/- THE CELL 'sum', in the pinned program and in every row, IS THE sha256 OF THE DUMP (.gsa) THAT YtmbljmolegalhaaProg.lean LOADS. Nothing in Lean hashes anything: it is a label: what it is worth is what the hold of that sum in a sandbox is worth. -/
noncomputable def Try.pinned : Pinned := { name := "ytmbljmolegalhaa", sum := "e24e4911f0b81db428f3495d9900422b67c8dc104edc9ac9e818c904f24bfc1c", checked := Try.checked }
namespace Rows
def none {H : Type} : Left H := { results := [], args := [] }

/-- 'laws.FnExactLikeliestAfter': WHATEVER THE INPUT: true; the input reads as it did. -/
def fnExactLikeliestAfterSpec : ChangeSpec := { name := "fnExactLikeliestAfter", fn := fun _ => fun
  | [d1, d2, d3] => { results := [.lit (.bool true)], args := [d1, d2, d3] }
  | _ => none }
def fnExactLikeliestAfterRow : OpenClaim := { program := "ytmbljmolegalhaa", sum := "e24e4911f0b81db428f3495d9900422b67c8dc104edc9ac9e818c904f24bfc1c", func := "loop.example/g01269/laws.FnExactLikeliestAfter", spec := "fnExactLikeliestAfter", unfollowed := true, recurses := true, apart := false }
def FnExactLikeliestAfterSaid : Prop := fnExactLikeliestAfterRow.holds Try.pinned (OpenSpec.ofChange fnExactLikeliestAfterSpec)

/-- ITS FALSE NEIGHBOUR: 'it returns false'. Refute it at one input. -/
def fnExactLikeliestAfterWrong : ChangeSpec := { name := "fnExactLikeliestAfter", fn := fun _ => fun
  | [d1, d2, d3] => { results := [.lit (.bool false)], args := [d1, d2, d3] }
  | _ => none }
def FnExactLikeliestAfterWrongFalsely : Prop := fnExactLikeliestAfterRow.holds Try.pinned (OpenSpec.ofChange fnExactLikeliestAfterWrong)

/-- 'laws.FnExactEvenAfter': WHATEVER THE INPUT: true; the input reads as it did. -/
def fnExactEvenAfterSpec : ChangeSpec := { name := "fnExactEvenAfter", fn := fun _ => fun
  | [d1, d2, d3] => { results := [.lit (.bool true)], args := [d1, d2, d3] }
  | _ => none }
def fnExactEvenAfterRow : OpenClaim := { program := "ytmbljmolegalhaa", sum := "e24e4911f0b81db428f3495d9900422b67c8dc104edc9ac9e818c904f24bfc1c", func := "loop.example/g01269/laws.FnExactEvenAfter", spec := "fnExactEvenAfter", unfollowed := true, recurses := true, apart := false }
def FnExactEvenAfterSaid : Prop := fnExactEvenAfterRow.holds Try.pinned (OpenSpec.ofChange fnExactEvenAfterSpec)

/-- ITS FALSE NEIGHBOUR: 'it returns false'. Refute it at one input. -/
def fnExactEvenAfterWrong : ChangeSpec := { name := "fnExactEvenAfter", fn := fun _ => fun
  | [d1, d2, d3] => { results := [.lit (.bool false)], args := [d1, d2, d3] }
  | _ => none }
def FnExactEvenAfterWrongFalsely : Prop := fnExactEvenAfterRow.holds Try.pinned (OpenSpec.ofChange fnExactEvenAfterWrong)

/-- 'laws.FnExactChanceYes': WHATEVER THE INPUT: true; the input reads as it did. -/
def fnExactChanceYesSpec : ChangeSpec := { name := "fnExactChanceYes", fn := fun _ => fun
  | [d1, d2, d3, d4] => { results := [.lit (.bool true)], args := [d1, d2, d3, d4] }
  | _ => none }
def fnExactChanceYesRow : OpenClaim := { program := "ytmbljmolegalhaa", sum := "e24e4911f0b81db428f3495d9900422b67c8dc104edc9ac9e818c904f24bfc1c", func := "loop.example/g01269/laws.FnExactChanceYes", spec := "fnExactChanceYes", unfollowed := true, recurses := true, apart := false }
def FnExactChanceYesSaid : Prop := fnExactChanceYesRow.holds Try.pinned (OpenSpec.ofChange fnExactChanceYesSpec)

/-- ITS FALSE NEIGHBOUR: 'it returns false'. Refute it at one input. -/
def fnExactChanceYesWrong : ChangeSpec := { name := "fnExactChanceYes", fn := fun _ => fun
  | [d1, d2, d3, d4] => { results := [.lit (.bool false)], args := [d1, d2, d3, d4] }
  | _ => none }
def FnExactChanceYesWrongFalsely : Prop := fnExactChanceYesRow.holds Try.pinned (OpenSpec.ofChange fnExactChanceYesWrong)

/-- 'laws.FnFalse': WHATEVER THE INPUT: true; the input reads as it did. -/
def fnFalseSpec : ChangeSpec := { name := "fnFalse", fn := fun _ => fun
  | [d] => { results := [.lit (.bool true)], args := [d] }
  | _ => none }
def fnFalseRow : OpenClaim := { program := "ytmbljmolegalhaa", sum := "e24e4911f0b81db428f3495d9900422b67c8dc104edc9ac9e818c904f24bfc1c", func := "loop.example/g01269/laws.FnFalse", spec := "fnFalse", apart := false }
def FnFalseSaid : Prop := fnFalseRow.holds Try.pinned (OpenSpec.ofChange fnFalseSpec)

/-- ITS FALSE NEIGHBOUR: 'it returns false'. Refute it at one input. -/
def fnFalseWrong : ChangeSpec := { name := "fnFalse", fn := fun _ => fun
  | [d] => { results := [.lit (.bool false)], args := [d] }
  | _ => none }
def FnFalseWrongFalsely : Prop := fnFalseRow.holds Try.pinned (OpenSpec.ofChange fnFalseWrong)

/-- 'laws.FnExactChanceDecoded': WHATEVER THE INPUT: true; the input reads as it did. -/
def fnExactChanceDecodedSpec : ChangeSpec := { name := "fnExactChanceDecoded", fn := fun _ => fun
  | [d1, d2, d3] => { results := [.lit (.bool true)], args := [d1, d2, d3] }
  | _ => none }
def fnExactChanceDecodedRow : OpenClaim := { program := "ytmbljmolegalhaa", sum := "e24e4911f0b81db428f3495d9900422b67c8dc104edc9ac9e818c904f24bfc1c", func := "loop.example/g01269/laws.FnExactChanceDecoded", spec := "fnExactChanceDecoded", unfollowed := true, recurses := true, apart := false }
def FnExactChanceDecodedSaid : Prop := fnExactChanceDecodedRow.holds Try.pinned (OpenSpec.ofChange fnExactChanceDecodedSpec)

/-- ITS FALSE NEIGHBOUR: 'it returns false'. Refute it at one input. -/
def fnExactChanceDecodedWrong : ChangeSpec := { name := "fnExactChanceDecoded", fn := fun _ => fun
  | [d1, d2, d3] => { results := [.lit (.bool false)], args := [d1, d2, d3] }
  | _ => none }
def FnExactChanceDecodedWrongFalsely : Prop := fnExactChanceDecodedRow.holds Try.pinned (OpenSpec.ofChange fnExactChanceDecodedWrong)

/-- 'laws.FnExactChancesAfter': WHATEVER THE INPUT: true; the input reads as it did. -/
def fnExactChancesAfterSpec : ChangeSpec := { name := "fnExactChancesAfter", fn := fun _ => fun
  | [d1, d2, d3] => { results := [.lit (.bool true)], args := [d1, d2, d3] }
  | _ => none }
def fnExactChancesAfterRow : OpenClaim := { program := "ytmbljmolegalhaa", sum := "e24e4911f0b81db428f3495d9900422b67c8dc104edc9ac9e818c904f24bfc1c", func := "loop.example/g01269/laws.FnExactChancesAfter", spec := "fnExactChancesAfter", unfollowed := true, recurses := true, apart := false }
def FnExactChancesAfterSaid : Prop := fnExactChancesAfterRow.holds Try.pinned (OpenSpec.ofChange fnExactChancesAfterSpec)

/-- ITS FALSE NEIGHBOUR: 'it returns false'. Refute it at one input. -/
def fnExactChancesAfterWrong : ChangeSpec := { name := "fnExactChancesAfter", fn := fun _ => fun
  | [d1, d2, d3] => { results := [.lit (.bool false)], args := [d1, d2, d3] }
  | _ => none }
def FnExactChancesAfterWrongFalsely : Prop := fnExactChancesAfterRow.holds Try.pinned (OpenSpec.ofChange fnExactChancesAfterWrong)

/-- 'laws.FnExactChanceSafe': WHATEVER THE INPUT: true; the input reads as it did. -/
def fnExactChanceSafeSpec : ChangeSpec := { name := "fnExactChanceSafe", fn := fun _ => fun
  | [d1, d2, d3] => { results := [.lit (.bool true)], args := [d1, d2, d3] }
  | _ => none }
def fnExactChanceSafeRow : OpenClaim := { program := "ytmbljmolegalhaa", sum := "e24e4911f0b81db428f3495d9900422b67c8dc104edc9ac9e818c904f24bfc1c", func := "loop.example/g01269/laws.FnExactChanceSafe", spec := "fnExactChanceSafe", unfollowed := true, recurses := true, apart := false }
def FnExactChanceSafeSaid : Prop := fnExactChanceSafeRow.holds Try.pinned (OpenSpec.ofChange fnExactChanceSafeSpec)

/-- ITS FALSE NEIGHBOUR: 'it returns false'. Refute it at one input. -/
def fnExactChanceSafeWrong : ChangeSpec := { name := "fnExactChanceSafe", fn := fun _ => fun
  | [d1, d2, d3] => { results := [.lit (.bool false)], args := [d1, d2, d3] }
  | _ => none }
def FnExactChanceSafeWrongFalsely : Prop := fnExactChanceSafeRow.holds Try.pinned (OpenSpec.ofChange fnExactChanceSafeWrong)

/-- 'laws.FnDecoded': WHATEVER THE INPUT: true; the input reads as it did. -/
def fnDecodedSpec : ChangeSpec := { name := "fnDecoded", fn := fun _ => fun
  | [d] => { results := [.lit (.bool true)], args := [d] }
  | _ => none }
def fnDecodedRow : OpenClaim := { program := "ytmbljmolegalhaa", sum := "e24e4911f0b81db428f3495d9900422b67c8dc104edc9ac9e818c904f24bfc1c", func := "loop.example/g01269/laws.FnDecoded", spec := "fnDecoded", unfollowed := true, recurses := true, apart := false }
def FnDecodedSaid : Prop := fnDecodedRow.holds Try.pinned (OpenSpec.ofChange fnDecodedSpec)

/-- ITS FALSE NEIGHBOUR: 'it returns false'. Refute it at one input. -/
def fnDecodedWrong : ChangeSpec := { name := "fnDecoded", fn := fun _ => fun
  | [d] => { results := [.lit (.bool false)], args := [d] }
  | _ => none }
def FnDecodedWrongFalsely : Prop := fnDecodedRow.holds Try.pinned (OpenSpec.ofChange fnDecodedWrong)

/- THE SECOND FORM. 'bulk': how many values and letters a reading holds, each counted each time it is reached (what is shared counts as often as it is met; a slice's spare places count too). A statement '..UptoSaid' is the law's where the arguments, and the package variables that the reading takes, are together of bulk at most 1048576: NARROWER than '..Said'. Prove '..Said' where nothing that the law and all that it calls make is longer than what came in: it says more and counts as full. Else prove '..UptoSaid'. A law counts once. -/
mutual
def uptoBulk {H : Type} : DataW H → Nat
  | .lit (.string bytes) => bytes.length + 1
  | .lit _ => 1
  | .nil => 1
  | .ptr d => uptoBulk d + 1
  | .slice elems spare => uptoBulkAll elems + uptoBulkAll spare + 1
  | .agg parts => uptoBulkAll parts + 1
  | .iface _ d => uptoBulk d + 1
  | .map entries => uptoBulkEntries entries + 1
  | .held _ => 1
def uptoBulkAll {H : Type} : List (DataW H) → Nat
  | [] => 0
  | d :: r => uptoBulk d + uptoBulkAll r
def uptoBulkEntries {H : Type} : List (Lit × DataW H) → Nat
  | [] => 0
  | x :: r => uptoBulkEntry x + uptoBulkEntries r
def uptoBulkEntry {H : Type} : Lit × DataW H → Nat
  | (.string bytes, d) => bytes.length + uptoBulk d + 1
  | (_, d) => uptoBulk d + 1
 end
def uptoSmall : (H : Type) → List (DataW H) → Bool := fun _ ds => decide (uptoBulkAll ds ≤ 1048576)
def OpenSpec.upto (s : _root_.Go.ChangeSpec) : _root_.Go.OpenSpec := { _root_.Go.OpenSpec.ofChange s with cond := some uptoSmall }

/-- 'laws.FnExactLikeliestAfter', WHERE WHAT IT READS IS OF BULK AT MOST 1048576: true; the input reads as it did. -/
def fnExactLikeliestAfterUptoRow : OpenClaim := { program := "ytmbljmolegalhaa", sum := "e24e4911f0b81db428f3495d9900422b67c8dc104edc9ac9e818c904f24bfc1c", func := "loop.example/g01269/laws.FnExactLikeliestAfter", spec := "fnExactLikeliestAfter", unfollowed := true, recurses := true, apart := false, narrowed := true }
def FnExactLikeliestAfterUptoSaid : Prop := fnExactLikeliestAfterUptoRow.holds Try.pinned (OpenSpec.upto fnExactLikeliestAfterSpec)

/-- 'laws.FnExactEvenAfter', WHERE WHAT IT READS IS OF BULK AT MOST 1048576: true; the input reads as it did. -/
def fnExactEvenAfterUptoRow : OpenClaim := { program := "ytmbljmolegalhaa", sum := "e24e4911f0b81db428f3495d9900422b67c8dc104edc9ac9e818c904f24bfc1c", func := "loop.example/g01269/laws.FnExactEvenAfter", spec := "fnExactEvenAfter", unfollowed := true, recurses := true, apart := false, narrowed := true }
def FnExactEvenAfterUptoSaid : Prop := fnExactEvenAfterUptoRow.holds Try.pinned (OpenSpec.upto fnExactEvenAfterSpec)

/-- 'laws.FnExactChanceYes', WHERE WHAT IT READS IS OF BULK AT MOST 1048576: true; the input reads as it did. -/
def fnExactChanceYesUptoRow : OpenClaim := { program := "ytmbljmolegalhaa", sum := "e24e4911f0b81db428f3495d9900422b67c8dc104edc9ac9e818c904f24bfc1c", func := "loop.example/g01269/laws.FnExactChanceYes", spec := "fnExactChanceYes", unfollowed := true, recurses := true, apart := false, narrowed := true }
def FnExactChanceYesUptoSaid : Prop := fnExactChanceYesUptoRow.holds Try.pinned (OpenSpec.upto fnExactChanceYesSpec)

/-- 'laws.FnFalse', WHERE WHAT IT READS IS OF BULK AT MOST 1048576: true; the input reads as it did. -/
def fnFalseUptoRow : OpenClaim := { program := "ytmbljmolegalhaa", sum := "e24e4911f0b81db428f3495d9900422b67c8dc104edc9ac9e818c904f24bfc1c", func := "loop.example/g01269/laws.FnFalse", spec := "fnFalse", apart := false, narrowed := true }
def FnFalseUptoSaid : Prop := fnFalseUptoRow.holds Try.pinned (OpenSpec.upto fnFalseSpec)

/-- 'laws.FnExactChanceDecoded', WHERE WHAT IT READS IS OF BULK AT MOST 1048576: true; the input reads as it did. -/
def fnExactChanceDecodedUptoRow : OpenClaim := { program := "ytmbljmolegalhaa", sum := "e24e4911f0b81db428f3495d9900422b67c8dc104edc9ac9e818c904f24bfc1c", func := "loop.example/g01269/laws.FnExactChanceDecoded", spec := "fnExactChanceDecoded", unfollowed := true, recurses := true, apart := false, narrowed := true }
def FnExactChanceDecodedUptoSaid : Prop := fnExactChanceDecodedUptoRow.holds Try.pinned (OpenSpec.upto fnExactChanceDecodedSpec)

/-- 'laws.FnExactChancesAfter', WHERE WHAT IT READS IS OF BULK AT MOST 1048576: true; the input reads as it did. -/
def fnExactChancesAfterUptoRow : OpenClaim := { program := "ytmbljmolegalhaa", sum := "e24e4911f0b81db428f3495d9900422b67c8dc104edc9ac9e818c904f24bfc1c", func := "loop.example/g01269/laws.FnExactChancesAfter", spec := "fnExactChancesAfter", unfollowed := true, recurses := true, apart := false, narrowed := true }
def FnExactChancesAfterUptoSaid : Prop := fnExactChancesAfterUptoRow.holds Try.pinned (OpenSpec.upto fnExactChancesAfterSpec)

/-- 'laws.FnExactChanceSafe', WHERE WHAT IT READS IS OF BULK AT MOST 1048576: true; the input reads as it did. -/
def fnExactChanceSafeUptoRow : OpenClaim := { program := "ytmbljmolegalhaa", sum := "e24e4911f0b81db428f3495d9900422b67c8dc104edc9ac9e818c904f24bfc1c", func := "loop.example/g01269/laws.FnExactChanceSafe", spec := "fnExactChanceSafe", unfollowed := true, recurses := true, apart := false, narrowed := true }
def FnExactChanceSafeUptoSaid : Prop := fnExactChanceSafeUptoRow.holds Try.pinned (OpenSpec.upto fnExactChanceSafeSpec)

/-- 'laws.FnDecoded', WHERE WHAT IT READS IS OF BULK AT MOST 1048576: true; the input reads as it did. -/
def fnDecodedUptoRow : OpenClaim := { program := "ytmbljmolegalhaa", sum := "e24e4911f0b81db428f3495d9900422b67c8dc104edc9ac9e818c904f24bfc1c", func := "loop.example/g01269/laws.FnDecoded", spec := "fnDecoded", unfollowed := true, recurses := true, apart := false, narrowed := true }
def FnDecodedUptoSaid : Prop := fnDecodedUptoRow.holds Try.pinned (OpenSpec.upto fnDecodedSpec)

end Rows
end Go.Proofs.Ytmbljmolegalhaa
