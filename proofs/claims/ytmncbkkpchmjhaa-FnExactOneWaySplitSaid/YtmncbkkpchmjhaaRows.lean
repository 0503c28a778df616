/-
  No cell of these rows narrows 'for every input' (looked for: loops, veiled, ifaces, maps, wideKeys, modest, calm, conditions, laid).
  DERIVED. THE GIVEN ROWS OF THIS SEAT. 12 by the template 'for every input the law returns true; each argument reads behind the call as it read before'; 0 by the template 'total and deterministic' (their statements: YtmncbkkpchmjhaaTotals.lean).
  GIVEN WITH THE SEED: the statements are not yours to turn. If you find one false, say at which input.
  Laid BY PROGRAM, IN A SANDBOX (cutbox-rows.mjs): the forced cells as the released guide's own fill.sh prints them over the translation 2cee47e1330c45a9… (all of the seat's roots in one cut). By AI agents, Wed Nov 11 2026. No macro, syntax, notation, axiom, sorry.
-/
import Derived.Test.YtmncbkkpchmjhaaChecked
import GoSem.Claim
import GoSem.ClaimJoined
import GoSem.ClaimMapViews
import Derived.JoinedTies
import Derived.KernelRfl
namespace Go.Proofs.Ytmncbkkpchmjhaa
/- THE CELL 'sum', in the pinned program and in every row, IS THE sha256 OF THE DUMP (.gsa) THAT YtmncbkkpchmjhaaProg.lean LOADS. Nothing in Lean hashes anything: it is a label: what it is worth is what the hold of that sum in a sandbox is worth. -/
noncomputable def Try.pinned : Pinned := { name := "ytmncbkkpchmjhaa", sum := "2cee47e1330c45a9910f7523ac6cc28cace5103581e35bbc18fe888c0b802181", checked := Try.checked }
namespace Rows
def none {H : Type} : Left H := { results := [], args := [] }

/-- 'laws.FnExactOneWayYes': WHATEVER THE INPUT: true; the input reads as it did. -/
def fnExactOneWayYesSpec : ChangeSpec := { name := "fnExactOneWayYes", fn := fun _ => fun
  | [d1, d2] => { results := [.lit (.bool true)], args := [d1, d2] }
  | _ => none }
def fnExactOneWayYesRow : OpenClaim := { program := "ytmncbkkpchmjhaa", sum := "2cee47e1330c45a9910f7523ac6cc28cace5103581e35bbc18fe888c0b802181", func := "loop.example/g01269/laws.FnExactOneWayYes", spec := "fnExactOneWayYes", unfollowed := true, recurses := true, plainKeys := false, apart := false }
def FnExactOneWayYesSaid : Prop := fnExactOneWayYesRow.holds Try.pinned (OpenSpec.ofChange fnExactOneWayYesSpec)

/-- ITS FALSE NEIGHBOUR: 'it returns false'. Refute it at one input. -/
def fnExactOneWayYesWrong : ChangeSpec := { name := "fnExactOneWayYes", fn := fun _ => fun
  | [d1, d2] => { results := [.lit (.bool false)], args := [d1, d2] }
  | _ => none }
def FnExactOneWayYesWrongFalsely : Prop := fnExactOneWayYesRow.holds Try.pinned (OpenSpec.ofChange fnExactOneWayYesWrong)

/-- 'laws.FnExactOneWayNo': WHATEVER THE INPUT: true; the input reads as it did. -/
def fnExactOneWayNoSpec : ChangeSpec := { name := "fnExactOneWayNo", fn := fun _ => fun
  | [d1, d2] => { results := [.lit (.bool true)], args := [d1, d2] }
  | _ => none }
def fnExactOneWayNoRow : OpenClaim := { program := "ytmncbkkpchmjhaa", sum := "2cee47e1330c45a9910f7523ac6cc28cace5103581e35bbc18fe888c0b802181", func := "loop.example/g01269/laws.FnExactOneWayNo", spec := "fnExactOneWayNo", unfollowed := true, recurses := true, plainKeys := false, apart := false }
def FnExactOneWayNoSaid : Prop := fnExactOneWayNoRow.holds Try.pinned (OpenSpec.ofChange fnExactOneWayNoSpec)

/-- ITS FALSE NEIGHBOUR: 'it returns false'. Refute it at one input. -/
def fnExactOneWayNoWrong : ChangeSpec := { name := "fnExactOneWayNo", fn := fun _ => fun
  | [d1, d2] => { results := [.lit (.bool false)], args := [d1, d2] }
  | _ => none }
def FnExactOneWayNoWrongFalsely : Prop := fnExactOneWayNoRow.holds Try.pinned (OpenSpec.ofChange fnExactOneWayNoWrong)

/-- 'laws.FnExactMostByNeed': WHATEVER THE INPUT: true; the input reads as it did. -/
def fnExactMostByNeedSpec : ChangeSpec := { name := "fnExactMostByNeed", fn := fun _ => fun
  | [d1, d2] => { results := [.lit (.bool true)], args := [d1, d2] }
  | _ => none }
def fnExactMostByNeedRow : OpenClaim := { program := "ytmncbkkpchmjhaa", sum := "2cee47e1330c45a9910f7523ac6cc28cace5103581e35bbc18fe888c0b802181", func := "loop.example/g01269/laws.FnExactMostByNeed", spec := "fnExactMostByNeed", unfollowed := true, recurses := true, plainKeys := false, apart := false }
def FnExactMostByNeedSaid : Prop := fnExactMostByNeedRow.holds Try.pinned (OpenSpec.ofChange fnExactMostByNeedSpec)

/-- ITS FALSE NEIGHBOUR: 'it returns false'. Refute it at one input. -/
def fnExactMostByNeedWrong : ChangeSpec := { name := "fnExactMostByNeed", fn := fun _ => fun
  | [d1, d2] => { results := [.lit (.bool false)], args := [d1, d2] }
  | _ => none }
def FnExactMostByNeedWrongFalsely : Prop := fnExactMostByNeedRow.holds Try.pinned (OpenSpec.ofChange fnExactMostByNeedWrong)

/-- 'laws.FnExactOneWayMost': WHATEVER THE INPUT: true; the input reads as it did. -/
def fnExactOneWayMostSpec : ChangeSpec := { name := "fnExactOneWayMost", fn := fun _ => fun
  | [d1, d2] => { results := [.lit (.bool true)], args := [d1, d2] }
  | _ => none }
def fnExactOneWayMostRow : OpenClaim := { program := "ytmncbkkpchmjhaa", sum := "2cee47e1330c45a9910f7523ac6cc28cace5103581e35bbc18fe888c0b802181", func := "loop.example/g01269/laws.FnExactOneWayMost", spec := "fnExactOneWayMost", unfollowed := true, recurses := true, plainKeys := false, apart := false }
def FnExactOneWayMostSaid : Prop := fnExactOneWayMostRow.holds Try.pinned (OpenSpec.ofChange fnExactOneWayMostSpec)

/-- ITS FALSE NEIGHBOUR: 'it returns false'. Refute it at one input. -/
def fnExactOneWayMostWrong : ChangeSpec := { name := "fnExactOneWayMost", fn := fun _ => fun
  | [d1, d2] => { results := [.lit (.bool false)], args := [d1, d2] }
  | _ => none }
def FnExactOneWayMostWrongFalsely : Prop := fnExactOneWayMostRow.holds Try.pinned (OpenSpec.ofChange fnExactOneWayMostWrong)

/-- 'laws.FnExactNeedOf': WHATEVER THE INPUT: true; the input reads as it did. -/
def fnExactNeedOfSpec : ChangeSpec := { name := "fnExactNeedOf", fn := fun _ => fun
  | [d] => { results := [.lit (.bool true)], args := [d] }
  | _ => none }
def fnExactNeedOfRow : OpenClaim := { program := "ytmncbkkpchmjhaa", sum := "2cee47e1330c45a9910f7523ac6cc28cace5103581e35bbc18fe888c0b802181", func := "loop.example/g01269/laws.FnExactNeedOf", spec := "fnExactNeedOf", unfollowed := true, recurses := true, plainKeys := false, apart := false }
def FnExactNeedOfSaid : Prop := fnExactNeedOfRow.holds Try.pinned (OpenSpec.ofChange fnExactNeedOfSpec)

/-- ITS FALSE NEIGHBOUR: 'it returns false'. Refute it at one input. -/
def fnExactNeedOfWrong : ChangeSpec := { name := "fnExactNeedOf", fn := fun _ => fun
  | [d] => { results := [.lit (.bool false)], args := [d] }
  | _ => none }
def FnExactNeedOfWrongFalsely : Prop := fnExactNeedOfRow.holds Try.pinned (OpenSpec.ofChange fnExactNeedOfWrong)

/-- 'laws.FnExactOneWayNeed': WHATEVER THE INPUT: true; the input reads as it did. -/
def fnExactOneWayNeedSpec : ChangeSpec := { name := "fnExactOneWayNeed", fn := fun _ => fun
  | [d] => { results := [.lit (.bool true)], args := [d] }
  | _ => none }
def fnExactOneWayNeedRow : OpenClaim := { program := "ytmncbkkpchmjhaa", sum := "2cee47e1330c45a9910f7523ac6cc28cace5103581e35bbc18fe888c0b802181", func := "loop.example/g01269/laws.FnExactOneWayNeed", spec := "fnExactOneWayNeed", unfollowed := true, recurses := true, plainKeys := false, apart := false }
def FnExactOneWayNeedSaid : Prop := fnExactOneWayNeedRow.holds Try.pinned (OpenSpec.ofChange fnExactOneWayNeedSpec)

/-- ITS FALSE NEIGHBOUR: 'it returns false'. Refute it at one input. -/
def fnExactOneWayNeedWrong : ChangeSpec := { name := "fnExactOneWayNeed", fn := fun _ => fun
  | [d] => { results := [.lit (.bool false)], args := [d] }
  | _ => none }
def FnExactOneWayNeedWrongFalsely : Prop := fnExactOneWayNeedRow.holds Try.pinned (OpenSpec.ofChange fnExactOneWayNeedWrong)

/-- 'laws.FnExactNeedTable': WHATEVER THE INPUT: true; the input reads as it did. -/
def fnExactNeedTableSpec : ChangeSpec := { name := "fnExactNeedTable", fn := fun _ => fun
  | [d] => { results := [.lit (.bool true)], args := [d] }
  | _ => none }
def fnExactNeedTableRow : OpenClaim := { program := "ytmncbkkpchmjhaa", sum := "2cee47e1330c45a9910f7523ac6cc28cace5103581e35bbc18fe888c0b802181", func := "loop.example/g01269/laws.FnExactNeedTable", spec := "fnExactNeedTable", unfollowed := true, recurses := true, plainKeys := false, apart := false }
def FnExactNeedTableSaid : Prop := fnExactNeedTableRow.holds Try.pinned (OpenSpec.ofChange fnExactNeedTableSpec)

/-- ITS FALSE NEIGHBOUR: 'it returns false'. Refute it at one input. -/
def fnExactNeedTableWrong : ChangeSpec := { name := "fnExactNeedTable", fn := fun _ => fun
  | [d] => { results := [.lit (.bool false)], args := [d] }
  | _ => none }
def FnExactNeedTableWrongFalsely : Prop := fnExactNeedTableRow.holds Try.pinned (OpenSpec.ofChange fnExactNeedTableWrong)

/-- 'laws.FnExactOneWayTable': WHATEVER THE INPUT: true; the input reads as it did. -/
def fnExactOneWayTableSpec : ChangeSpec := { name := "fnExactOneWayTable", fn := fun _ => fun
  | [d] => { results := [.lit (.bool true)], args := [d] }
  | _ => none }
def fnExactOneWayTableRow : OpenClaim := { program := "ytmncbkkpchmjhaa", sum := "2cee47e1330c45a9910f7523ac6cc28cace5103581e35bbc18fe888c0b802181", func := "loop.example/g01269/laws.FnExactOneWayTable", spec := "fnExactOneWayTable", unfollowed := true, recurses := true, plainKeys := false, apart := false }
def FnExactOneWayTableSaid : Prop := fnExactOneWayTableRow.holds Try.pinned (OpenSpec.ofChange fnExactOneWayTableSpec)

/-- ITS FALSE NEIGHBOUR: 'it returns false'. Refute it at one input. -/
def fnExactOneWayTableWrong : ChangeSpec := { name := "fnExactOneWayTable", fn := fun _ => fun
  | [d] => { results := [.lit (.bool false)], args := [d] }
  | _ => none }
def FnExactOneWayTableWrongFalsely : Prop := fnExactOneWayTableRow.holds Try.pinned (OpenSpec.ofChange fnExactOneWayTableWrong)

/-- 'laws.FnExactOneWaySplit': WHATEVER THE INPUT: true; the input reads as it did. -/
def fnExactOneWaySplitSpec : ChangeSpec := { name := "fnExactOneWaySplit", fn := fun _ => fun
  | [d] => { results := [.lit (.bool true)], args := [d] }
  | _ => none }
def fnExactOneWaySplitRow : OpenClaim := { program := "ytmncbkkpchmjhaa", sum := "2cee47e1330c45a9910f7523ac6cc28cace5103581e35bbc18fe888c0b802181", func := "loop.example/g01269/laws.FnExactOneWaySplit", spec := "fnExactOneWaySplit", unfollowed := true, recurses := true, plainKeys := false, apart := false }
def FnExactOneWaySplitSaid : Prop := fnExactOneWaySplitRow.holds Try.pinned (OpenSpec.ofChange fnExactOneWaySplitSpec)

/-- ITS FALSE NEIGHBOUR: 'it returns false'. Refute it at one input. -/
def fnExactOneWaySplitWrong : ChangeSpec := { name := "fnExactOneWaySplit", fn := fun _ => fun
  | [d] => { results := [.lit (.bool false)], args := [d] }
  | _ => none }
def FnExactOneWaySplitWrongFalsely : Prop := fnExactOneWaySplitRow.holds Try.pinned (OpenSpec.ofChange fnExactOneWaySplitWrong)

/-- 'laws.FnExactSavedOneWay': WHATEVER THE INPUT: true; the input reads as it did. -/
def fnExactSavedOneWaySpec : ChangeSpec := { name := "fnExactSavedOneWay", fn := fun _ => fun
  | [d] => { results := [.lit (.bool true)], args := [d] }
  | _ => none }
def fnExactSavedOneWayRow : OpenClaim := { program := "ytmncbkkpchmjhaa", sum := "2cee47e1330c45a9910f7523ac6cc28cace5103581e35bbc18fe888c0b802181", func := "loop.example/g01269/laws.FnExactSavedOneWay", spec := "fnExactSavedOneWay", unfollowed := true, recurses := true, plainKeys := false, apart := false }
def FnExactSavedOneWaySaid : Prop := fnExactSavedOneWayRow.holds Try.pinned (OpenSpec.ofChange fnExactSavedOneWaySpec)

/-- ITS FALSE NEIGHBOUR: 'it returns false'. Refute it at one input. -/
def fnExactSavedOneWayWrong : ChangeSpec := { name := "fnExactSavedOneWay", fn := fun _ => fun
  | [d] => { results := [.lit (.bool false)], args := [d] }
  | _ => none }
def FnExactSavedOneWayWrongFalsely : Prop := fnExactSavedOneWayRow.holds Try.pinned (OpenSpec.ofChange fnExactSavedOneWayWrong)

/-- 'laws.FnExactBestSplit': WHATEVER THE INPUT: true; the input reads as it did. -/
def fnExactBestSplitSpec : ChangeSpec := { name := "fnExactBestSplit", fn := fun _ => fun
  | [d] => { results := [.lit (.bool true)], args := [d] }
  | _ => none }
def fnExactBestSplitRow : OpenClaim := { program := "ytmncbkkpchmjhaa", sum := "2cee47e1330c45a9910f7523ac6cc28cace5103581e35bbc18fe888c0b802181", func := "loop.example/g01269/laws.FnExactBestSplit", spec := "fnExactBestSplit", unfollowed := true, recurses := true, plainKeys := false, apart := false }
def FnExactBestSplitSaid : Prop := fnExactBestSplitRow.holds Try.pinned (OpenSpec.ofChange fnExactBestSplitSpec)

/-- ITS FALSE NEIGHBOUR: 'it returns false'. Refute it at one input. -/
def fnExactBestSplitWrong : ChangeSpec := { name := "fnExactBestSplit", fn := fun _ => fun
  | [d] => { results := [.lit (.bool false)], args := [d] }
  | _ => none }
def FnExactBestSplitWrongFalsely : Prop := fnExactBestSplitRow.holds Try.pinned (OpenSpec.ofChange fnExactBestSplitWrong)

/-- 'laws.FnExactSplitNeed': WHATEVER THE INPUT: true; the input reads as it did. -/
def fnExactSplitNeedSpec : ChangeSpec := { name := "fnExactSplitNeed", fn := fun _ => fun
  | [d1, d2] => { results := [.lit (.bool true)], args := [d1, d2] }
  | _ => none }
def fnExactSplitNeedRow : OpenClaim := { program := "ytmncbkkpchmjhaa", sum := "2cee47e1330c45a9910f7523ac6cc28cace5103581e35bbc18fe888c0b802181", func := "loop.example/g01269/laws.FnExactSplitNeed", spec := "fnExactSplitNeed", unfollowed := true, recurses := true, plainKeys := false, apart := false }
def FnExactSplitNeedSaid : Prop := fnExactSplitNeedRow.holds Try.pinned (OpenSpec.ofChange fnExactSplitNeedSpec)

/-- ITS FALSE NEIGHBOUR: 'it returns false'. Refute it at one input. -/
def fnExactSplitNeedWrong : ChangeSpec := { name := "fnExactSplitNeed", fn := fun _ => fun
  | [d1, d2] => { results := [.lit (.bool false)], args := [d1, d2] }
  | _ => none }
def FnExactSplitNeedWrongFalsely : Prop := fnExactSplitNeedRow.holds Try.pinned (OpenSpec.ofChange fnExactSplitNeedWrong)

/- THE SECOND FORM. 'bulk': how many values and letters a reading holds, each counted each time it is reached (what is shared counts as often as it is met; a slice's spare places count too). A statement '..UptoSaid' is the law's where the arguments, and the package variables that the reading takes, are together of bulk at most 1048576: NARROWER than '..Said'. Prove '..Said' where nothing that the law and all that it calls make is longer than what came in: it says more and counts as full. Else prove '..UptoSaid'. A law counts once. -/
mutual
def uptoBulk {H : Type} : DataW H → Nat
  | .lit (.string bytes) => bytes.length + 1
  | .lit _ => 1
  | .nil => 1
  | .ptr d => uptoBulk d + 1
  | .slice elems spare => uptoBulkAll elems + uptoBulkAll spare + 1
  | .agg parts => uptoBulkAll parts + 1
  | .iface _ d => uptoBulk d + 1
  | .map entries => uptoBulkEntries entries + 1
  | .held _ => 1
def uptoBulkAll {H : Type} : List (DataW H) → Nat
  | [] => 0
  | d :: r => uptoBulk d + uptoBulkAll r
def uptoBulkEntries {H : Type} : List (Lit × DataW H) → Nat
  | [] => 0
  | x :: r => uptoBulkEntry x + uptoBulkEntries r
def uptoBulkEntry {H : Type} : Lit × DataW H → Nat
  | (.string bytes, d) => bytes.length + uptoBulk d + 1
  | (_, d) => uptoBulk d + 1
 end
def uptoSmall : (H : Type) → List (DataW H) → Bool := fun _ ds => decide (uptoBulkAll ds ≤ 1048576)
def OpenSpec.upto (s : _root_.Go.ChangeSpec) : _root_.Go.OpenSpec := { _root_.Go.OpenSpec.ofChange s with cond := some uptoSmall }

/-- 'laws.FnExactOneWayYes', WHERE WHAT IT READS IS OF BULK AT MOST 1048576: true; the input reads as it did. -/
def fnExactOneWayYesUptoRow : OpenClaim := { program := "ytmncbkkpchmjhaa", sum := "2cee47e1330c45a9910f7523ac6cc28cace5103581e35bbc18fe888c0b802181", func := "loop.example/g01269/laws.FnExactOneWayYes", spec := "fnExactOneWayYes", unfollowed := true, recurses := true, plainKeys := false, apart := false, narrowed := true }
def FnExactOneWayYesUptoSaid : Prop := fnExactOneWayYesUptoRow.holds Try.pinned (OpenSpec.upto fnExactOneWayYesSpec)

/-- 'laws.FnExactOneWayNo', WHERE WHAT IT READS IS OF BULK AT MOST 1048576: true; the input reads as it did. -/
def fnExactOneWayNoUptoRow : OpenClaim := { program := "ytmncbkkpchmjhaa", sum := "2cee47e1330c45a9910f7523ac6cc28cace5103581e35bbc18fe888c0b802181", func := "loop.example/g01269/laws.FnExactOneWayNo", spec := "fnExactOneWayNo", unfollowed := true, recurses := true, plainKeys := false, apart := false, narrowed := true }
def FnExactOneWayNoUptoSaid : Prop := fnExactOneWayNoUptoRow.holds Try.pinned (OpenSpec.upto fnExactOneWayNoSpec)

/-- 'laws.FnExactMostByNeed', WHERE WHAT IT READS IS OF BULK AT MOST 1048576: true; the input reads as it did. -/
def fnExactMostByNeedUptoRow : OpenClaim := { program := "ytmncbkkpchmjhaa", sum := "2cee47e1330c45a9910f7523ac6cc28cace5103581e35bbc18fe888c0b802181", func := "loop.example/g01269/laws.FnExactMostByNeed", spec := "fnExactMostByNeed", unfollowed := true, recurses := true, plainKeys := false, apart := false, narrowed := true }
def FnExactMostByNeedUptoSaid : Prop := fnExactMostByNeedUptoRow.holds Try.pinned (OpenSpec.upto fnExactMostByNeedSpec)

/-- 'laws.FnExactOneWayMost', WHERE WHAT IT READS IS OF BULK AT MOST 1048576: true; the input reads as it did. -/
def fnExactOneWayMostUptoRow : OpenClaim := { program := "ytmncbkkpchmjhaa", sum := "2cee47e1330c45a9910f7523ac6cc28cace5103581e35bbc18fe888c0b802181", func := "loop.example/g01269/laws.FnExactOneWayMost", spec := "fnExactOneWayMost", unfollowed := true, recurses := true, plainKeys := false, apart := false, narrowed := true }
def FnExactOneWayMostUptoSaid : Prop := fnExactOneWayMostUptoRow.holds Try.pinned (OpenSpec.upto fnExactOneWayMostSpec)

/-- 'laws.FnExactNeedOf', WHERE WHAT IT READS IS OF BULK AT MOST 1048576: true; the input reads as it did. -/
def fnExactNeedOfUptoRow : OpenClaim := { program := "ytmncbkkpchmjhaa", sum := "2cee47e1330c45a9910f7523ac6cc28cace5103581e35bbc18fe888c0b802181", func := "loop.example/g01269/laws.FnExactNeedOf", spec := "fnExactNeedOf", unfollowed := true, recurses := true, plainKeys := false, apart := false, narrowed := true }
def FnExactNeedOfUptoSaid : Prop := fnExactNeedOfUptoRow.holds Try.pinned (OpenSpec.upto fnExactNeedOfSpec)

/-- 'laws.FnExactOneWayNeed', WHERE WHAT IT READS IS OF BULK AT MOST 1048576: true; the input reads as it did. -/
def fnExactOneWayNeedUptoRow : OpenClaim := { program := "ytmncbkkpchmjhaa", sum := "2cee47e1330c45a9910f7523ac6cc28cace5103581e35bbc18fe888c0b802181", func := "loop.example/g01269/laws.FnExactOneWayNeed", spec := "fnExactOneWayNeed", unfollowed := true, recurses := true, plainKeys := false, apart := false, narrowed := true }
def FnExactOneWayNeedUptoSaid : Prop := fnExactOneWayNeedUptoRow.holds Try.pinned (OpenSpec.upto fnExactOneWayNeedSpec)

/-- 'laws.FnExactNeedTable', WHERE WHAT IT READS IS OF BULK AT MOST 1048576: true; the input reads as it did. -/
def fnExactNeedTableUptoRow : OpenClaim := { program := "ytmncbkkpchmjhaa", sum := "2cee47e1330c45a9910f7523ac6cc28cace5103581e35bbc18fe888c0b802181", func := "loop.example/g01269/laws.FnExactNeedTable", spec := "fnExactNeedTable", unfollowed := true, recurses := true, plainKeys := false, apart := false, narrowed := true }
def FnExactNeedTableUptoSaid : Prop := fnExactNeedTableUptoRow.holds Try.pinned (OpenSpec.upto fnExactNeedTableSpec)

/-- 'laws.FnExactOneWayTable', WHERE WHAT IT READS IS OF BULK AT MOST 1048576: true; the input reads as it did. -/
def fnExactOneWayTableUptoRow : OpenClaim := { program := "ytmncbkkpchmjhaa", sum := "2cee47e1330c45a9910f7523ac6cc28cace5103581e35bbc18fe888c0b802181", func := "loop.example/g01269/laws.FnExactOneWayTable", spec := "fnExactOneWayTable", unfollowed := true, recurses := true, plainKeys := false, apart := false, narrowed := true }
def FnExactOneWayTableUptoSaid : Prop := fnExactOneWayTableUptoRow.holds Try.pinned (OpenSpec.upto fnExactOneWayTableSpec)

/-- 'laws.FnExactOneWaySplit', WHERE WHAT IT READS IS OF BULK AT MOST 1048576: true; the input reads as it did. -/
def fnExactOneWaySplitUptoRow : OpenClaim := { program := "ytmncbkkpchmjhaa", sum := "2cee47e1330c45a9910f7523ac6cc28cace5103581e35bbc18fe888c0b802181", func := "loop.example/g01269/laws.FnExactOneWaySplit", spec := "fnExactOneWaySplit", unfollowed := true, recurses := true, plainKeys := false, apart := false, narrowed := true }
def FnExactOneWaySplitUptoSaid : Prop := fnExactOneWaySplitUptoRow.holds Try.pinned (OpenSpec.upto fnExactOneWaySplitSpec)

/-- 'laws.FnExactSavedOneWay', WHERE WHAT IT READS IS OF BULK AT MOST 1048576: true; the input reads as it did. -/
def fnExactSavedOneWayUptoRow : OpenClaim := { program := "ytmncbkkpchmjhaa", sum := "2cee47e1330c45a9910f7523ac6cc28cace5103581e35bbc18fe888c0b802181", func := "loop.example/g01269/laws.FnExactSavedOneWay", spec := "fnExactSavedOneWay", unfollowed := true, recurses := true, plainKeys := false, apart := false, narrowed := true }
def FnExactSavedOneWayUptoSaid : Prop := fnExactSavedOneWayUptoRow.holds Try.pinned (OpenSpec.upto fnExactSavedOneWaySpec)

/-- 'laws.FnExactBestSplit', WHERE WHAT IT READS IS OF BULK AT MOST 1048576: true; the input reads as it did. -/
def fnExactBestSplitUptoRow : OpenClaim := { program := "ytmncbkkpchmjhaa", sum := "2cee47e1330c45a9910f7523ac6cc28cace5103581e35bbc18fe888c0b802181", func := "loop.example/g01269/laws.FnExactBestSplit", spec := "fnExactBestSplit", unfollowed := true, recurses := true, plainKeys := false, apart := false, narrowed := true }
def FnExactBestSplitUptoSaid : Prop := fnExactBestSplitUptoRow.holds Try.pinned (OpenSpec.upto fnExactBestSplitSpec)

/-- 'laws.FnExactSplitNeed', WHERE WHAT IT READS IS OF BULK AT MOST 1048576: true; the input reads as it did. -/
def fnExactSplitNeedUptoRow : OpenClaim := { program := "ytmncbkkpchmjhaa", sum := "2cee47e1330c45a9910f7523ac6cc28cace5103581e35bbc18fe888c0b802181", func := "loop.example/g01269/laws.FnExactSplitNeed", spec := "fnExactSplitNeed", unfollowed := true, recurses := true, plainKeys := false, apart := false, narrowed := true }
def FnExactSplitNeedUptoSaid : Prop := fnExactSplitNeedUptoRow.holds Try.pinned (OpenSpec.upto fnExactSplitNeedSpec)

end Rows
end Go.Proofs.Ytmncbkkpchmjhaa
