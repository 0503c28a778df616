/-
  No cell of these rows narrows 'for every input' (looked for: loops, veiled, ifaces, maps, wideKeys, modest, calm, conditions, laid).
  DERIVED. THE GIVEN ROWS OF THIS SEAT. 5 by the template 'for every input the law returns true; each argument reads behind the call as it read before'; 0 by the template 'total and deterministic' (their statements: YticidepkeffkhaaTotals.lean).
  GIVEN WITH THE SEED: the statements are not yours to turn. If you find one false, say at which input.
  Laid BY PROGRAM, IN A SANDBOX (cutbox-rows.mjs): the forced cells as the released guide's own fill.sh prints them over the translation 77e20af266424be9… (all of the seat's roots in one cut). By AI agents, Wed Nov 11 2026. No macro, syntax, notation, axiom, sorry.
-/
import Derived.Test.YticidepkeffkhaaChecked
import GoSem.Claim
import GoSem.ClaimJoined
import GoSem.ClaimMapViews
import Derived.JoinedTies
import Derived.KernelRfl
namespace Go.Proofs.Yticidepkeffkhaa
/- THE CELL 'sum', in the pinned program and in every row, IS THE sha256 OF THE DUMP (.gsa) THAT YticidepkeffkhaaProg.lean LOADS. Nothing in Lean hashes anything: it is a label: what it is worth is what the hold of that sum in a sandbox is worth. -/
noncomputable def Try.pinned : Pinned := { name := "yticidepkeffkhaa", sum := "77e20af266424be9f83c20f1555183ca4606582257e692f16b6855268e96f2a0", checked := Try.checked }
namespace Rows
def none {H : Type} : Left H := { results := [], args := [] }

/-- 'laws.FnExactIsChoice': WHATEVER THE INPUT: true; the input reads as it did. -/
def fnExactIsChoiceSpec : ChangeSpec := { name := "fnExactIsChoice", fn := fun _ => fun
  | [d1, d2] => { results := [.lit (.bool true)], args := [d1, d2] }
  | _ => none }
def fnExactIsChoiceRow : OpenClaim := { program := "yticidepkeffkhaa", sum := "77e20af266424be9f83c20f1555183ca4606582257e692f16b6855268e96f2a0", func := "loop.example/g01269/laws.FnExactIsChoice", spec := "fnExactIsChoice", unfollowed := true, recurses := true, apart := false }
def FnExactIsChoiceSaid : Prop := fnExactIsChoiceRow.holds Try.pinned (OpenSpec.ofChange fnExactIsChoiceSpec)

/-- ITS FALSE NEIGHBOUR: 'it returns false'. Refute it at one input. -/
def fnExactIsChoiceWrong : ChangeSpec := { name := "fnExactIsChoice", fn := fun _ => fun
  | [d1, d2] => { results := [.lit (.bool false)], args := [d1, d2] }
  | _ => none }
def FnExactIsChoiceWrongFalsely : Prop := fnExactIsChoiceRow.holds Try.pinned (OpenSpec.ofChange fnExactIsChoiceWrong)

/-- 'laws.FnExactOneWayState': WHATEVER THE INPUT: true; the input reads as it did. -/
def fnExactOneWayStateSpec : ChangeSpec := { name := "fnExactOneWayState", fn := fun _ => fun
  | [d1, d2] => { results := [.lit (.bool true)], args := [d1, d2] }
  | _ => none }
def fnExactOneWayStateRow : OpenClaim := { program := "yticidepkeffkhaa", sum := "77e20af266424be9f83c20f1555183ca4606582257e692f16b6855268e96f2a0", func := "loop.example/g01269/laws.FnExactOneWayState", spec := "fnExactOneWayState", unfollowed := true, recurses := true, apart := false }
def FnExactOneWayStateSaid : Prop := fnExactOneWayStateRow.holds Try.pinned (OpenSpec.ofChange fnExactOneWayStateSpec)

/-- ITS FALSE NEIGHBOUR: 'it returns false'. Refute it at one input. -/
def fnExactOneWayStateWrong : ChangeSpec := { name := "fnExactOneWayState", fn := fun _ => fun
  | [d1, d2] => { results := [.lit (.bool false)], args := [d1, d2] }
  | _ => none }
def FnExactOneWayStateWrongFalsely : Prop := fnExactOneWayStateRow.holds Try.pinned (OpenSpec.ofChange fnExactOneWayStateWrong)

/-- 'laws.FnExactChoicesAt': WHATEVER THE INPUT: true; the input reads as it did. -/
def fnExactChoicesAtSpec : ChangeSpec := { name := "fnExactChoicesAt", fn := fun _ => fun
  | [d1, d2] => { results := [.lit (.bool true)], args := [d1, d2] }
  | _ => none }
def fnExactChoicesAtRow : OpenClaim := { program := "yticidepkeffkhaa", sum := "77e20af266424be9f83c20f1555183ca4606582257e692f16b6855268e96f2a0", func := "loop.example/g01269/laws.FnExactChoicesAt", spec := "fnExactChoicesAt", unfollowed := true, recurses := true, apart := false }
def FnExactChoicesAtSaid : Prop := fnExactChoicesAtRow.holds Try.pinned (OpenSpec.ofChange fnExactChoicesAtSpec)

/-- ITS FALSE NEIGHBOUR: 'it returns false'. Refute it at one input. -/
def fnExactChoicesAtWrong : ChangeSpec := { name := "fnExactChoicesAt", fn := fun _ => fun
  | [d1, d2] => { results := [.lit (.bool false)], args := [d1, d2] }
  | _ => none }
def FnExactChoicesAtWrongFalsely : Prop := fnExactChoicesAtRow.holds Try.pinned (OpenSpec.ofChange fnExactChoicesAtWrong)

/-- 'laws.FnExactSameOneWay': WHATEVER THE INPUT: true; the input reads as it did. -/
def fnExactSameOneWaySpec : ChangeSpec := { name := "fnExactSameOneWay", fn := fun _ => fun
  | [d1, d2, d3] => { results := [.lit (.bool true)], args := [d1, d2, d3] }
  | _ => none }
def fnExactSameOneWayRow : OpenClaim := { program := "yticidepkeffkhaa", sum := "77e20af266424be9f83c20f1555183ca4606582257e692f16b6855268e96f2a0", func := "loop.example/g01269/laws.FnExactSameOneWay", spec := "fnExactSameOneWay", unfollowed := true, recurses := true, apart := false }
def FnExactSameOneWaySaid : Prop := fnExactSameOneWayRow.holds Try.pinned (OpenSpec.ofChange fnExactSameOneWaySpec)

/-- ITS FALSE NEIGHBOUR: 'it returns false'. Refute it at one input. -/
def fnExactSameOneWayWrong : ChangeSpec := { name := "fnExactSameOneWay", fn := fun _ => fun
  | [d1, d2, d3] => { results := [.lit (.bool false)], args := [d1, d2, d3] }
  | _ => none }
def FnExactSameOneWayWrongFalsely : Prop := fnExactSameOneWayRow.holds Try.pinned (OpenSpec.ofChange fnExactSameOneWayWrong)

/-- 'laws.FnExactOneWayAll': WHATEVER THE INPUT: true; the input reads as it did. -/
def fnExactOneWayAllSpec : ChangeSpec := { name := "fnExactOneWayAll", fn := fun _ => fun
  | [d1, d2, d3] => { results := [.lit (.bool true)], args := [d1, d2, d3] }
  | _ => none }
def fnExactOneWayAllRow : OpenClaim := { program := "yticidepkeffkhaa", sum := "77e20af266424be9f83c20f1555183ca4606582257e692f16b6855268e96f2a0", func := "loop.example/g01269/laws.FnExactOneWayAll", spec := "fnExactOneWayAll", unfollowed := true, recurses := true, apart := false }
def FnExactOneWayAllSaid : Prop := fnExactOneWayAllRow.holds Try.pinned (OpenSpec.ofChange fnExactOneWayAllSpec)

/-- ITS FALSE NEIGHBOUR: 'it returns false'. Refute it at one input. -/
def fnExactOneWayAllWrong : ChangeSpec := { name := "fnExactOneWayAll", fn := fun _ => fun
  | [d1, d2, d3] => { results := [.lit (.bool false)], args := [d1, d2, d3] }
  | _ => none }
def FnExactOneWayAllWrongFalsely : Prop := fnExactOneWayAllRow.holds Try.pinned (OpenSpec.ofChange fnExactOneWayAllWrong)

/- THE SECOND FORM. 'bulk': how many values and letters a reading holds, each counted each time it is reached (what is shared counts as often as it is met; a slice's spare places count too). A statement '..UptoSaid' is the law's where the arguments, and the package variables that the reading takes, are together of bulk at most 1048576: NARROWER than '..Said'. Prove '..Said' where nothing that the law and all that it calls make is longer than what came in: it says more and counts as full. Else prove '..UptoSaid'. A law counts once. -/
mutual
def uptoBulk {H : Type} : DataW H → Nat
  | .lit (.string bytes) => bytes.length + 1
  | .lit _ => 1
  | .nil => 1
  | .ptr d => uptoBulk d + 1
  | .slice elems spare => uptoBulkAll elems + uptoBulkAll spare + 1
  | .agg parts => uptoBulkAll parts + 1
  | .iface _ d => uptoBulk d + 1
  | .map entries => uptoBulkEntries entries + 1
  | .held _ => 1
def uptoBulkAll {H : Type} : List (DataW H) → Nat
  | [] => 0
  | d :: r => uptoBulk d + uptoBulkAll r
def uptoBulkEntries {H : Type} : List (Lit × DataW H) → Nat
  | [] => 0
  | x :: r => uptoBulkEntry x + uptoBulkEntries r
def uptoBulkEntry {H : Type} : Lit × DataW H → Nat
  | (.string bytes, d) => bytes.length + uptoBulk d + 1
  | (_, d) => uptoBulk d + 1
 end
def uptoSmall : (H : Type) → List (DataW H) → Bool := fun _ ds => decide (uptoBulkAll ds ≤ 1048576)
def OpenSpec.upto (s : _root_.Go.ChangeSpec) : _root_.Go.OpenSpec := { _root_.Go.OpenSpec.ofChange s with cond := some uptoSmall }

/-- 'laws.FnExactIsChoice', WHERE WHAT IT READS IS OF BULK AT MOST 1048576: true; the input reads as it did. -/
def fnExactIsChoiceUptoRow : OpenClaim := { program := "yticidepkeffkhaa", sum := "77e20af266424be9f83c20f1555183ca4606582257e692f16b6855268e96f2a0", func := "loop.example/g01269/laws.FnExactIsChoice", spec := "fnExactIsChoice", unfollowed := true, recurses := true, apart := false, narrowed := true }
def FnExactIsChoiceUptoSaid : Prop := fnExactIsChoiceUptoRow.holds Try.pinned (OpenSpec.upto fnExactIsChoiceSpec)

/-- 'laws.FnExactOneWayState', WHERE WHAT IT READS IS OF BULK AT MOST 1048576: true; the input reads as it did. -/
def fnExactOneWayStateUptoRow : OpenClaim := { program := "yticidepkeffkhaa", sum := "77e20af266424be9f83c20f1555183ca4606582257e692f16b6855268e96f2a0", func := "loop.example/g01269/laws.FnExactOneWayState", spec := "fnExactOneWayState", unfollowed := true, recurses := true, apart := false, narrowed := true }
def FnExactOneWayStateUptoSaid : Prop := fnExactOneWayStateUptoRow.holds Try.pinned (OpenSpec.upto fnExactOneWayStateSpec)

/-- 'laws.FnExactChoicesAt', WHERE WHAT IT READS IS OF BULK AT MOST 1048576: true; the input reads as it did. -/
def fnExactChoicesAtUptoRow : OpenClaim := { program := "yticidepkeffkhaa", sum := "77e20af266424be9f83c20f1555183ca4606582257e692f16b6855268e96f2a0", func := "loop.example/g01269/laws.FnExactChoicesAt", spec := "fnExactChoicesAt", unfollowed := true, recurses := true, apart := false, narrowed := true }
def FnExactChoicesAtUptoSaid : Prop := fnExactChoicesAtUptoRow.holds Try.pinned (OpenSpec.upto fnExactChoicesAtSpec)

/-- 'laws.FnExactSameOneWay', WHERE WHAT IT READS IS OF BULK AT MOST 1048576: true; the input reads as it did. -/
def fnExactSameOneWayUptoRow : OpenClaim := { program := "yticidepkeffkhaa", sum := "77e20af266424be9f83c20f1555183ca4606582257e692f16b6855268e96f2a0", func := "loop.example/g01269/laws.FnExactSameOneWay", spec := "fnExactSameOneWay", unfollowed := true, recurses := true, apart := false, narrowed := true }
def FnExactSameOneWayUptoSaid : Prop := fnExactSameOneWayUptoRow.holds Try.pinned (OpenSpec.upto fnExactSameOneWaySpec)

/-- 'laws.FnExactOneWayAll', WHERE WHAT IT READS IS OF BULK AT MOST 1048576: true; the input reads as it did. -/
def fnExactOneWayAllUptoRow : OpenClaim := { program := "yticidepkeffkhaa", sum := "77e20af266424be9f83c20f1555183ca4606582257e692f16b6855268e96f2a0", func := "loop.example/g01269/laws.FnExactOneWayAll", spec := "fnExactOneWayAll", unfollowed := true, recurses := true, apart := false, narrowed := true }
def FnExactOneWayAllUptoSaid : Prop := fnExactOneWayAllUptoRow.holds Try.pinned (OpenSpec.upto fnExactOneWayAllSpec)

end Rows
end Go.Proofs.Yticidepkeffkhaa
