/-
  No cell of these rows narrows 'for every input' (looked for: loops, veiled, ifaces, maps, wideKeys, modest, calm, conditions, laid).
  DERIVED. THE GIVEN ROWS OF THIS SEAT. 11 by the template 'for every input the law returns true; each argument reads behind the call as it read before'; 0 by the template 'total and deterministic' (their statements: YthijklidjdhkdaaTotals.lean).
  GIVEN WITH THE SEED: the statements are not yours to turn. If you find one false, say at which input.
  Laid BY PROGRAM, IN A SANDBOX (cutbox-rows.mjs): the forced cells as the released guide's own fill.sh prints them over the translation fecd5cd2bf34b807… (all of the seat's roots in one cut). By AI agents, Wed Nov 11 2026. No macro, syntax, notation, axiom, sorry.
-/
import Derived.Test.YthijklidjdhkdaaChecked
import GoSem.Claim
import GoSem.ClaimJoined
import GoSem.ClaimMapViews
import Derived.JoinedTies
import Derived.KernelRfl
namespace Go.Proofs.Ythijklidjdhkdaa
/- THE CELL 'sum', in the pinned program and in every row, IS THE sha256 OF THE DUMP (.gsa) THAT YthijklidjdhkdaaProg.lean LOADS. Nothing in Lean hashes anything: it is a label: what it is worth is what the hold of that sum in a sandbox is worth. -/
noncomputable def Try.pinned : Pinned := { name := "ythijklidjdhkdaa", sum := "fecd5cd2bf34b807e1f8ed1a0c0d5280005278cc75d22461ac57471a450aacb5", checked := Try.checked }
namespace Rows
def none {H : Type} : Left H := { results := [], args := [] }

/-- 'laws.FnExactIsDrive': WHATEVER THE INPUT: true; the input reads as it did. -/
def fnExactIsDriveSpec : ChangeSpec := { name := "fnExactIsDrive", fn := fun _ => fun
  | [d] => { results := [.lit (.bool true)], args := [d] }
  | _ => none }
def fnExactIsDriveRow : OpenClaim := { program := "ythijklidjdhkdaa", sum := "fecd5cd2bf34b807e1f8ed1a0c0d5280005278cc75d22461ac57471a450aacb5", func := "loop.example/g00935/laws.FnExactIsDrive", spec := "fnExactIsDrive", unfollowed := true, recurses := true, apart := false }
def FnExactIsDriveSaid : Prop := fnExactIsDriveRow.holds Try.pinned (OpenSpec.ofChange fnExactIsDriveSpec)

/-- ITS FALSE NEIGHBOUR: 'it returns false'. Refute it at one input. -/
def fnExactIsDriveWrong : ChangeSpec := { name := "fnExactIsDrive", fn := fun _ => fun
  | [d] => { results := [.lit (.bool false)], args := [d] }
  | _ => none }
def FnExactIsDriveWrongFalsely : Prop := fnExactIsDriveRow.holds Try.pinned (OpenSpec.ofChange fnExactIsDriveWrong)

/-- 'laws.FnExactHoldsStill': WHATEVER THE INPUT: true; the input reads as it did. -/
def fnExactHoldsStillSpec : ChangeSpec := { name := "fnExactHoldsStill", fn := fun _ => fun
  | [d] => { results := [.lit (.bool true)], args := [d] }
  | _ => none }
def fnExactHoldsStillRow : OpenClaim := { program := "ythijklidjdhkdaa", sum := "fecd5cd2bf34b807e1f8ed1a0c0d5280005278cc75d22461ac57471a450aacb5", func := "loop.example/g00935/laws.FnExactHoldsStill", spec := "fnExactHoldsStill", unfollowed := true, recurses := true, apart := false }
def FnExactHoldsStillSaid : Prop := fnExactHoldsStillRow.holds Try.pinned (OpenSpec.ofChange fnExactHoldsStillSpec)

/-- ITS FALSE NEIGHBOUR: 'it returns false'. Refute it at one input. -/
def fnExactHoldsStillWrong : ChangeSpec := { name := "fnExactHoldsStill", fn := fun _ => fun
  | [d] => { results := [.lit (.bool false)], args := [d] }
  | _ => none }
def FnExactHoldsStillWrongFalsely : Prop := fnExactHoldsStillRow.holds Try.pinned (OpenSpec.ofChange fnExactHoldsStillWrong)

/-- 'laws.FnExactBrakeWay': WHATEVER THE INPUT: true; the input reads as it did. -/
def fnExactBrakeWaySpec : ChangeSpec := { name := "fnExactBrakeWay", fn := fun _ => fun
  | [d1, d2] => { results := [.lit (.bool true)], args := [d1, d2] }
  | _ => none }
def fnExactBrakeWayRow : OpenClaim := { program := "ythijklidjdhkdaa", sum := "fecd5cd2bf34b807e1f8ed1a0c0d5280005278cc75d22461ac57471a450aacb5", func := "loop.example/g00935/laws.FnExactBrakeWay", spec := "fnExactBrakeWay", unfollowed := true, recurses := true, apart := false }
def FnExactBrakeWaySaid : Prop := fnExactBrakeWayRow.holds Try.pinned (OpenSpec.ofChange fnExactBrakeWaySpec)

/-- ITS FALSE NEIGHBOUR: 'it returns false'. Refute it at one input. -/
def fnExactBrakeWayWrong : ChangeSpec := { name := "fnExactBrakeWay", fn := fun _ => fun
  | [d1, d2] => { results := [.lit (.bool false)], args := [d1, d2] }
  | _ => none }
def FnExactBrakeWayWrongFalsely : Prop := fnExactBrakeWayRow.holds Try.pinned (OpenSpec.ofChange fnExactBrakeWayWrong)

/-- 'laws.FnExactSafeSpeed': WHATEVER THE INPUT: true; the input reads as it did. -/
def fnExactSafeSpeedSpec : ChangeSpec := { name := "fnExactSafeSpeed", fn := fun _ => fun
  | [d1, d2] => { results := [.lit (.bool true)], args := [d1, d2] }
  | _ => none }
def fnExactSafeSpeedRow : OpenClaim := { program := "ythijklidjdhkdaa", sum := "fecd5cd2bf34b807e1f8ed1a0c0d5280005278cc75d22461ac57471a450aacb5", func := "loop.example/g00935/laws.FnExactSafeSpeed", spec := "fnExactSafeSpeed", unfollowed := true, recurses := true, apart := false }
def FnExactSafeSpeedSaid : Prop := fnExactSafeSpeedRow.holds Try.pinned (OpenSpec.ofChange fnExactSafeSpeedSpec)

/-- ITS FALSE NEIGHBOUR: 'it returns false'. Refute it at one input. -/
def fnExactSafeSpeedWrong : ChangeSpec := { name := "fnExactSafeSpeed", fn := fun _ => fun
  | [d1, d2] => { results := [.lit (.bool false)], args := [d1, d2] }
  | _ => none }
def FnExactSafeSpeedWrongFalsely : Prop := fnExactSafeSpeedRow.holds Try.pinned (OpenSpec.ofChange fnExactSafeSpeedWrong)

/-- 'laws.FnExactBrakeSpeeds': WHATEVER THE INPUT: true; the input reads as it did. -/
def fnExactBrakeSpeedsSpec : ChangeSpec := { name := "fnExactBrakeSpeeds", fn := fun _ => fun
  | [d1, d2] => { results := [.lit (.bool true)], args := [d1, d2] }
  | _ => none }
def fnExactBrakeSpeedsRow : OpenClaim := { program := "ythijklidjdhkdaa", sum := "fecd5cd2bf34b807e1f8ed1a0c0d5280005278cc75d22461ac57471a450aacb5", func := "loop.example/g00935/laws.FnExactBrakeSpeeds", spec := "fnExactBrakeSpeeds", unfollowed := true, recurses := true, apart := false }
def FnExactBrakeSpeedsSaid : Prop := fnExactBrakeSpeedsRow.holds Try.pinned (OpenSpec.ofChange fnExactBrakeSpeedsSpec)

/-- ITS FALSE NEIGHBOUR: 'it returns false'. Refute it at one input. -/
def fnExactBrakeSpeedsWrong : ChangeSpec := { name := "fnExactBrakeSpeeds", fn := fun _ => fun
  | [d1, d2] => { results := [.lit (.bool false)], args := [d1, d2] }
  | _ => none }
def FnExactBrakeSpeedsWrongFalsely : Prop := fnExactBrakeSpeedsRow.holds Try.pinned (OpenSpec.ofChange fnExactBrakeSpeedsWrong)

/-- 'laws.FnExactWorstPull': WHATEVER THE INPUT: true; the input reads as it did. -/
def fnExactWorstPullSpec : ChangeSpec := { name := "fnExactWorstPull", fn := fun _ => fun
  | [d1, d2, d3, d4] => { results := [.lit (.bool true)], args := [d1, d2, d3, d4] }
  | _ => none }
def fnExactWorstPullRow : OpenClaim := { program := "ythijklidjdhkdaa", sum := "fecd5cd2bf34b807e1f8ed1a0c0d5280005278cc75d22461ac57471a450aacb5", func := "loop.example/g00935/laws.FnExactWorstPull", spec := "fnExactWorstPull", unfollowed := true, recurses := true, apart := false }
def FnExactWorstPullSaid : Prop := fnExactWorstPullRow.holds Try.pinned (OpenSpec.ofChange fnExactWorstPullSpec)

/-- ITS FALSE NEIGHBOUR: 'it returns false'. Refute it at one input. -/
def fnExactWorstPullWrong : ChangeSpec := { name := "fnExactWorstPull", fn := fun _ => fun
  | [d1, d2, d3, d4] => { results := [.lit (.bool false)], args := [d1, d2, d3, d4] }
  | _ => none }
def FnExactWorstPullWrongFalsely : Prop := fnExactWorstPullRow.holds Try.pinned (OpenSpec.ofChange fnExactWorstPullWrong)

/-- 'laws.FnExactWayWithout': WHATEVER THE INPUT: true; the input reads as it did. -/
def fnExactWayWithoutSpec : ChangeSpec := { name := "fnExactWayWithout", fn := fun _ => fun
  | [d1, d2, d3] => { results := [.lit (.bool true)], args := [d1, d2, d3] }
  | _ => none }
def fnExactWayWithoutRow : OpenClaim := { program := "ythijklidjdhkdaa", sum := "fecd5cd2bf34b807e1f8ed1a0c0d5280005278cc75d22461ac57471a450aacb5", func := "loop.example/g00935/laws.FnExactWayWithout", spec := "fnExactWayWithout", unfollowed := true, recurses := true, apart := false }
def FnExactWayWithoutSaid : Prop := fnExactWayWithoutRow.holds Try.pinned (OpenSpec.ofChange fnExactWayWithoutSpec)

/-- ITS FALSE NEIGHBOUR: 'it returns false'. Refute it at one input. -/
def fnExactWayWithoutWrong : ChangeSpec := { name := "fnExactWayWithout", fn := fun _ => fun
  | [d1, d2, d3] => { results := [.lit (.bool false)], args := [d1, d2, d3] }
  | _ => none }
def FnExactWayWithoutWrongFalsely : Prop := fnExactWayWithoutRow.holds Try.pinned (OpenSpec.ofChange fnExactWayWithoutWrong)

/-- 'laws.FnExactWorstLoss': WHATEVER THE INPUT: true; the input reads as it did. -/
def fnExactWorstLossSpec : ChangeSpec := { name := "fnExactWorstLoss", fn := fun _ => fun
  | [d1, d2] => { results := [.lit (.bool true)], args := [d1, d2] }
  | _ => none }
def fnExactWorstLossRow : OpenClaim := { program := "ythijklidjdhkdaa", sum := "fecd5cd2bf34b807e1f8ed1a0c0d5280005278cc75d22461ac57471a450aacb5", func := "loop.example/g00935/laws.FnExactWorstLoss", spec := "fnExactWorstLoss", unfollowed := true, recurses := true, apart := false }
def FnExactWorstLossSaid : Prop := fnExactWorstLossRow.holds Try.pinned (OpenSpec.ofChange fnExactWorstLossSpec)

/-- ITS FALSE NEIGHBOUR: 'it returns false'. Refute it at one input. -/
def fnExactWorstLossWrong : ChangeSpec := { name := "fnExactWorstLoss", fn := fun _ => fun
  | [d1, d2] => { results := [.lit (.bool false)], args := [d1, d2] }
  | _ => none }
def FnExactWorstLossWrongFalsely : Prop := fnExactWorstLossRow.holds Try.pinned (OpenSpec.ofChange fnExactWorstLossWrong)

/-- 'laws.FnExactFewestBrakes': WHATEVER THE INPUT: true; the input reads as it did. -/
def fnExactFewestBrakesSpec : ChangeSpec := { name := "fnExactFewestBrakes", fn := fun _ => fun
  | [d1, d2, d3] => { results := [.lit (.bool true)], args := [d1, d2, d3] }
  | _ => none }
def fnExactFewestBrakesRow : OpenClaim := { program := "ythijklidjdhkdaa", sum := "fecd5cd2bf34b807e1f8ed1a0c0d5280005278cc75d22461ac57471a450aacb5", func := "loop.example/g00935/laws.FnExactFewestBrakes", spec := "fnExactFewestBrakes", unfollowed := true, recurses := true, apart := false }
def FnExactFewestBrakesSaid : Prop := fnExactFewestBrakesRow.holds Try.pinned (OpenSpec.ofChange fnExactFewestBrakesSpec)

/-- ITS FALSE NEIGHBOUR: 'it returns false'. Refute it at one input. -/
def fnExactFewestBrakesWrong : ChangeSpec := { name := "fnExactFewestBrakes", fn := fun _ => fun
  | [d1, d2, d3] => { results := [.lit (.bool false)], args := [d1, d2, d3] }
  | _ => none }
def FnExactFewestBrakesWrongFalsely : Prop := fnExactFewestBrakesRow.holds Try.pinned (OpenSpec.ofChange fnExactFewestBrakesWrong)

/-- 'laws.FnBrakes': WHATEVER THE INPUT: true; the input reads as it did. -/
def fnBrakesSpec : ChangeSpec := { name := "fnBrakes", fn := fun _ => fun
  | [d] => { results := [.lit (.bool true)], args := [d] }
  | _ => none }
def fnBrakesRow : OpenClaim := { program := "ythijklidjdhkdaa", sum := "fecd5cd2bf34b807e1f8ed1a0c0d5280005278cc75d22461ac57471a450aacb5", func := "loop.example/g00935/laws.FnBrakes", spec := "fnBrakes", unfollowed := true, recurses := true, apart := false }
def FnBrakesSaid : Prop := fnBrakesRow.holds Try.pinned (OpenSpec.ofChange fnBrakesSpec)

/-- ITS FALSE NEIGHBOUR: 'it returns false'. Refute it at one input. -/
def fnBrakesWrong : ChangeSpec := { name := "fnBrakes", fn := fun _ => fun
  | [d] => { results := [.lit (.bool false)], args := [d] }
  | _ => none }
def FnBrakesWrongFalsely : Prop := fnBrakesRow.holds Try.pinned (OpenSpec.ofChange fnBrakesWrong)

/-- 'laws.FnLoads': WHATEVER THE INPUT: true; the input reads as it did. -/
def fnLoadsSpec : ChangeSpec := { name := "fnLoads", fn := fun _ => fun
  | [d] => { results := [.lit (.bool true)], args := [d] }
  | _ => none }
def fnLoadsRow : OpenClaim := { program := "ythijklidjdhkdaa", sum := "fecd5cd2bf34b807e1f8ed1a0c0d5280005278cc75d22461ac57471a450aacb5", func := "loop.example/g00935/laws.FnLoads", spec := "fnLoads", unfollowed := true, recurses := true, apart := false }
def FnLoadsSaid : Prop := fnLoadsRow.holds Try.pinned (OpenSpec.ofChange fnLoadsSpec)

/-- ITS FALSE NEIGHBOUR: 'it returns false'. Refute it at one input. -/
def fnLoadsWrong : ChangeSpec := { name := "fnLoads", fn := fun _ => fun
  | [d] => { results := [.lit (.bool false)], args := [d] }
  | _ => none }
def FnLoadsWrongFalsely : Prop := fnLoadsRow.holds Try.pinned (OpenSpec.ofChange fnLoadsWrong)

/- THE SECOND FORM. 'bulk': how many values and letters a reading holds, each counted each time it is reached (what is shared counts as often as it is met; a slice's spare places count too). A statement '..UptoSaid' is the law's where the arguments, and the package variables that the reading takes, are together of bulk at most 1048576: NARROWER than '..Said'. Prove '..Said' where nothing that the law and all that it calls make is longer than what came in: it says more and counts as full. Else prove '..UptoSaid'. A law counts once. -/
mutual
def uptoBulk {H : Type} : DataW H → Nat
  | .lit (.string bytes) => bytes.length + 1
  | .lit _ => 1
  | .nil => 1
  | .ptr d => uptoBulk d + 1
  | .slice elems spare => uptoBulkAll elems + uptoBulkAll spare + 1
  | .agg parts => uptoBulkAll parts + 1
  | .iface _ d => uptoBulk d + 1
  | .map entries => uptoBulkEntries entries + 1
  | .held _ => 1
def uptoBulkAll {H : Type} : List (DataW H) → Nat
  | [] => 0
  | d :: r => uptoBulk d + uptoBulkAll r
def uptoBulkEntries {H : Type} : List (Lit × DataW H) → Nat
  | [] => 0
  | x :: r => uptoBulkEntry x + uptoBulkEntries r
def uptoBulkEntry {H : Type} : Lit × DataW H → Nat
  | (.string bytes, d) => bytes.length + uptoBulk d + 1
  | (_, d) => uptoBulk d + 1
 end
def uptoSmall : (H : Type) → List (DataW H) → Bool := fun _ ds => decide (uptoBulkAll ds ≤ 1048576)
def OpenSpec.upto (s : _root_.Go.ChangeSpec) : _root_.Go.OpenSpec := { _root_.Go.OpenSpec.ofChange s with cond := some uptoSmall }

/-- 'laws.FnExactIsDrive', WHERE WHAT IT READS IS OF BULK AT MOST 1048576: true; the input reads as it did. -/
def fnExactIsDriveUptoRow : OpenClaim := { program := "ythijklidjdhkdaa", sum := "fecd5cd2bf34b807e1f8ed1a0c0d5280005278cc75d22461ac57471a450aacb5", func := "loop.example/g00935/laws.FnExactIsDrive", spec := "fnExactIsDrive", unfollowed := true, recurses := true, apart := false, narrowed := true }
def FnExactIsDriveUptoSaid : Prop := fnExactIsDriveUptoRow.holds Try.pinned (OpenSpec.upto fnExactIsDriveSpec)

/-- 'laws.FnExactHoldsStill', WHERE WHAT IT READS IS OF BULK AT MOST 1048576: true; the input reads as it did. -/
def fnExactHoldsStillUptoRow : OpenClaim := { program := "ythijklidjdhkdaa", sum := "fecd5cd2bf34b807e1f8ed1a0c0d5280005278cc75d22461ac57471a450aacb5", func := "loop.example/g00935/laws.FnExactHoldsStill", spec := "fnExactHoldsStill", unfollowed := true, recurses := true, apart := false, narrowed := true }
def FnExactHoldsStillUptoSaid : Prop := fnExactHoldsStillUptoRow.holds Try.pinned (OpenSpec.upto fnExactHoldsStillSpec)

/-- 'laws.FnExactBrakeWay', WHERE WHAT IT READS IS OF BULK AT MOST 1048576: true; the input reads as it did. -/
def fnExactBrakeWayUptoRow : OpenClaim := { program := "ythijklidjdhkdaa", sum := "fecd5cd2bf34b807e1f8ed1a0c0d5280005278cc75d22461ac57471a450aacb5", func := "loop.example/g00935/laws.FnExactBrakeWay", spec := "fnExactBrakeWay", unfollowed := true, recurses := true, apart := false, narrowed := true }
def FnExactBrakeWayUptoSaid : Prop := fnExactBrakeWayUptoRow.holds Try.pinned (OpenSpec.upto fnExactBrakeWaySpec)

/-- 'laws.FnExactSafeSpeed', WHERE WHAT IT READS IS OF BULK AT MOST 1048576: true; the input reads as it did. -/
def fnExactSafeSpeedUptoRow : OpenClaim := { program := "ythijklidjdhkdaa", sum := "fecd5cd2bf34b807e1f8ed1a0c0d5280005278cc75d22461ac57471a450aacb5", func := "loop.example/g00935/laws.FnExactSafeSpeed", spec := "fnExactSafeSpeed", unfollowed := true, recurses := true, apart := false, narrowed := true }
def FnExactSafeSpeedUptoSaid : Prop := fnExactSafeSpeedUptoRow.holds Try.pinned (OpenSpec.upto fnExactSafeSpeedSpec)

/-- 'laws.FnExactBrakeSpeeds', WHERE WHAT IT READS IS OF BULK AT MOST 1048576: true; the input reads as it did. -/
def fnExactBrakeSpeedsUptoRow : OpenClaim := { program := "ythijklidjdhkdaa", sum := "fecd5cd2bf34b807e1f8ed1a0c0d5280005278cc75d22461ac57471a450aacb5", func := "loop.example/g00935/laws.FnExactBrakeSpeeds", spec := "fnExactBrakeSpeeds", unfollowed := true, recurses := true, apart := false, narrowed := true }
def FnExactBrakeSpeedsUptoSaid : Prop := fnExactBrakeSpeedsUptoRow.holds Try.pinned (OpenSpec.upto fnExactBrakeSpeedsSpec)

/-- 'laws.FnExactWorstPull', WHERE WHAT IT READS IS OF BULK AT MOST 1048576: true; the input reads as it did. -/
def fnExactWorstPullUptoRow : OpenClaim := { program := "ythijklidjdhkdaa", sum := "fecd5cd2bf34b807e1f8ed1a0c0d5280005278cc75d22461ac57471a450aacb5", func := "loop.example/g00935/laws.FnExactWorstPull", spec := "fnExactWorstPull", unfollowed := true, recurses := true, apart := false, narrowed := true }
def FnExactWorstPullUptoSaid : Prop := fnExactWorstPullUptoRow.holds Try.pinned (OpenSpec.upto fnExactWorstPullSpec)

/-- 'laws.FnExactWayWithout', WHERE WHAT IT READS IS OF BULK AT MOST 1048576: true; the input reads as it did. -/
def fnExactWayWithoutUptoRow : OpenClaim := { program := "ythijklidjdhkdaa", sum := "fecd5cd2bf34b807e1f8ed1a0c0d5280005278cc75d22461ac57471a450aacb5", func := "loop.example/g00935/laws.FnExactWayWithout", spec := "fnExactWayWithout", unfollowed := true, recurses := true, apart := false, narrowed := true }
def FnExactWayWithoutUptoSaid : Prop := fnExactWayWithoutUptoRow.holds Try.pinned (OpenSpec.upto fnExactWayWithoutSpec)

/-- 'laws.FnExactWorstLoss', WHERE WHAT IT READS IS OF BULK AT MOST 1048576: true; the input reads as it did. -/
def fnExactWorstLossUptoRow : OpenClaim := { program := "ythijklidjdhkdaa", sum := "fecd5cd2bf34b807e1f8ed1a0c0d5280005278cc75d22461ac57471a450aacb5", func := "loop.example/g00935/laws.FnExactWorstLoss", spec := "fnExactWorstLoss", unfollowed := true, recurses := true, apart := false, narrowed := true }
def FnExactWorstLossUptoSaid : Prop := fnExactWorstLossUptoRow.holds Try.pinned (OpenSpec.upto fnExactWorstLossSpec)

/-- 'laws.FnExactFewestBrakes', WHERE WHAT IT READS IS OF BULK AT MOST 1048576: true; the input reads as it did. -/
def fnExactFewestBrakesUptoRow : OpenClaim := { program := "ythijklidjdhkdaa", sum := "fecd5cd2bf34b807e1f8ed1a0c0d5280005278cc75d22461ac57471a450aacb5", func := "loop.example/g00935/laws.FnExactFewestBrakes", spec := "fnExactFewestBrakes", unfollowed := true, recurses := true, apart := false, narrowed := true }
def FnExactFewestBrakesUptoSaid : Prop := fnExactFewestBrakesUptoRow.holds Try.pinned (OpenSpec.upto fnExactFewestBrakesSpec)

/-- 'laws.FnBrakes', WHERE WHAT IT READS IS OF BULK AT MOST 1048576: true; the input reads as it did. -/
def fnBrakesUptoRow : OpenClaim := { program := "ythijklidjdhkdaa", sum := "fecd5cd2bf34b807e1f8ed1a0c0d5280005278cc75d22461ac57471a450aacb5", func := "loop.example/g00935/laws.FnBrakes", spec := "fnBrakes", unfollowed := true, recurses := true, apart := false, narrowed := true }
def FnBrakesUptoSaid : Prop := fnBrakesUptoRow.holds Try.pinned (OpenSpec.upto fnBrakesSpec)

/-- 'laws.FnLoads', WHERE WHAT IT READS IS OF BULK AT MOST 1048576: true; the input reads as it did. -/
def fnLoadsUptoRow : OpenClaim := { program := "ythijklidjdhkdaa", sum := "fecd5cd2bf34b807e1f8ed1a0c0d5280005278cc75d22461ac57471a450aacb5", func := "loop.example/g00935/laws.FnLoads", spec := "fnLoads", unfollowed := true, recurses := true, apart := false, narrowed := true }
def FnLoadsUptoSaid : Prop := fnLoadsUptoRow.holds Try.pinned (OpenSpec.upto fnLoadsSpec)

end Rows
end Go.Proofs.Ythijklidjdhkdaa
