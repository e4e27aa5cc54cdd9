/-
  No cell of these rows narrows 'for every input' (looked for: loops, veiled, ifaces, maps, wideKeys, modest, calm, conditions, laid).
  DERIVED. THE GIVEN ROWS OF THIS SEAT. 6 by the template 'for every input the law returns true; each argument reads behind the call as it read before'; 0 by the template 'total and deterministic' (their statements: YtjfmicemnoglkaaTotals.lean).
  GIVEN WITH THE SEED: the statements are not yours to turn. If you find one false, say at which input.
  Laid BY PROGRAM, IN A SANDBOX (cutbox-rows.mjs): the forced cells as the released guide's own fill.sh prints them over the translation f2d4cb730b2e8d39… (all of the seat's roots in one cut). By AI agents, Wed Nov 11 2026. No macro, syntax, notation, axiom, sorry.
-/
import Derived.Test.YtjfmicemnoglkaaChecked
import GoSem.Claim
import GoSem.ClaimJoined
import GoSem.ClaimMapViews
import Derived.JoinedTies
import Derived.KernelRfl
namespace Go.Proofs.Ytjfmicemnoglkaa
/- THE CELL 'sum', in the pinned program and in every row, IS THE sha256 OF THE DUMP (.gsa) THAT YtjfmicemnoglkaaProg.lean LOADS. Nothing in Lean hashes anything: it is a label: what it is worth is what the hold of that sum in a sandbox is worth. -/
noncomputable def Try.pinned : Pinned := { name := "ytjfmicemnoglkaa", sum := "f2d4cb730b2e8d39919eb27859f2f70218f29d115174ead37d9cd520c8430bd3", checked := Try.checked }
namespace Rows
def none {H : Type} : Left H := { results := [], args := [] }

/-- 'laws.FnSags': WHATEVER THE INPUT: true; the input reads as it did. -/
def fnSagsSpec : ChangeSpec := { name := "fnSags", fn := fun _ => fun
  | [d] => { results := [.lit (.bool true)], args := [d] }
  | _ => none }
def fnSagsRow : OpenClaim := { program := "ytjfmicemnoglkaa", sum := "f2d4cb730b2e8d39919eb27859f2f70218f29d115174ead37d9cd520c8430bd3", func := "loop.example/g00935/laws.FnSags", spec := "fnSags", apart := false }
def FnSagsSaid : Prop := fnSagsRow.holds Try.pinned (OpenSpec.ofChange fnSagsSpec)

/-- ITS FALSE NEIGHBOUR: 'it returns false'. Refute it at one input. -/
def fnSagsWrong : ChangeSpec := { name := "fnSags", fn := fun _ => fun
  | [d] => { results := [.lit (.bool false)], args := [d] }
  | _ => none }
def FnSagsWrongFalsely : Prop := fnSagsRow.holds Try.pinned (OpenSpec.ofChange fnSagsWrong)

/-- 'laws.FnSpans': WHATEVER THE INPUT: true; the input reads as it did. -/
def fnSpansSpec : ChangeSpec := { name := "fnSpans", fn := fun _ => fun
  | [d] => { results := [.lit (.bool true)], args := [d] }
  | _ => none }
def fnSpansRow : OpenClaim := { program := "ytjfmicemnoglkaa", sum := "f2d4cb730b2e8d39919eb27859f2f70218f29d115174ead37d9cd520c8430bd3", func := "loop.example/g00935/laws.FnSpans", spec := "fnSpans", unfollowed := true, recurses := true, apart := false }
def FnSpansSaid : Prop := fnSpansRow.holds Try.pinned (OpenSpec.ofChange fnSpansSpec)

/-- ITS FALSE NEIGHBOUR: 'it returns false'. Refute it at one input. -/
def fnSpansWrong : ChangeSpec := { name := "fnSpans", fn := fun _ => fun
  | [d] => { results := [.lit (.bool false)], args := [d] }
  | _ => none }
def FnSpansWrongFalsely : Prop := fnSpansRow.holds Try.pinned (OpenSpec.ofChange fnSpansWrong)

/-- 'laws.FnClearances': WHATEVER THE INPUT: true; the input reads as it did. -/
def fnClearancesSpec : ChangeSpec := { name := "fnClearances", fn := fun _ => fun
  | [d] => { results := [.lit (.bool true)], args := [d] }
  | _ => none }
def fnClearancesRow : OpenClaim := { program := "ytjfmicemnoglkaa", sum := "f2d4cb730b2e8d39919eb27859f2f70218f29d115174ead37d9cd520c8430bd3", func := "loop.example/g00935/laws.FnClearances", spec := "fnClearances", unfollowed := true, recurses := true, apart := false }
def FnClearancesSaid : Prop := fnClearancesRow.holds Try.pinned (OpenSpec.ofChange fnClearancesSpec)

/-- ITS FALSE NEIGHBOUR: 'it returns false'. Refute it at one input. -/
def fnClearancesWrong : ChangeSpec := { name := "fnClearances", fn := fun _ => fun
  | [d] => { results := [.lit (.bool false)], args := [d] }
  | _ => none }
def FnClearancesWrongFalsely : Prop := fnClearancesRow.holds Try.pinned (OpenSpec.ofChange fnClearancesWrong)

/-- 'laws.FnTensions': WHATEVER THE INPUT: true; the input reads as it did. -/
def fnTensionsSpec : ChangeSpec := { name := "fnTensions", fn := fun _ => fun
  | [d] => { results := [.lit (.bool true)], args := [d] }
  | _ => none }
def fnTensionsRow : OpenClaim := { program := "ytjfmicemnoglkaa", sum := "f2d4cb730b2e8d39919eb27859f2f70218f29d115174ead37d9cd520c8430bd3", func := "loop.example/g00935/laws.FnTensions", spec := "fnTensions", apart := false }
def FnTensionsSaid : Prop := fnTensionsRow.holds Try.pinned (OpenSpec.ofChange fnTensionsSpec)

/-- ITS FALSE NEIGHBOUR: 'it returns false'. Refute it at one input. -/
def fnTensionsWrong : ChangeSpec := { name := "fnTensions", fn := fun _ => fun
  | [d] => { results := [.lit (.bool false)], args := [d] }
  | _ => none }
def FnTensionsWrongFalsely : Prop := fnTensionsRow.holds Try.pinned (OpenSpec.ofChange fnTensionsWrong)

/-- 'laws.FnSafety': WHATEVER THE INPUT: true; the input reads as it did. -/
def fnSafetySpec : ChangeSpec := { name := "fnSafety", fn := fun _ => fun
  | [d] => { results := [.lit (.bool true)], args := [d] }
  | _ => none }
def fnSafetyRow : OpenClaim := { program := "ytjfmicemnoglkaa", sum := "f2d4cb730b2e8d39919eb27859f2f70218f29d115174ead37d9cd520c8430bd3", func := "loop.example/g00935/laws.FnSafety", spec := "fnSafety", unfollowed := true, recurses := true, apart := false }
def FnSafetySaid : Prop := fnSafetyRow.holds Try.pinned (OpenSpec.ofChange fnSafetySpec)

/-- ITS FALSE NEIGHBOUR: 'it returns false'. Refute it at one input. -/
def fnSafetyWrong : ChangeSpec := { name := "fnSafety", fn := fun _ => fun
  | [d] => { results := [.lit (.bool false)], args := [d] }
  | _ => none }
def FnSafetyWrongFalsely : Prop := fnSafetyRow.holds Try.pinned (OpenSpec.ofChange fnSafetyWrong)

/-- 'laws.FnRopes': WHATEVER THE INPUT: true; the input reads as it did. -/
def fnRopesSpec : ChangeSpec := { name := "fnRopes", fn := fun _ => fun
  | [d] => { results := [.lit (.bool true)], args := [d] }
  | _ => none }
def fnRopesRow : OpenClaim := { program := "ytjfmicemnoglkaa", sum := "f2d4cb730b2e8d39919eb27859f2f70218f29d115174ead37d9cd520c8430bd3", func := "loop.example/g00935/laws.FnRopes", spec := "fnRopes", apart := false }
def FnRopesSaid : Prop := fnRopesRow.holds Try.pinned (OpenSpec.ofChange fnRopesSpec)

/-- ITS FALSE NEIGHBOUR: 'it returns false'. Refute it at one input. -/
def fnRopesWrong : ChangeSpec := { name := "fnRopes", fn := fun _ => fun
  | [d] => { results := [.lit (.bool false)], args := [d] }
  | _ => none }
def FnRopesWrongFalsely : Prop := fnRopesRow.holds Try.pinned (OpenSpec.ofChange fnRopesWrong)

/- THE SECOND FORM. 'bulk': how many values and letters a reading holds, each counted each time it is reached (what is shared counts as often as it is met; a slice's spare places count too). A statement '..UptoSaid' is the law's where the arguments, and the package variables that the reading takes, are together of bulk at most 1048576: NARROWER than '..Said'. Prove '..Said' where nothing that the law and all that it calls make is longer than what came in: it says more and counts as full. Else prove '..UptoSaid'. A law counts once. -/
mutual
def uptoBulk {H : Type} : DataW H → Nat
  | .lit (.string bytes) => bytes.length + 1
  | .lit _ => 1
  | .nil => 1
  | .ptr d => uptoBulk d + 1
  | .slice elems spare => uptoBulkAll elems + uptoBulkAll spare + 1
  | .agg parts => uptoBulkAll parts + 1
  | .iface _ d => uptoBulk d + 1
  | .map entries => uptoBulkEntries entries + 1
  | .held _ => 1
def uptoBulkAll {H : Type} : List (DataW H) → Nat
  | [] => 0
  | d :: r => uptoBulk d + uptoBulkAll r
def uptoBulkEntries {H : Type} : List (Lit × DataW H) → Nat
  | [] => 0
  | x :: r => uptoBulkEntry x + uptoBulkEntries r
def uptoBulkEntry {H : Type} : Lit × DataW H → Nat
  | (.string bytes, d) => bytes.length + uptoBulk d + 1
  | (_, d) => uptoBulk d + 1
 end
def uptoSmall : (H : Type) → List (DataW H) → Bool := fun _ ds => decide (uptoBulkAll ds ≤ 1048576)
def OpenSpec.upto (s : _root_.Go.ChangeSpec) : _root_.Go.OpenSpec := { _root_.Go.OpenSpec.ofChange s with cond := some uptoSmall }

/-- 'laws.FnSags', WHERE WHAT IT READS IS OF BULK AT MOST 1048576: true; the input reads as it did. -/
def fnSagsUptoRow : OpenClaim := { program := "ytjfmicemnoglkaa", sum := "f2d4cb730b2e8d39919eb27859f2f70218f29d115174ead37d9cd520c8430bd3", func := "loop.example/g00935/laws.FnSags", spec := "fnSags", apart := false, narrowed := true }
def FnSagsUptoSaid : Prop := fnSagsUptoRow.holds Try.pinned (OpenSpec.upto fnSagsSpec)

/-- 'laws.FnSpans', WHERE WHAT IT READS IS OF BULK AT MOST 1048576: true; the input reads as it did. -/
def fnSpansUptoRow : OpenClaim := { program := "ytjfmicemnoglkaa", sum := "f2d4cb730b2e8d39919eb27859f2f70218f29d115174ead37d9cd520c8430bd3", func := "loop.example/g00935/laws.FnSpans", spec := "fnSpans", unfollowed := true, recurses := true, apart := false, narrowed := true }
def FnSpansUptoSaid : Prop := fnSpansUptoRow.holds Try.pinned (OpenSpec.upto fnSpansSpec)

/-- 'laws.FnClearances', WHERE WHAT IT READS IS OF BULK AT MOST 1048576: true; the input reads as it did. -/
def fnClearancesUptoRow : OpenClaim := { program := "ytjfmicemnoglkaa", sum := "f2d4cb730b2e8d39919eb27859f2f70218f29d115174ead37d9cd520c8430bd3", func := "loop.example/g00935/laws.FnClearances", spec := "fnClearances", unfollowed := true, recurses := true, apart := false, narrowed := true }
def FnClearancesUptoSaid : Prop := fnClearancesUptoRow.holds Try.pinned (OpenSpec.upto fnClearancesSpec)

/-- 'laws.FnTensions', WHERE WHAT IT READS IS OF BULK AT MOST 1048576: true; the input reads as it did. -/
def fnTensionsUptoRow : OpenClaim := { program := "ytjfmicemnoglkaa", sum := "f2d4cb730b2e8d39919eb27859f2f70218f29d115174ead37d9cd520c8430bd3", func := "loop.example/g00935/laws.FnTensions", spec := "fnTensions", apart := false, narrowed := true }
def FnTensionsUptoSaid : Prop := fnTensionsUptoRow.holds Try.pinned (OpenSpec.upto fnTensionsSpec)

/-- 'laws.FnSafety', WHERE WHAT IT READS IS OF BULK AT MOST 1048576: true; the input reads as it did. -/
def fnSafetyUptoRow : OpenClaim := { program := "ytjfmicemnoglkaa", sum := "f2d4cb730b2e8d39919eb27859f2f70218f29d115174ead37d9cd520c8430bd3", func := "loop.example/g00935/laws.FnSafety", spec := "fnSafety", unfollowed := true, recurses := true, apart := false, narrowed := true }
def FnSafetyUptoSaid : Prop := fnSafetyUptoRow.holds Try.pinned (OpenSpec.upto fnSafetySpec)

/-- 'laws.FnRopes', WHERE WHAT IT READS IS OF BULK AT MOST 1048576: true; the input reads as it did. -/
def fnRopesUptoRow : OpenClaim := { program := "ytjfmicemnoglkaa", sum := "f2d4cb730b2e8d39919eb27859f2f70218f29d115174ead37d9cd520c8430bd3", func := "loop.example/g00935/laws.FnRopes", spec := "fnRopes", apart := false, narrowed := true }
def FnRopesUptoSaid : Prop := fnRopesUptoRow.holds Try.pinned (OpenSpec.upto fnRopesSpec)

end Rows
end Go.Proofs.Ytjfmicemnoglkaa
