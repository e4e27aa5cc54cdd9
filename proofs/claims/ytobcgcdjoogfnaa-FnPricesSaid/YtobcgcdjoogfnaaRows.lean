/-
  No cell of these rows narrows 'for every input' (looked for: loops, veiled, ifaces, maps, wideKeys, modest, calm, conditions, laid).
  DERIVED. THE GIVEN ROWS OF THIS SEAT. 12 by the template 'for every input the law returns true; each argument reads behind the call as it read before'; 0 by the template 'total and deterministic' (their statements: YtobcgcdjoogfnaaTotals.lean).
  GIVEN WITH THE SEED: the statements are not yours to turn. If you find one false, say at which input.
  Laid BY PROGRAM, IN A SANDBOX (cutbox-rows.mjs): the forced cells as the released guide's own fill.sh prints them over the translation 2a2de47a592e5916… (all of the seat's roots in one cut). By AI agents, Wed Nov 11 2026. No macro, syntax, notation, axiom, sorry.
-/
import Derived.Test.YtobcgcdjoogfnaaChecked
import GoSem.Claim
import GoSem.ClaimJoined
import GoSem.ClaimMapViews
import Derived.JoinedTies
import Derived.KernelRfl
namespace Go.Proofs.Ytobcgcdjoogfnaa
/- THE CELL 'sum', in the pinned program and in every row, IS THE sha256 OF THE DUMP (.gsa) THAT YtobcgcdjoogfnaaProg.lean LOADS. Nothing in Lean hashes anything: it is a label: what it is worth is what the hold of that sum in a sandbox is worth. -/
noncomputable def Try.pinned : Pinned := { name := "ytobcgcdjoogfnaa", sum := "2a2de47a592e591629174b020c95241c92cf48aef851f3ae4940cbb60b6d17b3", checked := Try.checked }
namespace Rows
def none {H : Type} : Left H := { results := [], args := [] }

/-- 'laws.FnExactIsTicket': WHATEVER THE INPUT: true; the input reads as it did. -/
def fnExactIsTicketSpec : ChangeSpec := { name := "fnExactIsTicket", fn := fun _ => fun
  | [d] => { results := [.lit (.bool true)], args := [d] }
  | _ => none }
def fnExactIsTicketRow : OpenClaim := { program := "ytobcgcdjoogfnaa", sum := "2a2de47a592e591629174b020c95241c92cf48aef851f3ae4940cbb60b6d17b3", func := "loop.example/g00935/laws.FnExactIsTicket", spec := "fnExactIsTicket", apart := false }
def FnExactIsTicketSaid : Prop := fnExactIsTicketRow.holds Try.pinned (OpenSpec.ofChange fnExactIsTicketSpec)

/-- ITS FALSE NEIGHBOUR: 'it returns false'. Refute it at one input. -/
def fnExactIsTicketWrong : ChangeSpec := { name := "fnExactIsTicket", fn := fun _ => fun
  | [d] => { results := [.lit (.bool false)], args := [d] }
  | _ => none }
def FnExactIsTicketWrongFalsely : Prop := fnExactIsTicketRow.holds Try.pinned (OpenSpec.ofChange fnExactIsTicketWrong)

/-- 'laws.FnExactRidesLeft': WHATEVER THE INPUT: true; the input reads as it did. -/
def fnExactRidesLeftSpec : ChangeSpec := { name := "fnExactRidesLeft", fn := fun _ => fun
  | [d1, d2] => { results := [.lit (.bool true)], args := [d1, d2] }
  | _ => none }
def fnExactRidesLeftRow : OpenClaim := { program := "ytobcgcdjoogfnaa", sum := "2a2de47a592e591629174b020c95241c92cf48aef851f3ae4940cbb60b6d17b3", func := "loop.example/g00935/laws.FnExactRidesLeft", spec := "fnExactRidesLeft", apart := false }
def FnExactRidesLeftSaid : Prop := fnExactRidesLeftRow.holds Try.pinned (OpenSpec.ofChange fnExactRidesLeftSpec)

/-- ITS FALSE NEIGHBOUR: 'it returns false'. Refute it at one input. -/
def fnExactRidesLeftWrong : ChangeSpec := { name := "fnExactRidesLeft", fn := fun _ => fun
  | [d1, d2] => { results := [.lit (.bool false)], args := [d1, d2] }
  | _ => none }
def FnExactRidesLeftWrongFalsely : Prop := fnExactRidesLeftRow.holds Try.pinned (OpenSpec.ofChange fnExactRidesLeftWrong)

/-- 'laws.FnExactCanRide': WHATEVER THE INPUT: true; the input reads as it did. -/
def fnExactCanRideSpec : ChangeSpec := { name := "fnExactCanRide", fn := fun _ => fun
  | [d1, d2, d3] => { results := [.lit (.bool true)], args := [d1, d2, d3] }
  | _ => none }
def fnExactCanRideRow : OpenClaim := { program := "ytobcgcdjoogfnaa", sum := "2a2de47a592e591629174b020c95241c92cf48aef851f3ae4940cbb60b6d17b3", func := "loop.example/g00935/laws.FnExactCanRide", spec := "fnExactCanRide", apart := false }
def FnExactCanRideSaid : Prop := fnExactCanRideRow.holds Try.pinned (OpenSpec.ofChange fnExactCanRideSpec)

/-- ITS FALSE NEIGHBOUR: 'it returns false'. Refute it at one input. -/
def fnExactCanRideWrong : ChangeSpec := { name := "fnExactCanRide", fn := fun _ => fun
  | [d1, d2, d3] => { results := [.lit (.bool false)], args := [d1, d2, d3] }
  | _ => none }
def FnExactCanRideWrongFalsely : Prop := fnExactCanRideRow.holds Try.pinned (OpenSpec.ofChange fnExactCanRideWrong)

/-- 'laws.FnExactCheapestFor': WHATEVER THE INPUT: true; the input reads as it did. -/
def fnExactCheapestForSpec : ChangeSpec := { name := "fnExactCheapestFor", fn := fun _ => fun
  | [d1, d2, d3] => { results := [.lit (.bool true)], args := [d1, d2, d3] }
  | _ => none }
def fnExactCheapestForRow : OpenClaim := { program := "ytobcgcdjoogfnaa", sum := "2a2de47a592e591629174b020c95241c92cf48aef851f3ae4940cbb60b6d17b3", func := "loop.example/g00935/laws.FnExactCheapestFor", spec := "fnExactCheapestFor", apart := false }
def FnExactCheapestForSaid : Prop := fnExactCheapestForRow.holds Try.pinned (OpenSpec.ofChange fnExactCheapestForSpec)

/-- ITS FALSE NEIGHBOUR: 'it returns false'. Refute it at one input. -/
def fnExactCheapestForWrong : ChangeSpec := { name := "fnExactCheapestFor", fn := fun _ => fun
  | [d1, d2, d3] => { results := [.lit (.bool false)], args := [d1, d2, d3] }
  | _ => none }
def FnExactCheapestForWrongFalsely : Prop := fnExactCheapestForRow.holds Try.pinned (OpenSpec.ofChange fnExactCheapestForWrong)

/-- 'laws.FnExactAreTickets': WHATEVER THE INPUT: true; the input reads as it did. -/
def fnExactAreTicketsSpec : ChangeSpec := { name := "fnExactAreTickets", fn := fun _ => fun
  | [d] => { results := [.lit (.bool true)], args := [d] }
  | _ => none }
def fnExactAreTicketsRow : OpenClaim := { program := "ytobcgcdjoogfnaa", sum := "2a2de47a592e591629174b020c95241c92cf48aef851f3ae4940cbb60b6d17b3", func := "loop.example/g00935/laws.FnExactAreTickets", spec := "fnExactAreTickets", apart := false }
def FnExactAreTicketsSaid : Prop := fnExactAreTicketsRow.holds Try.pinned (OpenSpec.ofChange fnExactAreTicketsSpec)

/-- ITS FALSE NEIGHBOUR: 'it returns false'. Refute it at one input. -/
def fnExactAreTicketsWrong : ChangeSpec := { name := "fnExactAreTickets", fn := fun _ => fun
  | [d] => { results := [.lit (.bool false)], args := [d] }
  | _ => none }
def FnExactAreTicketsWrongFalsely : Prop := fnExactAreTicketsRow.holds Try.pinned (OpenSpec.ofChange fnExactAreTicketsWrong)

/-- 'laws.FnExactStillUp': WHATEVER THE INPUT: true; the input reads as it did. -/
def fnExactStillUpSpec : ChangeSpec := { name := "fnExactStillUp", fn := fun _ => fun
  | [d] => { results := [.lit (.bool true)], args := [d] }
  | _ => none }
def fnExactStillUpRow : OpenClaim := { program := "ytobcgcdjoogfnaa", sum := "2a2de47a592e591629174b020c95241c92cf48aef851f3ae4940cbb60b6d17b3", func := "loop.example/g00935/laws.FnExactStillUp", spec := "fnExactStillUp", apart := false }
def FnExactStillUpSaid : Prop := fnExactStillUpRow.holds Try.pinned (OpenSpec.ofChange fnExactStillUpSpec)

/-- ITS FALSE NEIGHBOUR: 'it returns false'. Refute it at one input. -/
def fnExactStillUpWrong : ChangeSpec := { name := "fnExactStillUp", fn := fun _ => fun
  | [d] => { results := [.lit (.bool false)], args := [d] }
  | _ => none }
def FnExactStillUpWrongFalsely : Prop := fnExactStillUpRow.holds Try.pinned (OpenSpec.ofChange fnExactStillUpWrong)

/-- 'laws.FnExactSalesOn': WHATEVER THE INPUT: true; the input reads as it did. -/
def fnExactSalesOnSpec : ChangeSpec := { name := "fnExactSalesOn", fn := fun _ => fun
  | [d1, d2, d3] => { results := [.lit (.bool true)], args := [d1, d2, d3] }
  | _ => none }
def fnExactSalesOnRow : OpenClaim := { program := "ytobcgcdjoogfnaa", sum := "2a2de47a592e591629174b020c95241c92cf48aef851f3ae4940cbb60b6d17b3", func := "loop.example/g00935/laws.FnExactSalesOn", spec := "fnExactSalesOn", apart := false }
def FnExactSalesOnSaid : Prop := fnExactSalesOnRow.holds Try.pinned (OpenSpec.ofChange fnExactSalesOnSpec)

/-- ITS FALSE NEIGHBOUR: 'it returns false'. Refute it at one input. -/
def fnExactSalesOnWrong : ChangeSpec := { name := "fnExactSalesOn", fn := fun _ => fun
  | [d1, d2, d3] => { results := [.lit (.bool false)], args := [d1, d2, d3] }
  | _ => none }
def FnExactSalesOnWrongFalsely : Prop := fnExactSalesOnRow.holds Try.pinned (OpenSpec.ofChange fnExactSalesOnWrong)

/-- 'laws.FnExactSellTicket': WHATEVER THE INPUT: true; the input reads as it did. -/
def fnExactSellTicketSpec : ChangeSpec := { name := "fnExactSellTicket", fn := fun _ => fun
  | [d1, d2, d3] => { results := [.lit (.bool true)], args := [d1, d2, d3] }
  | _ => none }
def fnExactSellTicketRow : OpenClaim := { program := "ytobcgcdjoogfnaa", sum := "2a2de47a592e591629174b020c95241c92cf48aef851f3ae4940cbb60b6d17b3", func := "loop.example/g00935/laws.FnExactSellTicket", spec := "fnExactSellTicket", apart := false }
def FnExactSellTicketSaid : Prop := fnExactSellTicketRow.holds Try.pinned (OpenSpec.ofChange fnExactSellTicketSpec)

/-- ITS FALSE NEIGHBOUR: 'it returns false'. Refute it at one input. -/
def fnExactSellTicketWrong : ChangeSpec := { name := "fnExactSellTicket", fn := fun _ => fun
  | [d1, d2, d3] => { results := [.lit (.bool false)], args := [d1, d2, d3] }
  | _ => none }
def FnExactSellTicketWrongFalsely : Prop := fnExactSellTicketRow.holds Try.pinned (OpenSpec.ofChange fnExactSellTicketWrong)

/-- 'laws.FnExactExpiredOn': WHATEVER THE INPUT: true; the input reads as it did. -/
def fnExactExpiredOnSpec : ChangeSpec := { name := "fnExactExpiredOn", fn := fun _ => fun
  | [d1, d2] => { results := [.lit (.bool true)], args := [d1, d2] }
  | _ => none }
def fnExactExpiredOnRow : OpenClaim := { program := "ytobcgcdjoogfnaa", sum := "2a2de47a592e591629174b020c95241c92cf48aef851f3ae4940cbb60b6d17b3", func := "loop.example/g00935/laws.FnExactExpiredOn", spec := "fnExactExpiredOn", apart := false }
def FnExactExpiredOnSaid : Prop := fnExactExpiredOnRow.holds Try.pinned (OpenSpec.ofChange fnExactExpiredOnSpec)

/-- ITS FALSE NEIGHBOUR: 'it returns false'. Refute it at one input. -/
def fnExactExpiredOnWrong : ChangeSpec := { name := "fnExactExpiredOn", fn := fun _ => fun
  | [d1, d2] => { results := [.lit (.bool false)], args := [d1, d2] }
  | _ => none }
def FnExactExpiredOnWrongFalsely : Prop := fnExactExpiredOnRow.holds Try.pinned (OpenSpec.ofChange fnExactExpiredOnWrong)

/-- 'laws.FnExactUseTicket': WHATEVER THE INPUT: true; the input reads as it did. -/
def fnExactUseTicketSpec : ChangeSpec := { name := "fnExactUseTicket", fn := fun _ => fun
  | [d1, d2, d3, d4] => { results := [.lit (.bool true)], args := [d1, d2, d3, d4] }
  | _ => none }
def fnExactUseTicketRow : OpenClaim := { program := "ytobcgcdjoogfnaa", sum := "2a2de47a592e591629174b020c95241c92cf48aef851f3ae4940cbb60b6d17b3", func := "loop.example/g00935/laws.FnExactUseTicket", spec := "fnExactUseTicket", unfollowed := true, recurses := true, apart := false }
def FnExactUseTicketSaid : Prop := fnExactUseTicketRow.holds Try.pinned (OpenSpec.ofChange fnExactUseTicketSpec)

/-- ITS FALSE NEIGHBOUR: 'it returns false'. Refute it at one input. -/
def fnExactUseTicketWrong : ChangeSpec := { name := "fnExactUseTicket", fn := fun _ => fun
  | [d1, d2, d3, d4] => { results := [.lit (.bool false)], args := [d1, d2, d3, d4] }
  | _ => none }
def FnExactUseTicketWrongFalsely : Prop := fnExactUseTicketRow.holds Try.pinned (OpenSpec.ofChange fnExactUseTicketWrong)

/-- 'laws.FnPrices': WHATEVER THE INPUT: true; the input reads as it did. -/
def fnPricesSpec : ChangeSpec := { name := "fnPrices", fn := fun _ => fun
  | [d] => { results := [.lit (.bool true)], args := [d] }
  | _ => none }
def fnPricesRow : OpenClaim := { program := "ytobcgcdjoogfnaa", sum := "2a2de47a592e591629174b020c95241c92cf48aef851f3ae4940cbb60b6d17b3", func := "loop.example/g00935/laws.FnPrices", spec := "fnPrices", apart := false }
def FnPricesSaid : Prop := fnPricesRow.holds Try.pinned (OpenSpec.ofChange fnPricesSpec)

/-- ITS FALSE NEIGHBOUR: 'it returns false'. Refute it at one input. -/
def fnPricesWrong : ChangeSpec := { name := "fnPrices", fn := fun _ => fun
  | [d] => { results := [.lit (.bool false)], args := [d] }
  | _ => none }
def FnPricesWrongFalsely : Prop := fnPricesRow.holds Try.pinned (OpenSpec.ofChange fnPricesWrong)

/-- 'laws.FnTickets': WHATEVER THE INPUT: true; the input reads as it did. -/
def fnTicketsSpec : ChangeSpec := { name := "fnTickets", fn := fun _ => fun
  | [d] => { results := [.lit (.bool true)], args := [d] }
  | _ => none }
def fnTicketsRow : OpenClaim := { program := "ytobcgcdjoogfnaa", sum := "2a2de47a592e591629174b020c95241c92cf48aef851f3ae4940cbb60b6d17b3", func := "loop.example/g00935/laws.FnTickets", spec := "fnTickets", unfollowed := true, recurses := true, apart := false }
def FnTicketsSaid : Prop := fnTicketsRow.holds Try.pinned (OpenSpec.ofChange fnTicketsSpec)

/-- ITS FALSE NEIGHBOUR: 'it returns false'. Refute it at one input. -/
def fnTicketsWrong : ChangeSpec := { name := "fnTickets", fn := fun _ => fun
  | [d] => { results := [.lit (.bool false)], args := [d] }
  | _ => none }
def FnTicketsWrongFalsely : Prop := fnTicketsRow.holds Try.pinned (OpenSpec.ofChange fnTicketsWrong)

/- THE SECOND FORM. 'bulk': how many values and letters a reading holds, each counted each time it is reached (what is shared counts as often as it is met; a slice's spare places count too). A statement '..UptoSaid' is the law's where the arguments, and the package variables that the reading takes, are together of bulk at most 1048576: NARROWER than '..Said'. Prove '..Said' where nothing that the law and all that it calls make is longer than what came in: it says more and counts as full. Else prove '..UptoSaid'. A law counts once. -/
mutual
def uptoBulk {H : Type} : DataW H → Nat
  | .lit (.string bytes) => bytes.length + 1
  | .lit _ => 1
  | .nil => 1
  | .ptr d => uptoBulk d + 1
  | .slice elems spare => uptoBulkAll elems + uptoBulkAll spare + 1
  | .agg parts => uptoBulkAll parts + 1
  | .iface _ d => uptoBulk d + 1
  | .map entries => uptoBulkEntries entries + 1
  | .held _ => 1
def uptoBulkAll {H : Type} : List (DataW H) → Nat
  | [] => 0
  | d :: r => uptoBulk d + uptoBulkAll r
def uptoBulkEntries {H : Type} : List (Lit × DataW H) → Nat
  | [] => 0
  | x :: r => uptoBulkEntry x + uptoBulkEntries r
def uptoBulkEntry {H : Type} : Lit × DataW H → Nat
  | (.string bytes, d) => bytes.length + uptoBulk d + 1
  | (_, d) => uptoBulk d + 1
 end
def uptoSmall : (H : Type) → List (DataW H) → Bool := fun _ ds => decide (uptoBulkAll ds ≤ 1048576)
def OpenSpec.upto (s : _root_.Go.ChangeSpec) : _root_.Go.OpenSpec := { _root_.Go.OpenSpec.ofChange s with cond := some uptoSmall }

/-- 'laws.FnExactIsTicket', WHERE WHAT IT READS IS OF BULK AT MOST 1048576: true; the input reads as it did. -/
def fnExactIsTicketUptoRow : OpenClaim := { program := "ytobcgcdjoogfnaa", sum := "2a2de47a592e591629174b020c95241c92cf48aef851f3ae4940cbb60b6d17b3", func := "loop.example/g00935/laws.FnExactIsTicket", spec := "fnExactIsTicket", apart := false, narrowed := true }
def FnExactIsTicketUptoSaid : Prop := fnExactIsTicketUptoRow.holds Try.pinned (OpenSpec.upto fnExactIsTicketSpec)

/-- 'laws.FnExactRidesLeft', WHERE WHAT IT READS IS OF BULK AT MOST 1048576: true; the input reads as it did. -/
def fnExactRidesLeftUptoRow : OpenClaim := { program := "ytobcgcdjoogfnaa", sum := "2a2de47a592e591629174b020c95241c92cf48aef851f3ae4940cbb60b6d17b3", func := "loop.example/g00935/laws.FnExactRidesLeft", spec := "fnExactRidesLeft", apart := false, narrowed := true }
def FnExactRidesLeftUptoSaid : Prop := fnExactRidesLeftUptoRow.holds Try.pinned (OpenSpec.upto fnExactRidesLeftSpec)

/-- 'laws.FnExactCanRide', WHERE WHAT IT READS IS OF BULK AT MOST 1048576: true; the input reads as it did. -/
def fnExactCanRideUptoRow : OpenClaim := { program := "ytobcgcdjoogfnaa", sum := "2a2de47a592e591629174b020c95241c92cf48aef851f3ae4940cbb60b6d17b3", func := "loop.example/g00935/laws.FnExactCanRide", spec := "fnExactCanRide", apart := false, narrowed := true }
def FnExactCanRideUptoSaid : Prop := fnExactCanRideUptoRow.holds Try.pinned (OpenSpec.upto fnExactCanRideSpec)

/-- 'laws.FnExactCheapestFor', WHERE WHAT IT READS IS OF BULK AT MOST 1048576: true; the input reads as it did. -/
def fnExactCheapestForUptoRow : OpenClaim := { program := "ytobcgcdjoogfnaa", sum := "2a2de47a592e591629174b020c95241c92cf48aef851f3ae4940cbb60b6d17b3", func := "loop.example/g00935/laws.FnExactCheapestFor", spec := "fnExactCheapestFor", apart := false, narrowed := true }
def FnExactCheapestForUptoSaid : Prop := fnExactCheapestForUptoRow.holds Try.pinned (OpenSpec.upto fnExactCheapestForSpec)

/-- 'laws.FnExactAreTickets', WHERE WHAT IT READS IS OF BULK AT MOST 1048576: true; the input reads as it did. -/
def fnExactAreTicketsUptoRow : OpenClaim := { program := "ytobcgcdjoogfnaa", sum := "2a2de47a592e591629174b020c95241c92cf48aef851f3ae4940cbb60b6d17b3", func := "loop.example/g00935/laws.FnExactAreTickets", spec := "fnExactAreTickets", apart := false, narrowed := true }
def FnExactAreTicketsUptoSaid : Prop := fnExactAreTicketsUptoRow.holds Try.pinned (OpenSpec.upto fnExactAreTicketsSpec)

/-- 'laws.FnExactStillUp', WHERE WHAT IT READS IS OF BULK AT MOST 1048576: true; the input reads as it did. -/
def fnExactStillUpUptoRow : OpenClaim := { program := "ytobcgcdjoogfnaa", sum := "2a2de47a592e591629174b020c95241c92cf48aef851f3ae4940cbb60b6d17b3", func := "loop.example/g00935/laws.FnExactStillUp", spec := "fnExactStillUp", apart := false, narrowed := true }
def FnExactStillUpUptoSaid : Prop := fnExactStillUpUptoRow.holds Try.pinned (OpenSpec.upto fnExactStillUpSpec)

/-- 'laws.FnExactSalesOn', WHERE WHAT IT READS IS OF BULK AT MOST 1048576: true; the input reads as it did. -/
def fnExactSalesOnUptoRow : OpenClaim := { program := "ytobcgcdjoogfnaa", sum := "2a2de47a592e591629174b020c95241c92cf48aef851f3ae4940cbb60b6d17b3", func := "loop.example/g00935/laws.FnExactSalesOn", spec := "fnExactSalesOn", apart := false, narrowed := true }
def FnExactSalesOnUptoSaid : Prop := fnExactSalesOnUptoRow.holds Try.pinned (OpenSpec.upto fnExactSalesOnSpec)

/-- 'laws.FnExactSellTicket', WHERE WHAT IT READS IS OF BULK AT MOST 1048576: true; the input reads as it did. -/
def fnExactSellTicketUptoRow : OpenClaim := { program := "ytobcgcdjoogfnaa", sum := "2a2de47a592e591629174b020c95241c92cf48aef851f3ae4940cbb60b6d17b3", func := "loop.example/g00935/laws.FnExactSellTicket", spec := "fnExactSellTicket", apart := false, narrowed := true }
def FnExactSellTicketUptoSaid : Prop := fnExactSellTicketUptoRow.holds Try.pinned (OpenSpec.upto fnExactSellTicketSpec)

/-- 'laws.FnExactExpiredOn', WHERE WHAT IT READS IS OF BULK AT MOST 1048576: true; the input reads as it did. -/
def fnExactExpiredOnUptoRow : OpenClaim := { program := "ytobcgcdjoogfnaa", sum := "2a2de47a592e591629174b020c95241c92cf48aef851f3ae4940cbb60b6d17b3", func := "loop.example/g00935/laws.FnExactExpiredOn", spec := "fnExactExpiredOn", apart := false, narrowed := true }
def FnExactExpiredOnUptoSaid : Prop := fnExactExpiredOnUptoRow.holds Try.pinned (OpenSpec.upto fnExactExpiredOnSpec)

/-- 'laws.FnExactUseTicket', WHERE WHAT IT READS IS OF BULK AT MOST 1048576: true; the input reads as it did. -/
def fnExactUseTicketUptoRow : OpenClaim := { program := "ytobcgcdjoogfnaa", sum := "2a2de47a592e591629174b020c95241c92cf48aef851f3ae4940cbb60b6d17b3", func := "loop.example/g00935/laws.FnExactUseTicket", spec := "fnExactUseTicket", unfollowed := true, recurses := true, apart := false, narrowed := true }
def FnExactUseTicketUptoSaid : Prop := fnExactUseTicketUptoRow.holds Try.pinned (OpenSpec.upto fnExactUseTicketSpec)

/-- 'laws.FnPrices', WHERE WHAT IT READS IS OF BULK AT MOST 1048576: true; the input reads as it did. -/
def fnPricesUptoRow : OpenClaim := { program := "ytobcgcdjoogfnaa", sum := "2a2de47a592e591629174b020c95241c92cf48aef851f3ae4940cbb60b6d17b3", func := "loop.example/g00935/laws.FnPrices", spec := "fnPrices", apart := false, narrowed := true }
def FnPricesUptoSaid : Prop := fnPricesUptoRow.holds Try.pinned (OpenSpec.upto fnPricesSpec)

/-- 'laws.FnTickets', WHERE WHAT IT READS IS OF BULK AT MOST 1048576: true; the input reads as it did. -/
def fnTicketsUptoRow : OpenClaim := { program := "ytobcgcdjoogfnaa", sum := "2a2de47a592e591629174b020c95241c92cf48aef851f3ae4940cbb60b6d17b3", func := "loop.example/g00935/laws.FnTickets", spec := "fnTickets", unfollowed := true, recurses := true, apart := false, narrowed := true }
def FnTicketsUptoSaid : Prop := fnTicketsUptoRow.holds Try.pinned (OpenSpec.upto fnTicketsSpec)

end Rows
end Go.Proofs.Ytobcgcdjoogfnaa
