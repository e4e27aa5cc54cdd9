/- A region that draws its order, whose operations only read old memory and whose callees leave all old memory alone (they may make memory): one walk in the order of the text serves every order. -/
import Derived.Test.YtjfmicemnoglkaaDoorKit
import Derived.BigQuiet
namespace Go.Proofs.YtjfmicemnoglkaaDoor
open Go.RowKit
set_option linter.unusedVariables false
set_option linter.unusedSimpArgs false

/-- A world in which all memory of w is as it was. -/
structure Ext (w : World) where
  new : World
  below : Below w.heap.size w new
instance ext_some (w : World) : Nonempty (Ext w) := ⟨⟨w, Below.refl _ _⟩⟩
def wext (w : World) (n : Ext w) : World := n.new
theorem ext_cells (w : World) (n : Ext w) (b o : Nat) (h : b < w.heap.size) : (wext w n).cell? ⟨b, o, none⟩ = w.cell? ⟨b, o, none⟩ := n.below.cell (p := ⟨b, o, none⟩) h
theorem ext_out {w w' : World} {n : Ext w} (h : w' = wext w n) : Below w.heap.size w w' := by rw [h]; exact n.below
theorem wp_region_ext {P : Program} {id : Nat} {Q : Exit → Act → World → Prop} {a : Act} {w : World} {l : List Oper} (hm : P.follows .mixedOrders = true) (hB : Region.lexB .any l.toArray = true)
    (h : wpQuiet P l.toArray (fun w' => ∃ n : Ext w, w' = wext w n) (fun a' => ∀ w', (∃ n : Ext w, w' = wext w n) → Q .normal a' w') l a) : (Code.region id l.toArray true).wp P Q a w :=
  wp_region_quiet (C := fun w' => ∃ n : Ext w, w' = wext w n) hm hB ⟨⟨_, below_n w 1⟩, rfl⟩ (by simpa using h)
theorem ext_ret {P : Program} {f : FuncId} {args : Array Value} {w : World} {n : Ext w} {v : Value} (h : Calls P f args (wext w n) (Ret (wext w n) v)) :
    Calls P f args (wext w n) fun e w'' => e = .returned v ∧ ∃ m : Ext w, w'' = wext w m :=
  h.mono fun _ w'' ⟨he, hb⟩ => ⟨he, ⟨w'', Below.thenn n.below hb n.below.size⟩, rfl⟩
theorem ext_pure {P : Program} {f : FuncId} {args : Array Value} {w : World} {n : Ext w} {v : Value} (h : Calls P f args (wext w n) fun e w' => e = .returned v ∧ wext w n = w') :
    Calls P f args (wext w n) fun e w'' => e = .returned v ∧ ∃ m : Ext w, w'' = wext w m :=
  h.mono fun _ _ ⟨he, hw⟩ => ⟨he, n, hw.symm⟩
theorem ext_quiet {P : Program} {f : FuncId} {args : Array Value} {w : World} {n : Ext w} {v : Value} (h : Calls P f args (wext w n) fun e w' => e = .returned v ∧ ∃ m, w' = (wext w n).drewN m) :
    Calls P f args (wext w n) fun e w'' => e = .returned v ∧ ∃ m : Ext w, w'' = wext w m :=
  h.mono fun _ _ ⟨he, m, hw⟩ => ⟨he, ⟨_, below_drewN n.below m⟩, hw⟩
end Go.Proofs.YtjfmicemnoglkaaDoor
