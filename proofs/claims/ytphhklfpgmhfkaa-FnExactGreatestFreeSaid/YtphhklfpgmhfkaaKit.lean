/- Small words for memory, used by all texts of this seat: what a slice reads as, what a call leaves alone, and the last step of a law's proof. No program in sight. -/
import Derived.Test.YtphhklfpgmhfkaaChecked
import Derived.WalkKit
import Derived.WalkSpells
import Derived.WalkLawsBesides
import Derived.ProofKit
import Derived.Laws.OwnMore
import Derived.Deep.AppendLies
import Derived.Deep.Draws
import Derived.Deep.Slices
import Derived.Laws.Rows
import Derived.Lib.Hide
import Derived.ChangeOld
import Derived.Lib.SmallJoins
import Derived.Deep.Light
namespace Go.Proofs.Ytphhklfpgmhfkaa
open Go.RowKit

/-- What a function returns that leaves all old memory alone. -/
def Ret (w : World) (v : Value) (e : Ending) (w' : World) : Prop := e = .returned v ∧ Below w.heap.size w w'

theorem ret_bool {x y : Bool} (h : x = y) : Ending.returned (.bool x) = .returned (.bool y) := by rw [h]
theorem ret_int {x y : Int} (h : x = y) : Ending.returned (.int .i64 x) = .returned (.int .i64 y) := by rw [h]
theorem ret_bb {x y x' y' : Bool} (h : x = y) (h' : x' = y') : Ending.returned (.tuple #[.bool x, .bool x']) = .returned (.tuple #[.bool y, .bool y']) := by rw [h, h']
theorem ret_ib {x y : Int} {x' y' : Bool} (h : x = y) (h' : x' = y') : Ending.returned (.tuple #[.int .i64 x, .bool x']) = .returned (.tuple #[.int .i64 y, .bool y']) := by rw [h, h']

theorem ret_agg2 {x y x' y' : Int} (h : x = y) (h' : x' = y') : Ending.returned (.agg #[.int .i64 x, .int .i64 x']) = .returned (.agg #[.int .i64 y, .int .i64 y']) := by rw [h, h']
theorem Below.thenn {B : Nat} {a w w' : World} (h : Below B a w) (k : Below w.heap.size w w') (hB : B ≤ w.heap.size) : Below B a w' := h.trans (k.mono hB)

theorem bcell {W w1 : World} (hb : Below W.heap.size W w1) : (∀ b o, b < W.heap.size → w1.cell? ⟨b, o, none⟩ = W.cell? ⟨b, o, none⟩) ∧ (∀ b o, b < W.heap.size → w1.frozen? ⟨b, o, none⟩ = W.frozen? ⟨b, o, none⟩) :=
  ⟨fun b o h => hb.cell (p := ⟨b, o, none⟩) h, fun b o h => hb.frozen (p := ⟨b, o, none⟩) h⟩

section
open Go.WideShapes Go.ChangeShapes Go.ChangeAt
variable {H : Type} {enc : TypeId × Value → H} {P : Program}
/-- All arguments read behind the call as they did before it. -/
theorem trodAll_below (hl : laidOutB P = true) {W W' : World} (hb : Below W.heap.size W W') : ∀ (ts : List TypeId) (vs : List Value) (ds : List (DataW H)) (ps : List MemPlace),
    (ts.all fun t => P.readableRec t && decide (t < P.types.size)) = true → DataW.TrodAll enc P W 0 (fun _ => true) true ts vs ds ps → (∀ x ∈ ps, x.block < W.heap.size) →
    DataW.TrodAll enc P W' 0 (fun b => decide (b < W.heap.size)) true ts vs ds ps
  | [], [], [], _, _, h, _ => h
  | t :: ts, v :: vs, d :: ds, _, hr, ⟨p, q, h0, r0, e⟩, hlt => by
    subst e
    simp only [List.all_cons, Bool.and_eq_true, decide_eq_true_eq] at hr
    exact ⟨p, q, Below.trod hl hr.1.1 hr.1.2 h0 hb fun x hx => hlt x (by simp [hx]), trodAll_below hl hb ts vs ds q hr.2 r0 fun x hx => hlt x (by simp [hx]), rfl⟩
end
end Go.Proofs.Ytphhklfpgmhfkaa
