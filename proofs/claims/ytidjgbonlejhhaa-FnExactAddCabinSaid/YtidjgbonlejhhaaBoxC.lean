/- A box of zeros that takes a circle. -/
import Derived.Test.YtidjgbonlejhhaaCircP
import Derived.Test.YtidjgbonlejhhaaCircN
namespace Go.Proofs.Ytidjgbonlejhhaa
open Go.RowKit
set_option linter.unusedVariables false
set_option linter.unusedSimpArgs false

theorem box_put {W w : World} {q B : Nat} {cs : Array Value} {v : Value} {zs : List Int} {l s : Int} (hB : Below W.heap.size W w) (hq : W.heap.size ≤ q) (hb : Blk w q 27 cs) (hc : cs.size = 3) (ho : Ow w B v zs) (hBo : W.heap.size ≤ B) :
    Below W.heap.size W (((w.setCell ⟨q, 0, none⟩ (.int .i64 l)).setCell ⟨q, 1, none⟩ (.int .i64 s)).setCell ⟨q, 2, none⟩ v) ∧ Ow (((w.setCell ⟨q, 0, none⟩ (.int .i64 l)).setCell ⟨q, 1, none⟩ (.int .i64 s)).setCell ⟨q, 2, none⟩ v) W.heap.size v zs ∧
    (((w.setCell ⟨q, 0, none⟩ (.int .i64 l)).setCell ⟨q, 1, none⟩ (.int .i64 s)).setCell ⟨q, 2, none⟩ v).cell? ⟨q, 0, none⟩ = some (.int .i64 l) ∧ (((w.setCell ⟨q, 0, none⟩ (.int .i64 l)).setCell ⟨q, 1, none⟩ (.int .i64 s)).setCell ⟨q, 2, none⟩ v).cell? ⟨q, 1, none⟩ = some (.int .i64 s) ∧ (((w.setCell ⟨q, 0, none⟩ (.int .i64 l)).setCell ⟨q, 1, none⟩ (.int .i64 s)).setCell ⟨q, 2, none⟩ v).cell? ⟨q, 2, none⟩ = some v := by
  have h3 := ((hb.set_ 0 (.int .i64 l)).set_ 1 (.int .i64 s)).set_ 2 v
  refine ⟨Below.set3 hB hq _ _ _, (((ho.boxed hb 0 _).boxed (hb.set_ 0 _) 1 _).boxed ((hb.set_ 0 _).set_ 1 _) 2 _).base hBo, ?_, ?_, ?_⟩
  · rw [h3.cell 0]; simp [hc]
  · rw [h3.cell 1]; simp [hc]
  · rw [h3.cell 2]; simp [hc]
theorem Blk.cells3 {w : World} {g : Nat} {t : TypeId} {a b c : Value} (h : Blk w g t #[a, b, c]) :
    w.cell? ⟨g, 0, none⟩ = some a ∧ w.cell? ⟨g, 1, none⟩ = some b ∧ w.cell? ⟨g, 2, none⟩ = some c ∧ w.frozen? ⟨g, 0, none⟩ = false ∧ w.frozen? ⟨g, 1, none⟩ = false ∧ w.frozen? ⟨g, 2, none⟩ = false :=
  ⟨by simpa using h.cell 0, by simpa using h.cell 1, by simpa using h.cell 2, h.frozen 0, h.frozen 1, h.frozen 2⟩
theorem box_q (wo : World) (o : Obj) (t : TypeId) (cs : Array Value) : Blk ((wo.alloc o).alloc (.cells cs t)) (wo.heap.size + 1) t cs := by
  have h := Blk.new (wo.alloc o) t cs
  rwa [show (wo.alloc o).heap.size = wo.heap.size + 1 by simp] at h
end Go.Proofs.Ytidjgbonlejhhaa
