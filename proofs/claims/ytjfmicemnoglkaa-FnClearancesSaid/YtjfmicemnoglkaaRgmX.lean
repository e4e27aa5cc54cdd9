/- Merged: Rgm, TowF. -/
import Derived.Test.YtjfmicemnoglkaaRgn
import Derived.Test.YtjfmicemnoglkaaClrPX
import Derived.Test.YtjfmicemnoglkaaSagA
import Derived.Test.YtjfmicemnoglkaaPut
namespace Go.Proofs.Ytjfmicemnoglkaa
open Go.RowKit
section
variable {P : Program} {ops : Array Oper} {Q : Exit → Act → World → Prop} {md : Region.Mode}
/-- Of the edges that bind, every operation waits for earlier ones alone. -/
def ontoM (md : Region.Mode) (ops : Array Oper) : Bool := (List.range ops.size).all fun i => match ops[i]? with | some o => o.after.all fun e => !Region.binds md e || decide (e.on < i) | none => true
theorem ontoM_lt (h : ontoM md ops = true) {i : Nat} {o : Oper} (ho : ops[i]? = some o) : ∀ e ∈ o.after, Region.binds md e = true → e.on < i := by
  unfold ontoM at h
  have hi : i < ops.size := (Array.getElem?_eq_some_iff.1 ho).1
  have := (List.all_eq_true.1 h) i (List.mem_range.2 hi)
  rw [ho] at this
  intro e he hb
  have := Array.all_eq_true_iff_forall_mem.1 this e he
  rw [hb] at this
  simpa using this
theorem ready_nilM {l : Array Bool} (hs : l.size = ops.size) (h : ontoM md ops = true) (hr : Region.ready md ops l = []) : ∀ i, i < ops.size → l.getD i true = true := by
  intro i
  induction i using Nat.strongRecOn with
  | ind i ih =>
    intro hi
    rcases hb : l.getD i true with _ | _
    · exfalso
      obtain ⟨o, ho⟩ : ∃ o, ops[i]? = some o := ⟨ops[i], Array.getElem?_eq_getElem hi⟩
      have hm : i ∈ Region.ready md ops l := mem_ready.2 ⟨hb, o, ho, fun e he hbe => by
        have hlt := ontoM_lt h ho e he hbe
        have := ih e.on hlt (by omega)
        rcases hlo : l[e.on]? with _ | b
        · rw [Array.getElem?_eq_none_iff] at hlo
          omega
        · simpa [Array.getD_eq_getD_getElem?, hlo] using this⟩
      rw [hr] at hm
      cases hm
    · rfl
end
end Go.Proofs.Ytjfmicemnoglkaa
namespace Go.Proofs.Ytjfmicemnoglkaa
open Go.RowKit
set_option linter.unusedVariables false
set_option linter.unusedSimpArgs false

theorem Blk.two' {w : World} {g : Nat} {t : TypeId} {a b : Value} (h : Blk w g t #[a, b]) : w.cell? ⟨g, 0, none⟩ = some a ∧ w.cell? ⟨g, 1, none⟩ = some b := ⟨by simpa using h.cell 0, by simpa using h.cell 1⟩
theorem Blk.three' {w : World} {g : Nat} {t : TypeId} {a b c : Value} (h : Blk w g t #[a, b, c]) : w.cell? ⟨g, 0, none⟩ = some a ∧ w.cell? ⟨g, 1, none⟩ = some b ∧ w.cell? ⟨g, 2, none⟩ = some c := ⟨by simpa using h.cell 0, by simpa using h.cell 1, by simpa using h.cell 2⟩
theorem Blk.putT {w : World} {g : Nat} {t : TypeId} {a b c x y z : Value} (h : Blk w g t #[a, b, c]) : Blk (((w.setCell ⟨g, 0, none⟩ x).setCell ⟨g, 1, none⟩ y).setCell ⟨g, 2, none⟩ z) g t #[x, y, z] := by simpa using ((h.set_ 0 x).set_ 1 y).set_ 2 z
/-- A box for a support that an operation has made, once it has; and whether it is filled. -/
def FT (Z : Nat) (b s : Bool) (v : Value) (w : World) (x y : Int) (z : Bool) : Prop := b = true → ∃ q, v = .pointer (some ⟨q, 0, none⟩) ∧ Z ≤ q ∧ Blk w q 51 #[.int .i64 (if s then x else 0), .int .i64 (if s then y else 0), .bool (if s then z else false)]
theorem FT.below {Z : Nat} {b s : Bool} {v : Value} {w w' : World} {x y : Int} {z : Bool} (h : FT Z b s v w x y z) (hb : Below w.heap.size w w') : FT Z b s v w' x y z := fun e => by
  obtain ⟨q, h1, h2, h3⟩ := h e
  exact ⟨q, h1, h2, h3.below hb h3.lt⟩
theorem FT.ne_new {Z : Nat} {b s : Bool} {v : Value} {w : World} {x y : Int} {z : Bool} (h : FT Z b s v w x y z) (hb : b = true) : v ≠ .pointer (some ⟨w.heap.size, 0, none⟩) := by
  obtain ⟨q, rfl, h2, h3⟩ := h hb
  intro e
  injection e with e
  injection e with e
  injection e with e1
  have := h3.lt
  omega
theorem FT.far {Z q1 : Nat} {b s : Bool} {v : Value} {w : World} {x y : Int} {z : Bool} (h : FT Z b s v w x y z) (hne : b = true → Value.pointer (some ⟨q1, 0, none⟩) ≠ v) (u1 u2 u3 : Value) : FT Z b s v (((w.setCell ⟨q1, 0, none⟩ u1).setCell ⟨q1, 1, none⟩ u2).setCell ⟨q1, 2, none⟩ u3) x y z := fun e => by
  obtain ⟨q, rfl, h2, h3⟩ := h e
  have hq : q ≠ q1 := fun e2 => hne e (by rw [e2])
  exact ⟨q, rfl, h2, ((h3.far (by simpa using hq) _).far (by simpa using hq) _).far (by simpa using hq) _⟩
end Go.Proofs.Ytjfmicemnoglkaa
