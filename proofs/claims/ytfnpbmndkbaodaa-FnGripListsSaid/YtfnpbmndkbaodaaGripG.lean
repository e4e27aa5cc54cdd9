/- The grips: the tests that are due. -/
import Derived.Test.YtfnpbmndkbaodaaGripE
import Derived.Test.YtfnpbmndkbaodaaIxGrip
import Derived.Shelf.Abstract
namespace Go.Proofs.Ytfnpbmndkbaodaa
open Go.RowKit
set_option linter.unusedVariables false
set_option linter.unusedSimpArgs false

theorem goodR {rows : List (List Int)} (h : good rows = true) {k : Nat} {x0 x1 x2 x3 x4 : Int} (hr : rows[k]? = some [x0, x1, x2, x3, x4]) :
    (1 ≤ x0 ∧ x0 ≤ 99) ∧ (0 ≤ x1 ∧ x1 ≤ 5000) ∧ (0 ≤ x2 ∧ x2 ≤ 99) ∧ (0 ≤ x3 ∧ x3 ≤ 99999) ∧ (0 ≤ x4 ∧ x4 ≤ 9999) := gripOk_iff.1 (show gripOk x0 x1 x2 x3 x4 = true from goodL_at h hr)
theorem goodN {rows : List (List Int)} (h : good rows = true) : rows.length ≤ 12 := (goodL_iff.1 h).2
def lateB (day : Int) (r : List Int) : Bool := decide (day < fld r 4)
def dueB (day : Int) (r : List Int) : Bool := decide (10 < fld r 2) || (decide (5000 ≤ fld r 3) || decide (90 < day - fld r 4))
def dueL (rows : List (List Int)) (day : Int) : List Int := (rows.filter (dueB day)).map (fld · 0)
def dueOk (rows : List (List Int)) (day : Int) : Bool := good rows && (inr day 0 9999 && !rows.any (lateB day))
def dueV (rows : List (List Int)) (day : Int) : List Int := if dueOk rows day then dueL rows day else []
theorem dueL_yes {rows : List (List Int)} {day : Int} {k : Nat} {r : List Int} (h : rows[k]? = some r) (hb : dueB day r = true) : dueL (rows.take (k + 1)) day = dueL (rows.take k) day ++ [fld r 0] := by
  unfold dueL; rw [take_next h]; simp [List.filter_append, hb]
theorem dueL_no {rows : List (List Int)} {day : Int} {k : Nat} {r : List Int} (h : rows[k]? = some r) (hb : dueB day r = false) : dueL (rows.take (k + 1)) day = dueL (rows.take k) day := by
  unfold dueL; rw [take_next h]; simp [List.filter_append, hb]
theorem dueL_end {rows : List (List Int)} {day : Int} {n k : Nat} (h : rows.length = n) (hk : n ≤ k) : dueL (rows.take k) day = dueL rows day := by rw [List.take_of_length_le (by omega)]
theorem dueL_zero (rows : List (List Int)) (day : Int) : dueL (rows.take 0) day = [] := by simp [dueL]
theorem dueV_len (rows : List (List Int)) (day : Int) : (dueV rows day).length ≤ 1048576 := by
  unfold dueV
  split
  · rename_i h
    have h1 : good rows = true := by simp only [dueOk, Bool.and_eq_true] at h; exact h.1
    have h2 := goodN h1
    have h3 := List.length_filter_le (dueB day) rows
    simp [dueL]; omega
  · simp
theorem late_next {rows : List (List Int)} {day : Int} {k : Nat} {r : List Int} (h : rows[k]? = some r) (ha : (rows.take k).any (lateB day) = false) (hb : lateB day r = false) : (rows.take (k + 1)).any (lateB day) = false := by
  rw [take_next h, List.any_append, ha]; simp [hb]
theorem late_stop {rows : List (List Int)} {day : Int} {k : Nat} {r : List Int} (h : rows[k]? = some r) (hb : lateB day r = true) : rows.any (lateB day) = true :=
  List.any_eq_true.2 ⟨r, List.mem_of_getElem? h, hb⟩
theorem late_at {rows : List (List Int)} {day : Int} (h : rows.any (lateB day) = false) {k : Nat} {r : List Int} (hr : rows[k]? = some r) : lateB day r = false := by
  have := List.any_eq_false.1 h r (List.mem_of_getElem? hr)
  simpa using this

/-- 'append(out, x)' of one number; the heap's size by a name of your own. -/
theorem wp_app_intH {ops : Array Oper} {rest : List Oper} {o : Oper} {a : Act} {Q : Exit → Act → World → Prop} (hgd : o.guard = none) (s x : Operand)
    (ho : o.op = .call { callee := .builtin .append, args := #[s, x], argTypes := #[30, 30] }) (w : World) (H : Nat) (hH : w.heap.size = H) (B : Nat) (v : Value) (zs : List Int) (z : Int)
    (hs : a.eval s = v) (hown : Ow w B v zs) (hx : a.eval x = .slice (some ⟨H, 0, none⟩) 1 1) (hl : zs.length < 1099511627776) (hB : B ≤ w.heap.size)
    (h : ∀ A c w', Ow w' B (.slice A (zs ++ [z]).length c) (zs ++ [z]) → Below B w w' → wpList Try.prog ops Q rest (a.put o.dst (.slice A (zs ++ [z]).length c)) w') :
    wpList Try.prog ops Q (o :: rest) a (w.alloc (.cells #[.int .i64 z] 3)) := by
  subst hH
  exact wp_app_int hgd s x ho w B v zs z hs hown hx hl hB h
theorem Ow.lit0' (w : World) (B g : Nat) (hB : B ≤ w.heap.size) (hg : g = w.heap.size) : Ow (w.alloc (.cells #[] 3)) B (.slice (some ⟨g, 0, none⟩) 0 0) [] := by subst hg; exact Ow.lit0 w B hB
theorem RetSB.nil' {w w' : World} (h : Below w.heap.size w w') : RetSB w [] false (.returned (.tuple #[.slice none 0 0, .bool false])) w' := ⟨none, 0, rfl, Ow.nil _ _, h⟩
theorem dueTests_1 (x0 x1 x2 x3 x4 v : Int) (g : Nat) (W : World) (hc : W.cell? ⟨g, 0, none⟩ = some (.int .i64 v)) (hg : g < W.heap.size) :
    Calls Try.prog 56 #[.agg #[.int .i64 x0, .int .i64 x1, .int .i64 x2, .int .i64 x3, .int .i64 x4], .pointer (some ⟨g, 0, none⟩)] W (Ret W (.bool (lateB v [x0, x1, x2, x3, x4]))) := by
  go_enter Try.func56, Try.ntmps56
  go_wp2
  go_ret
  exact ⟨ret_bool (by simp [lateB, fld]), (by repeat (first | exact Below.refl _ _ | assumption | apply Below.drew | apply below_drewN | (refine Below.alloc ?_ (by first | omega | (simp; done) | (simp; omega)) _) | (refine Below.setCell ?_ (by first | omega | (simp; done) | (simp; omega)) _)))⟩
end Go.Proofs.Ytfnpbmndkbaodaa
