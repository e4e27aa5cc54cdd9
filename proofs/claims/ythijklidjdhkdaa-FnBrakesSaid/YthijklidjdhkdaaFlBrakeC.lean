/- AUTO. append onto lists of Brake of the call's own; slices.Clone. -/
import Derived.Test.YthijklidjdhkdaaFlBrake
namespace Go.Proofs.Ythijklidjdhkdaa
open Go.RowKit
set_option linter.unusedVariables false
set_option linter.unusedSimpArgs false

theorem RdR.cat_Brake {w : World} {B n m c : Nat} {A : Option Addr} {rows ys : List (List Int)} (he : Even 2 rows) (he' : Even 2 ys) (hn : rows.length + m = (rows ++ ys).length)
    (h : w.ownsRow B 56 2 (.slice A (rows.length + m) c) (rows.length + m) (IV rows.flatten ++ IV ys.flatten)) : OwR w B 56 2 (.slice A (rows ++ ys).length c) (rows ++ ys) := by
  refine ⟨?_, ?_⟩
  · unfold OwF
    rw [← hn, List.flatten_append]
    simpa using h
  · intro r hr
    rcases List.mem_append.1 hr with h1 | h1
    · exact he r h1
    · exact he' r h1
/-- 'append(out, l...)'. -/
theorem wp_app_BrakeS {ops : Array Oper} {rest : List Oper} {o : Oper} {a : Act} {Q : Exit → Act → World → Prop} (hgd : o.guard = none) (s x : Operand)
    (ho : o.op = .call { callee := .builtin .append, args := #[s, x], argTypes := #[27, 27] }) (w : World) (B : Nat) (v : Value) (rows : List (List Int))
    (hs : a.eval s = v) (hown : OwR w B 56 2 v rows) (A : Option Addr) (n c : Nat) (ys : List (List Int)) (hx : a.eval x = .slice A n c) (hr : RdR w 2 A n ys) (hl : rows.length + n < 1099511627776) (hB : B ≤ w.heap.size)
    (h : ∀ A' c' w', OwR w' B 56 2 (.slice A' (rows ++ ys).length c') (rows ++ ys) → Below B w w' → wpList Try.prog ops Q rest (a.put o.dst (.slice A' (rows ++ ys).length c')) w') :
    wpList Try.prog ops Q (o :: rest) a w := by
  obtain ⟨i0, hi0, hz0, hz1, hz2⟩ := info_parts info_Brake
  have e1 : rows.length + n = (rows ++ ys).length := by simp [hr.2.2]
  refine wpList_append_any _ hgd s x _ ho B 56 i0 _ 2 16 Try.underlying27 hi0 hz0 hz1 hz2 rfl (by omega) v rows.length (IV rows.flatten) hs hown.1 _ n c (IV ys.flatten) hx hr.1 (ints_oneCell _ _)
    (by simp only [maxLen]; omega) (by omega) hB ?_
  intro A' c' w' hown' hg
  have hn := RdR.cat_Brake (n := n) hown.2 hr.2.1 e1 hown'
  have hb := below_grown hown.1 hg (Nat.le_refl _) hB
  rw [e1]
  exact h A' c' w' hn hb
/-- The same at a step of a region that draws its order. -/
theorem step_app_BrakeS {ops : Array Oper} {o : Oper} {a : Act} {K : Act → World → Prop} {Q : Exit → Act → World → Prop} {E : Prop} (hgd : o.guard = none) (s x : Operand)
    (ho : o.op = .call { callee := .builtin .append, args := #[s, x], argTypes := #[27, 27] }) (w : World) (B : Nat) (v : Value) (rows : List (List Int))
    (hs : a.eval s = v) (hown : OwR w B 56 2 v rows) (A : Option Addr) (n c : Nat) (ys : List (List Int)) (hx : a.eval x = .slice A n c) (hr : RdR w 2 A n ys) (hl : rows.length + n < 1099511627776) (hB : B ≤ w.heap.size)
    (h : ∀ A' c' w', OwR w' B 56 2 (.slice A' (rows ++ ys).length c') (rows ++ ys) → Below B w w' → K (a.put o.dst (.slice A' (rows ++ ys).length c')) w') :
    if Region.wanted o (yielded ops a.tmps) = true then Oper.wp Try.prog o a w K Q else E := by
  obtain ⟨i0, hi0, hz0, hz1, hz2⟩ := info_parts info_Brake
  have e1 : rows.length + n = (rows ++ ys).length := by simp [hr.2.2]
  refine step_append_any w hgd s x _ ho B 56 i0 _ 2 16 Try.underlying27 hi0 hz0 hz1 hz2 rfl (by omega) v rows.length (IV rows.flatten) hs hown.1 _ n c (IV ys.flatten) hx hr.1 (ints_oneCell _ _)
    (by simp only [maxLen]; omega) (by omega) hB ?_
  intro A' c' w' hown' hg
  have hn := RdR.cat_Brake (n := n) hown.2 hr.2.1 e1 hown'
  have hb := below_grown hown.1 hg (Nat.le_refl _) hB
  rw [e1]
  exact h A' c' w' hn hb
theorem RdR.one_Brake (x0 x1 : Int) (w : World) : RdR (w.alloc (.cells #[.int .i64 x0, .int .i64 x1] 56)) 2 (some ⟨w.heap.size, 0, none⟩) 1 [[x0, x1]] := by
  refine ⟨?_, by simp [Even], rfl⟩
  have := Rd.of_block (n := 1) (size := 2) (heap_alloc_new w (.cells #[.int .i64 x0, .int .i64 x1] 56)) rfl
  simpa using this
end Go.Proofs.Ythijklidjdhkdaa
