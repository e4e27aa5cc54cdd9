/- append onto lists of Ticket of the call's own; slices.Clone. -/
import Derived.Test.YtobcgcdjoogfnaaFlTicket
namespace Go.Proofs.Ytobcgcdjoogfnaa
open Go.RowKit
set_option linter.unusedVariables false
set_option linter.unusedSimpArgs false

theorem RdR.cat_Ticket {w : World} {B n m c : Nat} {A : Option Addr} {rows ys : List (List Int)} (he : Even 5 rows) (he' : Even 5 ys) (hn : rows.length + m = (rows ++ ys).length)
    (h : w.ownsRow B 25 5 (.slice A (rows.length + m) c) (rows.length + m) (IV rows.flatten ++ IV ys.flatten)) : OwR w B 25 5 (.slice A (rows ++ ys).length c) (rows ++ ys) := by
  refine ⟨?_, ?_⟩
  · unfold OwF
    rw [← hn, List.flatten_append]
    simpa using h
  · intro r hr
    rcases List.mem_append.1 hr with h1 | h1
    · exact he r h1
    · exact he' r h1
/-- 'append(out, l...)'. -/
theorem wp_app_TicketS {ops : Array Oper} {rest : List Oper} {o : Oper} {a : Act} {Q : Exit → Act → World → Prop} (hgd : o.guard = none) (s x : Operand)
    (ho : o.op = .call { callee := .builtin .append, args := #[s, x], argTypes := #[47, 47] }) (w : World) (B : Nat) (v : Value) (rows : List (List Int))
    (hs : a.eval s = v) (hown : OwR w B 25 5 v rows) (A : Option Addr) (n c : Nat) (ys : List (List Int)) (hx : a.eval x = .slice A n c) (hr : RdR w 5 A n ys) (hl : rows.length + n < 1099511627776) (hB : B ≤ w.heap.size)
    (h : ∀ A' c' w', OwR w' B 25 5 (.slice A' (rows ++ ys).length c') (rows ++ ys) → Below B w w' → wpList Try.prog ops Q rest (a.put o.dst (.slice A' (rows ++ ys).length c')) w') :
    wpList Try.prog ops Q (o :: rest) a w := by
  obtain ⟨i0, hi0, hz0, hz1, hz2⟩ := info_parts info_Ticket
  have e1 : rows.length + n = (rows ++ ys).length := by simp [hr.2.2]
  refine wpList_append_any _ hgd s x _ ho B 25 i0 _ 5 40 Try.underlying47 hi0 hz0 hz1 hz2 rfl (by omega) v rows.length (IV rows.flatten) hs hown.1 _ n c (IV ys.flatten) hx hr.1 (ints_oneCell _ _)
    (by simp only [maxLen]; omega) (by omega) hB ?_
  intro A' c' w' hown' hg
  have hn := RdR.cat_Ticket (n := n) hown.2 hr.2.1 e1 hown'
  have hb := below_grown hown.1 hg (Nat.le_refl _) hB
  rw [e1]
  exact h A' c' w' hn hb
/-- The same at a step of a region that draws its order. -/
theorem step_app_TicketS {ops : Array Oper} {o : Oper} {a : Act} {K : Act → World → Prop} {Q : Exit → Act → World → Prop} {E : Prop} (hgd : o.guard = none) (s x : Operand)
    (ho : o.op = .call { callee := .builtin .append, args := #[s, x], argTypes := #[47, 47] }) (w : World) (B : Nat) (v : Value) (rows : List (List Int))
    (hs : a.eval s = v) (hown : OwR w B 25 5 v rows) (A : Option Addr) (n c : Nat) (ys : List (List Int)) (hx : a.eval x = .slice A n c) (hr : RdR w 5 A n ys) (hl : rows.length + n < 1099511627776) (hB : B ≤ w.heap.size)
    (h : ∀ A' c' w', OwR w' B 25 5 (.slice A' (rows ++ ys).length c') (rows ++ ys) → Below B w w' → K (a.put o.dst (.slice A' (rows ++ ys).length c')) w') :
    if Region.wanted o (yielded ops a.tmps) = true then Oper.wp Try.prog o a w K Q else E := by
  obtain ⟨i0, hi0, hz0, hz1, hz2⟩ := info_parts info_Ticket
  have e1 : rows.length + n = (rows ++ ys).length := by simp [hr.2.2]
  refine step_append_any w hgd s x _ ho B 25 i0 _ 5 40 Try.underlying47 hi0 hz0 hz1 hz2 rfl (by omega) v rows.length (IV rows.flatten) hs hown.1 _ n c (IV ys.flatten) hx hr.1 (ints_oneCell _ _)
    (by simp only [maxLen]; omega) (by omega) hB ?_
  intro A' c' w' hown' hg
  have hn := RdR.cat_Ticket (n := n) hown.2 hr.2.1 e1 hown'
  have hb := below_grown hown.1 hg (Nat.le_refl _) hB
  rw [e1]
  exact h A' c' w' hn hb
theorem RdR.one_Ticket (x0 x1 x2 x3 x4 : Int) (w : World) : RdR (w.alloc (.cells #[.int .i64 x0, .int .i64 x1, .int .i64 x2, .int .i64 x3, .int .i64 x4] 25)) 5 (some ⟨w.heap.size, 0, none⟩) 1 [[x0, x1, x2, x3, x4]] := by
  refine ⟨?_, by simp [Even], rfl⟩
  have := Rd.of_block (n := 1) (size := 5) (heap_alloc_new w (.cells #[.int .i64 x0, .int .i64 x1, .int .i64 x2, .int .i64 x3, .int .i64 x4] 25)) rfl
  simpa using this
theorem slices_Clone_Ticket (A : Option Addr) (n c : Nat) (rows : List (List Int)) (w : World) (h : RdR w 5 A n rows) (hn : n ≤ 1048577) (hA : A = none → c = 0 ∧ n = 0) :
    Calls Try.prog 71 #[.slice A n c] w (RetR w 25 5 rows) := by
  have hl := Lib.hid h.2.2
  rcases A with _ | a
  · obtain ⟨rfl, rfl⟩ := hA rfl
    have h0 : rows = [] := List.eq_nil_of_length_eq_zero hl.out
    subst h0
    have he := fun (w : World) => Lib.run_eql_slice_nil (P := Try.prog) w 47 25 none 0 0 0 0 Try.underlying47
    go_enter Try.func71, Try.ntmps71
    go_wp2_with fail
    go_ret
    exact ⟨none, 0, rfl, OwR.nil _ _ _ _, Below.refl _ _⟩
  · have he := fun (w : World) => Lib.run_eql_slice_nil (P := Try.prog) w 47 25 (some a) n c 0 0 Try.underlying47
    go_enter Try.func71, Try.ntmps71
    go_wp2_with (at_builtin; refine wp_app_TicketS rfl (.tmp 5) (.tmp 6) rfl (w.alloc (.cells #[] 25)) w.heap.size (.slice (some ⟨w.heap.size, 0, none⟩) 0 0) [] rfl (OwR.lit0 w w.heap.size _ _ (Nat.le_refl _)) (some a) n c rows rfl (h.below ((Below.refl _ _).alloc (Nat.le_refl _) _)) (by simp; omega) (by simp) ?_; intro A1 c1 w1 hown1 hb1)
    go_ret
    exact ⟨A1, c1, rfl, hown1, ((Below.refl _ _).alloc (Nat.le_refl _) _).trans hb1⟩
end Go.Proofs.Ytobcgcdjoogfnaa
