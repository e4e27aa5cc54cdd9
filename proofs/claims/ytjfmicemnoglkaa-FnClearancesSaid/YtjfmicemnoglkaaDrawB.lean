/- AUTO. A struct of numbers that is drawn into a box. -/
import Derived.Test.YtjfmicemnoglkaaDraw
import Derived.Test.YtjfmicemnoglkaaFlat
namespace Go.Proofs.Ytjfmicemnoglkaa
open Go.RowKit
set_option linter.unusedVariables false
set_option linter.unusedSimpArgs false

theorem cur_amongW (w : World) (g : Nat) (S : Src) (K : Nat) (ys : List Int) (P : Int → Prop) (A : Option Addr) (n c : Nat) (h : Cur w g S K) (hK : K ≤ 900000) (hR : Rd w 1 A n (IV ys)) (hne : ∀ b off, A = some ⟨b, off, none⟩ → b ≠ g) (h0 : 0 < n) (h1 : n ≤ 200) (hP : ∀ y ∈ ys, P y) :
    Calls Try.prog 96 #[.pointer (some ⟨g, 0, none⟩), .slice A n c] w (Drew w g S (K + 2) P) := by
  have hPp := Lib.hid hP
  have HW := Lib.hid h
  have HR := Lib.hid hR
  obtain ⟨b, off, x0, rfl, hx0, hc0⟩ := hR.at1 h0
  have hbg := hne b off rfl
  clear hP h hR hx0 hc0 hne
  go_enter Try.func96, Try.ntmps96
  go_wp2_with (go_at_call 125; (with_reducible refine (cur_pick w _ S K (n : Int) HW.out hK (by omega) (by omega)).mono ?_); rintro e w1 ⟨x, ⟨hx0, hx1⟩, rfl, hC, hG⟩; have HC := Lib.hid hC; have HG := Lib.hid hG; obtain ⟨j, rfl⟩ := Int.eq_ofNat_of_zero_le hx0; have hj : j < n := (by omega); obtain ⟨b', off', y, e', hy, hcy⟩ := HR.out.at1 hj; injection e' with e'; injection e' with e1 e2; subst e1 e2; have hcy1 := cell_grown hG hcy (by intro e; injection e with e; exact hbg e); have HY := Lib.hid hy; clear hC hG hy hcy)
  go_ret
  exact Drew.mk (hPp.out _ (List.mem_of_getElem? HY.out)) rfl HC.out HG.out

theorem cur_one (w : World) (g : Nat) (S : Src) (K : Nat) (m : Int) (h : Cur w g S K) (hK : K ≤ 900000) (h0 : 1 ≤ m) (h1 : m ≤ 65536) :
    Calls Try.prog 150 #[.pointer (some ⟨g, 0, none⟩), .int .i64 m] w (DrewB w g S (K + 2)) := by
  have H := Lib.hid h
  clear h
  go_enter Try.func150, Try.ntmps150
  go_wp2_with (go_at_call 125; (with_reducible refine (cur_pick w _ S (K) (m) (H.out) (by omega) (by omega) (by omega)).mono ?_); rintro e w1 ⟨r, ⟨r0, r1⟩, rfl, hC, hG⟩; have Cw1 := Lib.hid hC; have Gw1 := Lib.hid hG; have Zw1 := hG.size; clear hC hG)
  go_ret
  exact ⟨_, rfl, Cw1.out, Gw1.out⟩
/-- The boxes of a function that draws a struct: q its result, p the struct. -/
def TB (w wr : World) (g q p : Nat) (t : TypeId) (S : Src) (K : Nat) (z r : List Int) : Prop :=
  Cur wr g S K ∧ w.grownBy wr (some g) ∧ Blk wr q t (IV z).toArray ∧ Blk wr p t (IV r).toArray ∧ g < w.heap.size ∧ w.heap.size ≤ q ∧ q < p
section
variable {w wr w' : World} {g q p : Nat} {t : TypeId} {S : Src} {K : Nat} {z r : List Int}
theorem TB.cur (h : TB w wr g q p t S K z r) : Cur wr g S K := h.1
theorem TB.grown (h : TB w wr g q p t S K z r) : w.grownBy wr (some g) := h.2.1
theorem TB.call {K' : Nat} (h : TB w wr g q p t S K z r) (hC : Cur w' g S K') (hG : wr.grownBy w' (some g)) : TB w w' g q p t S K' z r := by
  obtain ⟨h1, h2, h3, h4, h6, h7, h8⟩ := h
  exact ⟨hC, only_trans h2 hG, h3.grown hG (by intro e; injection e with e; omega), h4.grown hG (by intro e; injection e with e; omega), h6, h7, h8⟩
theorem TB.more {K' : Nat} (h : TB w wr g q p t S K z r) (hk : K ≤ K') : TB w wr g q p t S K' z r := h.call (h.1.more hk) (World.grownBy.refl _ _)
theorem TB.alloc (h : TB w wr g q p t S K z r) (o : Obj) : TB w (wr.alloc o) g q p t S K z r := h.call (h.1.alloc o) (only_alloc (World.grownBy.refl wr _) o)
theorem TB.set_ (h : TB w wr g q p t S K z r) (i : Nat) (v : Int) : TB w (wr.setCell ⟨p, i, none⟩ (.int .i64 v)) g q p t S K z (r.set i v) := by
  obtain ⟨h1, h2, h3, h4, h6, h7, h8⟩ := h
  refine ⟨h1.far (by simp; omega) _, only_setCell h2 (.inr (by simp; omega)) _, h3.far (by simp; omega) _, ?_, h6, h7, h8⟩
  have := h4.set_ i (.int .i64 v)
  simpa [List.map_set] using this
theorem TB.cells5 {x0 x1 x2 x3 x4 y0 y1 y2 y3 y4 : Int} (h : TB w wr g q p t S K [y0, y1, y2, y3, y4] [x0, x1, x2, x3, x4]) :
    (wr.cell? ⟨p, 0, none⟩ = some (.int .i64 x0) ∧ wr.cell? ⟨p, 1, none⟩ = some (.int .i64 x1) ∧ wr.cell? ⟨p, 2, none⟩ = some (.int .i64 x2) ∧ wr.cell? ⟨p, 3, none⟩ = some (.int .i64 x3) ∧ wr.cell? ⟨p, 4, none⟩ = some (.int .i64 x4)) ∧
    (wr.frozen? ⟨p, 0, none⟩ = false ∧ wr.frozen? ⟨p, 1, none⟩ = false ∧ wr.frozen? ⟨p, 2, none⟩ = false ∧ wr.frozen? ⟨p, 3, none⟩ = false ∧ wr.frozen? ⟨p, 4, none⟩ = false) ∧
    (wr.cell? ⟨q, 0, none⟩ = some (.int .i64 y0) ∧ wr.cell? ⟨q, 1, none⟩ = some (.int .i64 y1) ∧ wr.cell? ⟨q, 2, none⟩ = some (.int .i64 y2) ∧ wr.cell? ⟨q, 3, none⟩ = some (.int .i64 y3) ∧ wr.cell? ⟨q, 4, none⟩ = some (.int .i64 y4)) ∧
    (wr.frozen? ⟨q, 0, none⟩ = false ∧ wr.frozen? ⟨q, 1, none⟩ = false ∧ wr.frozen? ⟨q, 2, none⟩ = false ∧ wr.frozen? ⟨q, 3, none⟩ = false ∧ wr.frozen? ⟨q, 4, none⟩ = false) ∧ q ≠ p ∧ p ≠ q ∧ p < wr.heap.size ∧ q < wr.heap.size := by
  obtain ⟨h1, h2, h3, h4, h6, h7, h8⟩ := h
  exact ⟨⟨by simpa using h4.cell 0, by simpa using h4.cell 1, by simpa using h4.cell 2, by simpa using h4.cell 3, by simpa using h4.cell 4⟩, ⟨h4.frozen 0, h4.frozen 1, h4.frozen 2, h4.frozen 3, h4.frozen 4⟩,
    ⟨by simpa using h3.cell 0, by simpa using h3.cell 1, by simpa using h3.cell 2, by simpa using h3.cell 3, by simpa using h3.cell 4⟩, ⟨h3.frozen 0, h3.frozen 1, h3.frozen 2, h3.frozen 3, h3.frozen 4⟩, by omega, by omega, h4.lt, h3.lt⟩
/-- The struct is stored into the result's box. -/
theorem TB.fin5 {x0 x1 x2 x3 x4 y0 y1 y2 y3 y4 : Int} (h : TB w wr g q p t S K [y0, y1, y2, y3, y4] [x0, x1, x2, x3, x4]) :
    Cur (((((wr.setCell ⟨q, 0, none⟩ (.int .i64 x0)).setCell ⟨q, 1, none⟩ (.int .i64 x1)).setCell ⟨q, 2, none⟩ (.int .i64 x2)).setCell ⟨q, 3, none⟩ (.int .i64 x3)).setCell ⟨q, 4, none⟩ (.int .i64 x4)) g S K ∧
    w.grownBy (((((wr.setCell ⟨q, 0, none⟩ (.int .i64 x0)).setCell ⟨q, 1, none⟩ (.int .i64 x1)).setCell ⟨q, 2, none⟩ (.int .i64 x2)).setCell ⟨q, 3, none⟩ (.int .i64 x3)).setCell ⟨q, 4, none⟩ (.int .i64 x4)) (some g) ∧
    Blk (((((wr.setCell ⟨q, 0, none⟩ (.int .i64 x0)).setCell ⟨q, 1, none⟩ (.int .i64 x1)).setCell ⟨q, 2, none⟩ (.int .i64 x2)).setCell ⟨q, 3, none⟩ (.int .i64 x3)).setCell ⟨q, 4, none⟩ (.int .i64 x4)) q t #[.int .i64 x0, .int .i64 x1, .int .i64 x2, .int .i64 x3, .int .i64 x4] := by
  obtain ⟨h1, h2, h3, h4, h6, h7, h8⟩ := h
  refine ⟨((((h1.far (by simp; omega) _).far (by simp; omega) _).far (by simp; omega) _).far (by simp; omega) _).far (by simp; omega) _, only_setCell (only_setCell (only_setCell (only_setCell (only_setCell h2 (.inr (by simp; omega)) _) (.inr (by simp; omega)) _) (.inr (by simp; omega)) _) (.inr (by simp; omega)) _) (.inr (by simp; omega)) _, ?_⟩
  simpa using ((((h3.set_ 0 (.int .i64 x0)).set_ 1 (.int .i64 x1)).set_ 2 (.int .i64 x2)).set_ 3 (.int .i64 x3)).set_ 4 (.int .i64 x4)
end
theorem Blk.cells5 {w : World} {g : Nat} {t : TypeId} {a b c d e : Value} (h : Blk w g t #[a, b, c, d, e]) :
    w.cell? ⟨g, 0, none⟩ = some a ∧ w.cell? ⟨g, 1, none⟩ = some b ∧ w.cell? ⟨g, 2, none⟩ = some c ∧ w.cell? ⟨g, 3, none⟩ = some d ∧ w.cell? ⟨g, 4, none⟩ = some e :=
  ⟨by simpa using h.cell 0, by simpa using h.cell 1, by simpa using h.cell 2, by simpa using h.cell 3, by simpa using h.cell 4⟩
/-- A struct of five numbers that was drawn. -/
def DrewT5 (w : World) (g : Nat) (S : Src) (K : Nat) (e : Ending) (w' : World) : Prop :=
  ∃ x0 x1 x2 x3 x4 : Int, e = .returned (.agg #[.int .i64 x0, .int .i64 x1, .int .i64 x2, .int .i64 x3, .int .i64 x4]) ∧ Cur w' g S K ∧ w.grownBy w' (some g)
end Go.Proofs.Ytjfmicemnoglkaa
