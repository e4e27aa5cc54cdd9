/- Damages that are drawn: the states of the draw. -/
import Derived.Test.YtjfmicemnoglkaaDrwN
import Derived.Test.YtjfmicemnoglkaaSupG
namespace Go.Proofs.Ytjfmicemnoglkaa
open Go.RowKit
set_option linter.unusedVariables false
set_option linter.unusedSimpArgs false

theorem hav {P Q : Prop} (h : P) (k : P → Q) : Q := k h
set_option maxHeartbeats 1000000 in
theorem cur_pickA (w : World) (g : Nat) (S : Src) (K : Nat) (m : Int) (h : Cur w g S K) (hK : K ≤ 900000) :
    Calls Try.prog 125 #[.pointer (some ⟨g, 0, none⟩), .int .i64 m] w (Drew w g S (K + 2) fun r => True) := by
  rcases Decidable.em (m ≤ 1) with hm | hm
  · refine (cur_pick1 w g S K m h hm).mono ?_
    rintro e w' ⟨r, rfl, he, hC, hG⟩
    exact ⟨0, trivial, he, hC.more (by omega), hG⟩
  have H := Lib.hid h
  have hm' : 1 < m := by omega
  have hm0 : m ≠ 0 := by omega
  clear h
  by_cases hb : 200 < m
  · go_enter Try.func125, Try.ntmps125
    go_wp2_with (first | (go_at_call 156; (with_reducible refine (cur_next w _ S K H.out (by omega)).mono ?_); rintro e w1 ⟨x, ⟨hx0, hx1⟩, rfl, hC, hG⟩; have HC := Lib.hid hC; have HG := Lib.hid hG; clear hC hG) | (go_at_call 156; (with_reducible refine (cur_next w1 _ S (K + 1) HC.out (by omega)).mono ?_); rintro e w2 ⟨y, ⟨hy0, hy1⟩, rfl, hC2, hG2⟩; have HC2 := Lib.hid hC2; have HG2 := Lib.hid hG2; clear hC2 hG2))
    go_ret
    exact Drew.mk trivial rfl HC2.out (only_trans HG.out HG2.out)
  · refine (cur_pick w g S K m H.out hK (by omega) (by omega)).mono ?_
    rintro e w' ⟨r, _, he, hC, hG⟩
    exact ⟨r, trivial, he, hC, hG⟩
/-- The state of a drawn damage: the kind's box p, the result's box p + 1. -/
def DS (w0 wr : World) (g p : Nat) (S : Src) (K : Nat) (y0 y1 y2 y3 y4 : Int) : Prop :=
  Cur wr g S K ∧ w0.grownBy wr (some g) ∧ Blk wr p 85 #[.int .i64 y0, .int .i64 y1, .int .i64 y2, .int .i64 y3, .int .i64 y4] ∧ Blk wr (p + 1) 92 #[.int .i64 0, .int .i64 0, .int .i64 0] ∧ g < p
section
variable {w0 wr w' : World} {g p : Nat} {S : Src} {K : Nat} {y0 y1 y2 y3 y4 : Int}
theorem DS.cur (h : DS w0 wr g p S K y0 y1 y2 y3 y4) : Cur wr g S K := h.1
theorem DS.one (h : DS w0 wr g p S K y0 y1 y2 y3 y4) : wr.cell? ⟨p, 1, none⟩ = some (.int .i64 y1) := h.2.2.1.cells5.2.1
theorem DS.plt (h : DS w0 wr g p S K y0 y1 y2 y3 y4) : p < wr.heap.size := h.2.2.1.lt
theorem DS.qlt (h : DS w0 wr g p S K y0 y1 y2 y3 y4) : p + 1 < wr.heap.size := h.2.2.2.1.lt
theorem DS.call {K' : Nat} (h : DS w0 wr g p S K y0 y1 y2 y3 y4) (hC : Cur w' g S K') (hG : wr.grownBy w' (some g)) : DS w0 w' g p S K' y0 y1 y2 y3 y4 := by
  obtain ⟨h1, h2, h3, h4, h6⟩ := h
  exact ⟨hC, only_trans h2 hG, h3.grown hG (by intro e; injection e with e; omega), h4.grown hG (by intro e; injection e with e; omega), h6⟩
theorem DS.alloc (h : DS w0 wr g p S K y0 y1 y2 y3 y4) (o : Obj) : DS w0 (wr.alloc o) g p S K y0 y1 y2 y3 y4 := h.call (h.1.alloc o) (only_alloc (World.grownBy.refl wr _) o)
theorem DS.drew (h : DS w0 wr g p S K y0 y1 y2 y3 y4) : DS w0 wr.drew g p S K y0 y1 y2 y3 y4 := h.call h.1.drew (only_drew (World.grownBy.refl wr _))
theorem DS.set3 (h : DS w0 wr g p S K y0 y1 y2 y3 y4) {b : Nat} (hb : p + 1 < b) (hw : w0.heap.size ≤ b) (x y z : Value) : DS w0 (((wr.setCell ⟨b, 0, none⟩ x).setCell ⟨b, 1, none⟩ y).setCell ⟨b, 2, none⟩ z) g p S K y0 y1 y2 y3 y4 := by
  obtain ⟨h1, h2, h3, h4, h6⟩ := h
  refine ⟨((h1.far (by simp; omega) _).far (by simp; omega) _).far (by simp; omega) _, only_setCell (only_setCell (only_setCell h2 (.inr hw) _) (.inr hw) _) (.inr hw) _, ((h3.far (by simp; omega) _).far (by simp; omega) _).far (by simp; omega) _, ((h4.far (by simp; omega) _).far (by simp; omega) _).far (by simp; omega) _, h6⟩
end
/-- The boxes of a drawn damage: p the kind, q the result, b the damage. -/
def MS (w wr : World) (g q p b : Nat) (S : Src) (K : Nat) (y0 y1 y2 y3 y4 x0 x1 x2 : Int) : Prop :=
  TB w wr g q b 92 S K [0, 0, 0] [x0, x1, x2] ∧ Blk wr p 85 #[.int .i64 y0, .int .i64 y1, .int .i64 y2, .int .i64 y3, .int .i64 y4] ∧ g < p ∧ p < q ∧ p < b
section
variable {w wr w' : World} {g q p b : Nat} {S : Src} {K : Nat} {y0 y1 y2 y3 y4 x0 x1 x2 : Int}
theorem MS.cur (h : MS w wr g q p b S K y0 y1 y2 y3 y4 x0 x1 x2) : Cur wr g S K := h.1.1
theorem MS.call {K' : Nat} (h : MS w wr g q p b S K y0 y1 y2 y3 y4 x0 x1 x2) (hC : Cur w' g S K') (hG : wr.grownBy w' (some g)) : MS w w' g q p b S K' y0 y1 y2 y3 y4 x0 x1 x2 := by
  obtain ⟨h1, h2, h3, h4, h5⟩ := h
  exact ⟨h1.call hC hG, h2.grown hG (by intro e; injection e with e; omega), h3, h4, h5⟩
theorem MS.alloc (h : MS w wr g q p b S K y0 y1 y2 y3 y4 x0 x1 x2) (o : Obj) : MS w (wr.alloc o) g q p b S K y0 y1 y2 y3 y4 x0 x1 x2 := h.call (h.1.1.alloc o) (only_alloc (World.grownBy.refl wr _) o)
theorem MS.drew (h : MS w wr g q p b S K y0 y1 y2 y3 y4 x0 x1 x2) : MS w wr.drew g q p b S K y0 y1 y2 y3 y4 x0 x1 x2 := h.call h.1.1.drew (only_drew (World.grownBy.refl wr _))
theorem MS.set0 (h : MS w wr g q p b S K y0 y1 y2 y3 y4 x0 x1 x2) (v : Int) : MS w (wr.setCell ⟨b, 0, none⟩ (.int .i64 v)) g q p b S K y0 y1 y2 y3 y4 v x1 x2 := by
  obtain ⟨h1, h2, h3, h4, h5⟩ := h
  exact ⟨h1.set_ 0 v, h2.far (by simp; omega) _, h3, h4, h5⟩
theorem MS.set1 (h : MS w wr g q p b S K y0 y1 y2 y3 y4 x0 x1 x2) (v : Int) : MS w (wr.setCell ⟨b, 1, none⟩ (.int .i64 v)) g q p b S K y0 y1 y2 y3 y4 x0 v x2 := by
  obtain ⟨h1, h2, h3, h4, h5⟩ := h
  exact ⟨h1.set_ 1 v, h2.far (by simp; omega) _, h3, h4, h5⟩
theorem MS.set2 (h : MS w wr g q p b S K y0 y1 y2 y3 y4 x0 x1 x2) (v : Int) : MS w (wr.setCell ⟨b, 2, none⟩ (.int .i64 v)) g q p b S K y0 y1 y2 y3 y4 x0 x1 v := by
  obtain ⟨h1, h2, h3, h4, h5⟩ := h
  exact ⟨h1.set_ 2 v, h2.far (by simp; omega) _, h3, h4, h5⟩
theorem MS.cells (h : MS w wr g q p b S K y0 y1 y2 y3 y4 x0 x1 x2) :
    (wr.cell? ⟨b, 0, none⟩ = some (.int .i64 x0) ∧ wr.cell? ⟨b, 1, none⟩ = some (.int .i64 x1) ∧ wr.cell? ⟨b, 2, none⟩ = some (.int .i64 x2)) ∧
    (wr.frozen? ⟨b, 0, none⟩ = false ∧ wr.frozen? ⟨b, 1, none⟩ = false ∧ wr.frozen? ⟨b, 2, none⟩ = false) ∧
    (wr.cell? ⟨q, 0, none⟩ = some (.int .i64 0) ∧ wr.cell? ⟨q, 1, none⟩ = some (.int .i64 0) ∧ wr.cell? ⟨q, 2, none⟩ = some (.int .i64 0)) ∧
    (wr.frozen? ⟨q, 0, none⟩ = false ∧ wr.frozen? ⟨q, 1, none⟩ = false ∧ wr.frozen? ⟨q, 2, none⟩ = false) ∧
    (wr.cell? ⟨p, 1, none⟩ = some (.int .i64 y1) ∧ wr.cell? ⟨p, 2, none⟩ = some (.int .i64 y2)) ∧ q ≠ b ∧ b ≠ q ∧ p ≠ b ∧ b ≠ p ∧ p ≠ q ∧ b < wr.heap.size ∧ q < wr.heap.size ∧ p < wr.heap.size := by
  obtain ⟨⟨h1, h2, h3, h4, h6, h7, h8⟩, k2, k3, k4, k5⟩ := h
  exact ⟨⟨by simpa using h4.cell 0, by simpa using h4.cell 1, by simpa using h4.cell 2⟩, ⟨h4.frozen 0, h4.frozen 1, h4.frozen 2⟩,
    ⟨by simpa using h3.cell 0, by simpa using h3.cell 1, by simpa using h3.cell 2⟩, ⟨h3.frozen 0, h3.frozen 1, h3.frozen 2⟩, ⟨k2.cells5.2.1, k2.cells5.2.2.1⟩, by omega, by omega, by omega, by omega, by omega, h4.lt, h3.lt, k2.lt⟩
theorem MS.fin (h : MS w wr g q p b S K y0 y1 y2 y3 y4 x0 x1 x2) :
    Cur (((wr.setCell ⟨q, 0, none⟩ (.int .i64 x0)).setCell ⟨q, 1, none⟩ (.int .i64 x1)).setCell ⟨q, 2, none⟩ (.int .i64 x2)) g S K ∧
    w.grownBy (((wr.setCell ⟨q, 0, none⟩ (.int .i64 x0)).setCell ⟨q, 1, none⟩ (.int .i64 x1)).setCell ⟨q, 2, none⟩ (.int .i64 x2)) (some g) ∧
    Blk (((wr.setCell ⟨q, 0, none⟩ (.int .i64 x0)).setCell ⟨q, 1, none⟩ (.int .i64 x1)).setCell ⟨q, 2, none⟩ (.int .i64 x2)) q 92 #[.int .i64 x0, .int .i64 x1, .int .i64 x2] := by
  obtain ⟨⟨h1, h2, h3, h4, h6, h7, h8⟩, _⟩ := h
  refine ⟨((h1.far (by simp; omega) _).far (by simp; omega) _).far (by simp; omega) _, only_setCell (only_setCell (only_setCell h2 (.inr (by simp; omega)) _) (.inr (by simp; omega)) _) (.inr (by simp; omega)) _, ?_⟩
  simpa using ((h3.set_ 0 (.int .i64 x0)).set_ 1 (.int .i64 x1)).set_ 2 (.int .i64 x2)
end
end Go.Proofs.Ytjfmicemnoglkaa
