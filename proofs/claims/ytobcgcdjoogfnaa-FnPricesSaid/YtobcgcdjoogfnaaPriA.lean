/- Prices that are drawn. -/
import Derived.Test.YtobcgcdjoogfnaaDrawU
namespace Go.Proofs.Ytobcgcdjoogfnaa
open Go.RowKit
set_option linter.unusedVariables false
set_option linter.unusedSimpArgs false

theorem Blk.cells4 {w : World} {g : Nat} {t : TypeId} {a b c d : Value} (h : Blk w g t #[a, b, c, d]) :
    w.cell? ⟨g, 0, none⟩ = some a ∧ w.cell? ⟨g, 1, none⟩ = some b ∧ w.cell? ⟨g, 2, none⟩ = some c ∧ w.cell? ⟨g, 3, none⟩ = some d :=
  ⟨by simpa using h.cell 0, by simpa using h.cell 1, by simpa using h.cell 2, by simpa using h.cell 3⟩
section
variable {w wr w' : World} {g q p : Nat} {t : TypeId} {S : Src} {K : Nat} {z r : List Int}
theorem TB.cells4 {x0 x1 x2 x3 y0 y1 y2 y3 : Int} (h : TB w wr g q p t S K [y0, y1, y2, y3] [x0, x1, x2, x3]) :
    (wr.cell? ⟨p, 0, none⟩ = some (.int .i64 x0) ∧ wr.cell? ⟨p, 1, none⟩ = some (.int .i64 x1) ∧ wr.cell? ⟨p, 2, none⟩ = some (.int .i64 x2) ∧ wr.cell? ⟨p, 3, none⟩ = some (.int .i64 x3)) ∧
    (wr.frozen? ⟨p, 0, none⟩ = false ∧ wr.frozen? ⟨p, 1, none⟩ = false ∧ wr.frozen? ⟨p, 2, none⟩ = false ∧ wr.frozen? ⟨p, 3, none⟩ = false) ∧
    (wr.cell? ⟨q, 0, none⟩ = some (.int .i64 y0) ∧ wr.cell? ⟨q, 1, none⟩ = some (.int .i64 y1) ∧ wr.cell? ⟨q, 2, none⟩ = some (.int .i64 y2) ∧ wr.cell? ⟨q, 3, none⟩ = some (.int .i64 y3)) ∧
    (wr.frozen? ⟨q, 0, none⟩ = false ∧ wr.frozen? ⟨q, 1, none⟩ = false ∧ wr.frozen? ⟨q, 2, none⟩ = false ∧ wr.frozen? ⟨q, 3, none⟩ = false) ∧ q ≠ p ∧ p ≠ q ∧ p < wr.heap.size ∧ q < wr.heap.size := by
  obtain ⟨h1, h2, h3, h4, h6, h7, h8⟩ := h
  exact ⟨⟨by simpa using h4.cell 0, by simpa using h4.cell 1, by simpa using h4.cell 2, by simpa using h4.cell 3⟩, ⟨h4.frozen 0, h4.frozen 1, h4.frozen 2, h4.frozen 3⟩,
    ⟨by simpa using h3.cell 0, by simpa using h3.cell 1, by simpa using h3.cell 2, by simpa using h3.cell 3⟩, ⟨h3.frozen 0, h3.frozen 1, h3.frozen 2, h3.frozen 3⟩, by omega, by omega, h4.lt, h3.lt⟩
/-- The struct is stored into the result's box. -/
theorem TB.fin4 {x0 x1 x2 x3 y0 y1 y2 y3 : Int} (h : TB w wr g q p t S K [y0, y1, y2, y3] [x0, x1, x2, x3]) :
    Cur ((((wr.setCell ⟨q, 0, none⟩ (.int .i64 x0)).setCell ⟨q, 1, none⟩ (.int .i64 x1)).setCell ⟨q, 2, none⟩ (.int .i64 x2)).setCell ⟨q, 3, none⟩ (.int .i64 x3)) g S K ∧
    w.grownBy ((((wr.setCell ⟨q, 0, none⟩ (.int .i64 x0)).setCell ⟨q, 1, none⟩ (.int .i64 x1)).setCell ⟨q, 2, none⟩ (.int .i64 x2)).setCell ⟨q, 3, none⟩ (.int .i64 x3)) (some g) ∧
    Blk ((((wr.setCell ⟨q, 0, none⟩ (.int .i64 x0)).setCell ⟨q, 1, none⟩ (.int .i64 x1)).setCell ⟨q, 2, none⟩ (.int .i64 x2)).setCell ⟨q, 3, none⟩ (.int .i64 x3)) q t #[.int .i64 x0, .int .i64 x1, .int .i64 x2, .int .i64 x3] := by
  obtain ⟨h1, h2, h3, h4, h6, h7, h8⟩ := h
  refine ⟨(((h1.far (by simp; omega) _).far (by simp; omega) _).far (by simp; omega) _).far (by simp; omega) _, only_setCell (only_setCell (only_setCell (only_setCell h2 (.inr (by simp; omega)) _) (.inr (by simp; omega)) _) (.inr (by simp; omega)) _) (.inr (by simp; omega)) _, ?_⟩
  simpa using (((h3.set_ 0 (.int .i64 x0)).set_ 1 (.int .i64 x1)).set_ 2 (.int .i64 x2)).set_ 3 (.int .i64 x3)
end
/-- A struct of four numbers that was drawn. -/
def DrewT4 (w : World) (g : Nat) (S : Src) (K : Nat) (e : Ending) (w' : World) : Prop :=
  ∃ x0 x1 x2 x3 : Int, e = .returned (.agg #[.int .i64 x0, .int .i64 x1, .int .i64 x2, .int .i64 x3]) ∧ Cur w' g S K ∧ w.grownBy w' (some g)
set_option maxRecDepth 100000 in
set_option maxHeartbeats 4000000 in
theorem cur_prices (w : World) (g : Nat) (S : Src) (K : Nat) (h : Cur w g S K) (hK : K ≤ 800000) :
    Calls Try.prog 75 #[.pointer (some ⟨g, 0, none⟩)] w (DrewT4 w g S (K + 20)) := by
  have H := Lib.hid h
  have hg := h.lt
  clear h
  go_enter Try.func75, Try.ntmps75
  go_wp2_with fail
  (go_at_call 76; refine (cur_amongA _ _ (by simp) _ S (K) [0, 900, 1000] (fun r => True) _ _ (H.out.alloc _) (by omega) rfl rfl (by decide) (by decide) (by decide)).mono ?_; rintro e w1 ⟨x0, x0p, rfl, hC, hG⟩; have Cw1 := Lib.hid hC; have Gw1 := Lib.hid hG; have Zw1 := hG.size; clear hC hG)
  go_wp2_with fail
  (go_at_call 76; refine (cur_among w1 _ S (K + 2) [1500, 1800, 2000] (fun r => True) _ _ (Cw1.out) (by omega) rfl rfl (by decide) (by decide) (by decide)).mono ?_; rintro e w2 ⟨x1, x1p, rfl, hC, hG⟩; have Cw2 := Lib.hid hC; have Gw2 := Lib.hid hG; have Zw2 := hG.size; clear hC hG)
  go_wp2_with fail
  (go_at_call 76; refine (cur_among w2 _ S (K + 2 + 2) [0, 3000, 50000] (fun r => True) _ _ (Cw2.out) (by omega) rfl rfl (by decide) (by decide) (by decide)).mono ?_; rintro e w3 ⟨x2, x2p, rfl, hC, hG⟩; have Cw3 := Lib.hid hC; have Gw3 := Lib.hid hG; have Zw3 := hG.size; clear hC hG)
  go_wp2_with fail
  (go_at_call 76; refine (cur_among w3 _ S (K + 2 + 2 + 2) [7000, 9000, 50000] (fun r => True) _ _ (Cw3.out) (by omega) rfl rfl (by decide) (by decide) (by decide)).mono ?_; rintro e w4 ⟨x3, x3p, rfl, hC, hG⟩; have Cw4 := Lib.hid hC; have Gw4 := Lib.hid hG; have Zw4 := hG.size; clear hC hG)
  have X : Hid (TB w (w4.alloc (.cells #[.int .i64 x0, .int .i64 x1, .int .i64 x2, .int .i64 x3] 39)) g w.heap.size w4.heap.size 39 S (K + 8) [0, 0, 0, 0] [x0, x1, x2, x3]) := by
    have z1 := Gw1.out.size
    have z2 := Gw2.out.size
    have z3 := Gw3.out.size
    have z4 := Gw4.out.size
    simp at z1
    have hne : some w.heap.size ≠ some g := by intro e; injection e with e; omega
    refine ⟨Cw4.out.alloc _, only_alloc (only_trans (only_trans (only_trans (only_trans (only_alloc (World.grownBy.refl w _) _) Gw1.out) Gw2.out) Gw3.out) Gw4.out) _, ?_, Blk.new _ _ _, hg, Nat.le_refl _, by omega⟩
    exact (((((Blk.new w 39 #[.int .i64 0, .int .i64 0, .int .i64 0, .int .i64 0]).grown Gw1.out hne).grown Gw2.out hne).grown Gw3.out hne).grown Gw4.out hne).alloc _
  go_upto_region 2 with fail
  generalize w4.alloc (.cells #[.int .i64 x0, .int .i64 x1, .int .i64 x2, .int .i64 x3] 39) = wx at *
  generalize hp : w4.heap.size = p at *
  generalize hq : w.heap.size = q at *
  have HP := Lib.hid hp
  have HQ := Lib.hid hq
  clear hp hq Cw1 Gw1 Cw2 Gw2 Cw3 Gw3 Cw4 Gw4 H
  obtain ⟨⟨c0, c1, c2, c3⟩, ⟨f0, f1, f2, f3⟩, ⟨z0, z1, z2, z3⟩, ⟨k0, k1, k2, k3⟩, hqp, hpq, _, _⟩ := X.out.cells4
  go_wp2_with ((go_at_call 77; (with_reducible refine (cur_pick wx _ S (K + 8) (50) (X.out.cur) (by omega) (by omega) (by omega)).mono ?_); rintro e w6 ⟨r, ⟨r0, r1⟩, rfl, hC, hG⟩; have Cw6 := Lib.hid hC; have Gw6 := Lib.hid hG; have Zw6 := hG.size; clear hC hG); have Y6 := Lib.hid (X.out.call Cw6.out Gw6.out); (clear c0 c1 c2 c3 f0 f1 f2 f3 z0 z1 z2 z3 k0 k1 k2 k3; obtain ⟨⟨c0, c1, c2, c3⟩, ⟨f0, f1, f2, f3⟩, ⟨z0, z1, z2, z3⟩, ⟨k0, k1, k2, k3⟩, _, _, _, _⟩ := Y6.out.cells4))
  · (go_at_call 76; refine (cur_among w6 _ S (K + 8 + 2) [-1, 50001] (fun r => True) _ _ (Cw6.out) (by omega) rfl rfl (by decide) (by decide) (by decide)).mono ?_; rintro e w7 ⟨v, vp, rfl, hC, hG⟩; have Cw7 := Lib.hid hC; have Gw7 := Lib.hid hG; have Zw7 := hG.size; clear hC hG)
    have Y7 := Lib.hid (Y6.out.call Cw7.out Gw7.out)
    (clear c0 c1 c2 c3 f0 f1 f2 f3 z0 z1 z2 z3 k0 k1 k2 k3; obtain ⟨⟨c0, c1, c2, c3⟩, ⟨f0, f1, f2, f3⟩, ⟨z0, z1, z2, z3⟩, ⟨k0, k1, k2, k3⟩, _, _, _, _⟩ := Y7.out.cells4)
    have Z : Hid (TB w (w7.setCell ⟨p, 0, none⟩ (.int .i64 v)) g q p 39 S (K + 8 + 2 + 2) [0, 0, 0, 0] [v, x1, x2, x3]) := Y7.out.set_ 0 v
    go_wp2_with fail
    (go_light; obtain ⟨p1, p2, p3⟩ := Z.out.fin4; obtain ⟨e0, e1, e2, e3⟩ := p3.cells4; refine bodyPost_ret (v := .agg #[.int .i64 v, .int .i64 x1, .int .i64 x2, .int .i64 x3]) ?_ rfl ⟨_, _, _, _, rfl, p1.more (by omega), p2⟩; simp [results, Try.results75, go_sem, e0, e1, e2, e3])
  · (go_at_call 76; refine (cur_among w6 _ S (K + 8 + 2) [-1, 50001] (fun r => True) _ _ (Cw6.out) (by omega) rfl rfl (by decide) (by decide) (by decide)).mono ?_; rintro e w7 ⟨v, vp, rfl, hC, hG⟩; have Cw7 := Lib.hid hC; have Gw7 := Lib.hid hG; have Zw7 := hG.size; clear hC hG)
    have Y7 := Lib.hid (Y6.out.call Cw7.out Gw7.out)
    (clear c0 c1 c2 c3 f0 f1 f2 f3 z0 z1 z2 z3 k0 k1 k2 k3; obtain ⟨⟨c0, c1, c2, c3⟩, ⟨f0, f1, f2, f3⟩, ⟨z0, z1, z2, z3⟩, ⟨k0, k1, k2, k3⟩, _, _, _, _⟩ := Y7.out.cells4)
    have Z : Hid (TB w (w7.setCell ⟨p, 1, none⟩ (.int .i64 v)) g q p 39 S (K + 8 + 2 + 2) [0, 0, 0, 0] [x0, v, x2, x3]) := Y7.out.set_ 1 v
    go_wp2_with fail
    (go_light; obtain ⟨p1, p2, p3⟩ := Z.out.fin4; obtain ⟨e0, e1, e2, e3⟩ := p3.cells4; refine bodyPost_ret (v := .agg #[.int .i64 x0, .int .i64 v, .int .i64 x2, .int .i64 x3]) ?_ rfl ⟨_, _, _, _, rfl, p1.more (by omega), p2⟩; simp [results, Try.results75, go_sem, e0, e1, e2, e3])
  · (go_at_call 76; refine (cur_among w6 _ S (K + 8 + 2) [-1, 50001] (fun r => True) _ _ (Cw6.out) (by omega) rfl rfl (by decide) (by decide) (by decide)).mono ?_; rintro e w7 ⟨v, vp, rfl, hC, hG⟩; have Cw7 := Lib.hid hC; have Gw7 := Lib.hid hG; have Zw7 := hG.size; clear hC hG)
    have Y7 := Lib.hid (Y6.out.call Cw7.out Gw7.out)
    (clear c0 c1 c2 c3 f0 f1 f2 f3 z0 z1 z2 z3 k0 k1 k2 k3; obtain ⟨⟨c0, c1, c2, c3⟩, ⟨f0, f1, f2, f3⟩, ⟨z0, z1, z2, z3⟩, ⟨k0, k1, k2, k3⟩, _, _, _, _⟩ := Y7.out.cells4)
    have Z : Hid (TB w (w7.setCell ⟨p, 2, none⟩ (.int .i64 v)) g q p 39 S (K + 8 + 2 + 2) [0, 0, 0, 0] [x0, x1, v, x3]) := Y7.out.set_ 2 v
    go_wp2_with fail
    (go_light; obtain ⟨p1, p2, p3⟩ := Z.out.fin4; obtain ⟨e0, e1, e2, e3⟩ := p3.cells4; refine bodyPost_ret (v := .agg #[.int .i64 x0, .int .i64 x1, .int .i64 v, .int .i64 x3]) ?_ rfl ⟨_, _, _, _, rfl, p1.more (by omega), p2⟩; simp [results, Try.results75, go_sem, e0, e1, e2, e3])
  · (go_at_call 76; refine (cur_among w6 _ S (K + 8 + 2) [-1, 50001] (fun r => True) _ _ (Cw6.out) (by omega) rfl rfl (by decide) (by decide) (by decide)).mono ?_; rintro e w7 ⟨v, vp, rfl, hC, hG⟩; have Cw7 := Lib.hid hC; have Gw7 := Lib.hid hG; have Zw7 := hG.size; clear hC hG)
    have Y7 := Lib.hid (Y6.out.call Cw7.out Gw7.out)
    (clear c0 c1 c2 c3 f0 f1 f2 f3 z0 z1 z2 z3 k0 k1 k2 k3; obtain ⟨⟨c0, c1, c2, c3⟩, ⟨f0, f1, f2, f3⟩, ⟨z0, z1, z2, z3⟩, ⟨k0, k1, k2, k3⟩, _, _, _, _⟩ := Y7.out.cells4)
    have Z : Hid (TB w (w7.setCell ⟨p, 3, none⟩ (.int .i64 v)) g q p 39 S (K + 8 + 2 + 2) [0, 0, 0, 0] [x0, x1, x2, v]) := Y7.out.set_ 3 v
    go_wp2_with fail
    (go_light; obtain ⟨p1, p2, p3⟩ := Z.out.fin4; obtain ⟨e0, e1, e2, e3⟩ := p3.cells4; refine bodyPost_ret (v := .agg #[.int .i64 x0, .int .i64 x1, .int .i64 x2, .int .i64 v]) ?_ rfl ⟨_, _, _, _, rfl, p1.more (by omega), p2⟩; simp [results, Try.results75, go_sem, e0, e1, e2, e3])
  · (go_light; obtain ⟨p1, p2, p3⟩ := Y6.out.fin4; obtain ⟨e0, e1, e2, e3⟩ := p3.cells4; refine bodyPost_ret (v := .agg #[.int .i64 x0, .int .i64 x1, .int .i64 x2, .int .i64 x3]) ?_ rfl ⟨_, _, _, _, rfl, p1.more (by omega), p2⟩; simp [results, Try.results75, go_sem, e0, e1, e2, e3])
end Go.Proofs.Ytobcgcdjoogfnaa
