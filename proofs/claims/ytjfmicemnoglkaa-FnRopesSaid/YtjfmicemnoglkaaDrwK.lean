/- Kinds of ropes that are drawn. -/
import Derived.Test.YtjfmicemnoglkaaDrawB
namespace Go.Proofs.Ytjfmicemnoglkaa
open Go.RowKit
set_option linter.unusedVariables false
set_option linter.unusedSimpArgs false

set_option maxRecDepth 100000 in
set_option maxHeartbeats 4000000 in
theorem cur_ropeKind (w : World) (g : Nat) (S : Src) (K : Nat) (id : Int) (h : Cur w g S K) (hK : K ≤ 800000) :
    Calls Try.prog 135 #[.pointer (some ⟨g, 0, none⟩), .int .i64 id] w (DrewT5 w g S (K + 20)) := by
  have H := Lib.hid h
  have hg := h.lt
  clear h
  go_enter Try.func135, Try.ntmps135
  go_wp2_with fail
  (go_at_call 96; refine (cur_amongA _ _ (by simp) _ S (K) [4, 6, 6, 8] (fun r => True) _ _ (H.out.alloc _) (by omega) rfl rfl (by decide) (by decide) (by decide)).mono ?_; rintro e w1 ⟨x1, x1p, rfl, hC, hG⟩; have Cw1 := Lib.hid hC; have Gw1 := Lib.hid hG; have Zw1 := hG.size; clear hC hG)
  go_wp2_with fail
  (go_at_call 96; refine (cur_among w1 _ S (K + 2) [7, 10, 19, 40] (fun r => True) _ _ (Cw1.out) (by omega) rfl rfl (by decide) (by decide) (by decide)).mono ?_; rintro e w2 ⟨x2, x2p, rfl, hC, hG⟩; have Cw2 := Lib.hid hC; have Gw2 := Lib.hid hG; have Zw2 := hG.size; clear hC hG)
  go_wp2_with fail
  (go_at_call 96; refine (cur_among w2 _ S (K + 2 + 2) [10, 45, 45, 500] (fun r => True) _ _ (Cw2.out) (by omega) rfl rfl (by decide) (by decide) (by decide)).mono ?_; rintro e w3 ⟨x3, x3p, rfl, hC, hG⟩; have Cw3 := Lib.hid hC; have Gw3 := Lib.hid hG; have Zw3 := hG.size; clear hC hG)
  go_wp2_with fail
  (go_at_call 96; refine (cur_among w3 _ S (K + 2 + 2 + 2) [10, 800, 1000, 5000] (fun r => True) _ _ (Cw3.out) (by omega) rfl rfl (by decide) (by decide) (by decide)).mono ?_; rintro e w4 ⟨x4, x4p, rfl, hC, hG⟩; have Cw4 := Lib.hid hC; have Gw4 := Lib.hid hG; have Zw4 := hG.size; clear hC hG)
  have X : Hid (TB w (w4.alloc (.cells #[.int .i64 id, .int .i64 x1, .int .i64 x2, .int .i64 x3, .int .i64 x4] 85)) g w.heap.size w4.heap.size 85 S (K + 8) [0, 0, 0, 0, 0] [id, x1, x2, x3, x4]) := by
    have z1 := Gw1.out.size
    have z2 := Gw2.out.size
    have z3 := Gw3.out.size
    have z4 := Gw4.out.size
    simp at z1
    have hne : some w.heap.size ≠ some g := by intro e; injection e with e; omega
    refine ⟨Cw4.out.alloc _, only_alloc (only_trans (only_trans (only_trans (only_trans (only_alloc (World.grownBy.refl w _) _) Gw1.out) Gw2.out) Gw3.out) Gw4.out) _, ?_, Blk.new _ _ _, hg, Nat.le_refl _, by omega⟩
    exact (((((Blk.new w 85 #[.int .i64 0, .int .i64 0, .int .i64 0, .int .i64 0, .int .i64 0]).grown Gw1.out hne).grown Gw2.out hne).grown Gw3.out hne).grown Gw4.out hne).alloc _
  go_upto_region 2 with fail
  generalize w4.alloc (.cells #[.int .i64 id, .int .i64 x1, .int .i64 x2, .int .i64 x3, .int .i64 x4] 85) = wx at *
  generalize hp : w4.heap.size = p at *
  generalize hq : w.heap.size = q at *
  have HP := Lib.hid hp
  have HQ := Lib.hid hq
  clear hp hq Cw1 Gw1 Cw2 Gw2 Cw3 Gw3 Cw4 Gw4 H
  obtain ⟨⟨c0, c1, c2, c3, c4⟩, ⟨f0, f1, f2, f3, f4⟩, ⟨z0, z1, z2, z3, z4⟩, ⟨k0, k1, k2, k3, k4⟩, hqp, hpq, _, _⟩ := X.out.cells5
  go_wp2_with ((go_at_call 125; (with_reducible refine (cur_pick wx _ S (K + 8) (60) (X.out.cur) (by omega) (by omega) (by omega)).mono ?_); rintro e w6 ⟨r, ⟨r0, r1⟩, rfl, hC, hG⟩; have Cw6 := Lib.hid hC; have Gw6 := Lib.hid hG; have Zw6 := hG.size; clear hC hG); have Y6 := Lib.hid (X.out.call Cw6.out Gw6.out); (clear c0 c1 c2 c3 c4 f0 f1 f2 f3 f4 z0 z1 z2 z3 z4 k0 k1 k2 k3 k4; obtain ⟨⟨c0, c1, c2, c3, c4⟩, ⟨f0, f1, f2, f3, f4⟩, ⟨z0, z1, z2, z3, z4⟩, ⟨k0, k1, k2, k3, k4⟩, _, _, _, _⟩ := Y6.out.cells5))
  · (go_at_call 96; refine (cur_among w6 _ S (K + 8 + 2) [0, 20, 21] (fun r => True) _ _ (Cw6.out) (by omega) rfl rfl (by decide) (by decide) (by decide)).mono ?_; rintro e w7 ⟨v, vp, rfl, hC, hG⟩; have Cw7 := Lib.hid hC; have Gw7 := Lib.hid hG; have Zw7 := hG.size; clear hC hG)
    have Y7 := Lib.hid (Y6.out.call Cw7.out Gw7.out)
    (clear c0 c1 c2 c3 c4 f0 f1 f2 f3 f4 z0 z1 z2 z3 z4 k0 k1 k2 k3 k4; obtain ⟨⟨c0, c1, c2, c3, c4⟩, ⟨f0, f1, f2, f3, f4⟩, ⟨z0, z1, z2, z3, z4⟩, ⟨k0, k1, k2, k3, k4⟩, _, _, _, _⟩ := Y7.out.cells5)
    have Z : Hid (TB w (w7.setCell ⟨p, 0, none⟩ (.int .i64 v)) g q p 85 S (K + 8 + 2 + 2) [0, 0, 0, 0, 0] [v, x1, x2, x3, x4]) := Y7.out.set_ 0 v
    go_wp2_with fail
    (go_light; obtain ⟨p1, p2, p3⟩ := Z.out.fin5; obtain ⟨e0, e1, e2, e3, e4⟩ := p3.cells5; refine bodyPost_ret (v := .agg #[.int .i64 v, .int .i64 x1, .int .i64 x2, .int .i64 x3, .int .i64 x4]) ?_ rfl ⟨_, _, _, _, _, rfl, p1.more (by omega), p2⟩; simp [results, Try.results135, go_sem, e0, e1, e2, e3, e4])
  · (go_at_call 96; refine (cur_among w6 _ S (K + 8 + 2) [3, 9] (fun r => True) _ _ (Cw6.out) (by omega) rfl rfl (by decide) (by decide) (by decide)).mono ?_; rintro e w7 ⟨v, vp, rfl, hC, hG⟩; have Cw7 := Lib.hid hC; have Gw7 := Lib.hid hG; have Zw7 := hG.size; clear hC hG)
    have Y7 := Lib.hid (Y6.out.call Cw7.out Gw7.out)
    (clear c0 c1 c2 c3 c4 f0 f1 f2 f3 f4 z0 z1 z2 z3 z4 k0 k1 k2 k3 k4; obtain ⟨⟨c0, c1, c2, c3, c4⟩, ⟨f0, f1, f2, f3, f4⟩, ⟨z0, z1, z2, z3, z4⟩, ⟨k0, k1, k2, k3, k4⟩, _, _, _, _⟩ := Y7.out.cells5)
    have Z : Hid (TB w (w7.setCell ⟨p, 1, none⟩ (.int .i64 v)) g q p 85 S (K + 8 + 2 + 2) [0, 0, 0, 0, 0] [id, v, x2, x3, x4]) := Y7.out.set_ 1 v
    go_wp2_with fail
    (go_light; obtain ⟨p1, p2, p3⟩ := Z.out.fin5; obtain ⟨e0, e1, e2, e3, e4⟩ := p3.cells5; refine bodyPost_ret (v := .agg #[.int .i64 id, .int .i64 v, .int .i64 x2, .int .i64 x3, .int .i64 x4]) ?_ rfl ⟨_, _, _, _, _, rfl, p1.more (by omega), p2⟩; simp [results, Try.results135, go_sem, e0, e1, e2, e3, e4])
  · (go_at_call 96; refine (cur_among w6 _ S (K + 8 + 2) [6, 41] (fun r => True) _ _ (Cw6.out) (by omega) rfl rfl (by decide) (by decide) (by decide)).mono ?_; rintro e w7 ⟨v, vp, rfl, hC, hG⟩; have Cw7 := Lib.hid hC; have Gw7 := Lib.hid hG; have Zw7 := hG.size; clear hC hG)
    have Y7 := Lib.hid (Y6.out.call Cw7.out Gw7.out)
    (clear c0 c1 c2 c3 c4 f0 f1 f2 f3 f4 z0 z1 z2 z3 z4 k0 k1 k2 k3 k4; obtain ⟨⟨c0, c1, c2, c3, c4⟩, ⟨f0, f1, f2, f3, f4⟩, ⟨z0, z1, z2, z3, z4⟩, ⟨k0, k1, k2, k3, k4⟩, _, _, _, _⟩ := Y7.out.cells5)
    have Z : Hid (TB w (w7.setCell ⟨p, 2, none⟩ (.int .i64 v)) g q p 85 S (K + 8 + 2 + 2) [0, 0, 0, 0, 0] [id, x1, v, x3, x4]) := Y7.out.set_ 2 v
    go_wp2_with fail
    (go_light; obtain ⟨p1, p2, p3⟩ := Z.out.fin5; obtain ⟨e0, e1, e2, e3, e4⟩ := p3.cells5; refine bodyPost_ret (v := .agg #[.int .i64 id, .int .i64 x1, .int .i64 v, .int .i64 x3, .int .i64 x4]) ?_ rfl ⟨_, _, _, _, _, rfl, p1.more (by omega), p2⟩; simp [results, Try.results135, go_sem, e0, e1, e2, e3, e4])
  · (go_at_call 96; refine (cur_among w6 _ S (K + 8 + 2) [9, 501] (fun r => True) _ _ (Cw6.out) (by omega) rfl rfl (by decide) (by decide) (by decide)).mono ?_; rintro e w7 ⟨v, vp, rfl, hC, hG⟩; have Cw7 := Lib.hid hC; have Gw7 := Lib.hid hG; have Zw7 := hG.size; clear hC hG)
    have Y7 := Lib.hid (Y6.out.call Cw7.out Gw7.out)
    (clear c0 c1 c2 c3 c4 f0 f1 f2 f3 f4 z0 z1 z2 z3 z4 k0 k1 k2 k3 k4; obtain ⟨⟨c0, c1, c2, c3, c4⟩, ⟨f0, f1, f2, f3, f4⟩, ⟨z0, z1, z2, z3, z4⟩, ⟨k0, k1, k2, k3, k4⟩, _, _, _, _⟩ := Y7.out.cells5)
    have Z : Hid (TB w (w7.setCell ⟨p, 3, none⟩ (.int .i64 v)) g q p 85 S (K + 8 + 2 + 2) [0, 0, 0, 0, 0] [id, x1, x2, v, x4]) := Y7.out.set_ 3 v
    go_wp2_with fail
    (go_light; obtain ⟨p1, p2, p3⟩ := Z.out.fin5; obtain ⟨e0, e1, e2, e3, e4⟩ := p3.cells5; refine bodyPost_ret (v := .agg #[.int .i64 id, .int .i64 x1, .int .i64 x2, .int .i64 v, .int .i64 x4]) ?_ rfl ⟨_, _, _, _, _, rfl, p1.more (by omega), p2⟩; simp [results, Try.results135, go_sem, e0, e1, e2, e3, e4])
  · (go_at_call 96; refine (cur_among w6 _ S (K + 8 + 2) [9, 5001] (fun r => True) _ _ (Cw6.out) (by omega) rfl rfl (by decide) (by decide) (by decide)).mono ?_; rintro e w7 ⟨v, vp, rfl, hC, hG⟩; have Cw7 := Lib.hid hC; have Gw7 := Lib.hid hG; have Zw7 := hG.size; clear hC hG)
    have Y7 := Lib.hid (Y6.out.call Cw7.out Gw7.out)
    (clear c0 c1 c2 c3 c4 f0 f1 f2 f3 f4 z0 z1 z2 z3 z4 k0 k1 k2 k3 k4; obtain ⟨⟨c0, c1, c2, c3, c4⟩, ⟨f0, f1, f2, f3, f4⟩, ⟨z0, z1, z2, z3, z4⟩, ⟨k0, k1, k2, k3, k4⟩, _, _, _, _⟩ := Y7.out.cells5)
    have Z : Hid (TB w (w7.setCell ⟨p, 4, none⟩ (.int .i64 v)) g q p 85 S (K + 8 + 2 + 2) [0, 0, 0, 0, 0] [id, x1, x2, x3, v]) := Y7.out.set_ 4 v
    go_wp2_with fail
    (go_light; obtain ⟨p1, p2, p3⟩ := Z.out.fin5; obtain ⟨e0, e1, e2, e3, e4⟩ := p3.cells5; refine bodyPost_ret (v := .agg #[.int .i64 id, .int .i64 x1, .int .i64 x2, .int .i64 x3, .int .i64 v]) ?_ rfl ⟨_, _, _, _, _, rfl, p1.more (by omega), p2⟩; simp [results, Try.results135, go_sem, e0, e1, e2, e3, e4])
  · (go_light; obtain ⟨p1, p2, p3⟩ := Y6.out.fin5; obtain ⟨e0, e1, e2, e3, e4⟩ := p3.cells5; refine bodyPost_ret (v := .agg #[.int .i64 id, .int .i64 x1, .int .i64 x2, .int .i64 x3, .int .i64 x4]) ?_ rfl ⟨_, _, _, _, _, rfl, p1.more (by omega), p2⟩; simp [results, Try.results135, go_sem, e0, e1, e2, e3, e4])
end Go.Proofs.Ytjfmicemnoglkaa
