/- Tickets that are drawn. -/
import Derived.Test.YtobcgcdjoogfnaaDrawB
import Derived.Deep.CutRange
import Derived.Deep.CutBlock
namespace Go.Proofs.Ytobcgcdjoogfnaa
open Go.RowKit
set_option linter.unusedVariables false
set_option linter.unusedSimpArgs false

set_option maxRecDepth 100000 in
set_option maxHeartbeats 4000000 in
theorem cur_ticket (w : World) (g : Nat) (S : Src) (K : Nat) (number : Int) (h : Cur w g S K) (hK : K ≤ 800000) :
    Calls Try.prog 82 #[.pointer (some ⟨g, 0, none⟩), .int .i64 number] w (DrewT5 w g S (K + 100)) := by
  have H := Lib.hid h
  have hg := h.lt
  clear h
  go_enter Try.func82, Try.ntmps82
  go_wp2_with fail
  (go_at_call 77; (with_reducible refine (cur_pick _ _ S (K) (4) (H.out.alloc _) (by omega) (by omega) (by omega)).mono ?_); rintro e w1 ⟨kind, ⟨kind0, kind1⟩, rfl, hC, hG⟩; have Cw1 := Lib.hid hC; have Gw1 := Lib.hid hG; have Zw1 := hG.size; clear hC hG)
  go_wp2_with fail
  (go_at_call 76; refine (cur_among w1 _ S (K + 2) [0, 10, 10, 11, 400, 999] (fun r => 0 ≤ r ∧ r ≤ 999) _ _ (Cw1.out) (by omega) rfl rfl (by decide) (by decide) (by decide)).mono ?_; rintro e w2 ⟨day, dayp, rfl, hC, hG⟩; have Cw2 := Lib.hid hC; have Gw2 := Lib.hid hG; have Zw2 := hG.size; clear hC hG)
  have X : Hid (TB w (w2.alloc (.cells #[.int .i64 number, .int .i64 kind, .int .i64 day, .int .i64 0, .int .i64 0] 25)) g w.heap.size w2.heap.size 25 S (K + 4) [0, 0, 0, 0, 0] [number, kind, day, 0, 0]) := by
    have z1 := Gw1.out.size
    have z2 := Gw2.out.size
    simp at z1
    refine ⟨Cw2.out.alloc _, only_alloc (only_trans (only_trans (only_alloc (World.grownBy.refl w _) _) Gw1.out) Gw2.out) _, ?_, Blk.new _ _ _, hg, Nat.le_refl _, by omega⟩
    exact (((Blk.new w 25 #[.int .i64 0, .int .i64 0, .int .i64 0, .int .i64 0, .int .i64 0]).grown Gw1.out (by intro e; injection e with e; omega)).grown Gw2.out (by intro e; injection e with e; omega)).alloc _
  go_upto_region 2 with fail
  generalize w2.alloc (.cells #[.int .i64 number, .int .i64 kind, .int .i64 day, .int .i64 0, .int .i64 0] 25) = wx at *
  generalize hp : w2.heap.size = p at *
  generalize hq : w.heap.size = q at *
  have HP := Lib.hid hp
  have HQ := Lib.hid hq
  clear hp hq
  obtain ⟨⟨c0, c1, c2, c3, c4⟩, ⟨f0, f1, f2, f3, f4⟩, ⟨z0, z1, z2, z3, z4⟩, ⟨k0, k1, k2, k3, k4⟩, hqp, hpq, _, _⟩ := X.out.cells5
  go_upto_block 0 with fail
  go_cut [15, 32, 42] (fun s15 s32 s42 wy => ∃ u d : Int, Hid (TB w wy g q p 25 S (K + 20) [0, 0, 0, 0, 0] [number, kind, day, u, d]))
  case first =>
    have hk : kind = 0 ∨ kind = 1 ∨ kind = 2 ∨ kind = 3 := by omega
    clear kind0 kind1 Cw1 Gw1 Cw2 Gw2 H
    rcases hk with rfl | rfl | rfl | rfl
    · go_wp2_with (first | ((go_at_call 77; (with_reducible refine (cur_pick wx _ S (K + 4) (2) (X.out.cur) (by omega) (by omega) (by omega)).mono ?_); rintro e w3 ⟨u, ⟨u0, u1⟩, rfl, hC, hG⟩; have Cw3 := Lib.hid hC; have Gw3 := Lib.hid hG; have Zw3 := hG.size; clear hC hG); have X3 := Lib.hid (X.out.call Cw3.out Gw3.out); (clear c0 c1 c2 c3 c4 f0 f1 f2 f3 f4 z0 z1 z2 z3 z4 k0 k1 k2 k3 k4; obtain ⟨⟨c0, c1, c2, c3, c4⟩, ⟨f0, f1, f2, f3, f4⟩, ⟨z0, z1, z2, z3, z4⟩, ⟨k0, k1, k2, k3, k4⟩, _, _, _, _⟩ := X3.out.cells5); have X4 : Hid (TB w (w3.setCell ⟨p, 3, none⟩ (.int .i64 u)) g q p 25 S (K + 4 + 2) [0, 0, 0, 0, 0] [number, 0, day, u, 0]) := X3.out.set_ 3 u) | ((go_at_call 77; (with_reducible refine (cur_pick _ _ S (K + 4 + 2) (2) (X4.out.cur) (by omega) (by omega) (by omega)).mono ?_); rintro e w5 ⟨d, ⟨d0, d1⟩, rfl, hC, hG⟩; have Cw5 := Lib.hid hC; have Gw5 := Lib.hid hG; have Zw5 := hG.size; clear hC hG); have X5 := Lib.hid (X4.out.call Cw5.out Gw5.out); (clear c0 c1 c2 c3 c4 f0 f1 f2 f3 f4 z0 z1 z2 z3 z4 k0 k1 k2 k3 k4; obtain ⟨⟨c0, c1, c2, c3, c4⟩, ⟨f0, f1, f2, f3, f4⟩, ⟨z0, z1, z2, z3, z4⟩, ⟨k0, k1, k2, k3, k4⟩, _, _, _, _⟩ := X5.out.cells5)))
      · go_meet
        exact ⟨u, d, (show TB w (w5.setCell ⟨p, 4, none⟩ (.int .i64 d)) g q p 25 S (K + 4 + 2 + 2) [0, 0, 0, 0, 0] [number, 0, day, u, d] from X5.out.set_ 4 d).more (by omega)⟩
      · go_meet
        exact ⟨u, 0, X4.out.more (by omega)⟩
    · go_wp2_with (first | ((go_at_call 77; (with_reducible refine (cur_pick wx _ S (K + 4) (2) (X.out.cur) (by omega) (by omega) (by omega)).mono ?_); rintro e w3 ⟨u, ⟨u0, u1⟩, rfl, hC, hG⟩; have Cw3 := Lib.hid hC; have Gw3 := Lib.hid hG; have Zw3 := hG.size; clear hC hG); have X3 := Lib.hid (X.out.call Cw3.out Gw3.out); (clear c0 c1 c2 c3 c4 f0 f1 f2 f3 f4 z0 z1 z2 z3 z4 k0 k1 k2 k3 k4; obtain ⟨⟨c0, c1, c2, c3, c4⟩, ⟨f0, f1, f2, f3, f4⟩, ⟨z0, z1, z2, z3, z4⟩, ⟨k0, k1, k2, k3, k4⟩, _, _, _, _⟩ := X3.out.cells5); have X4 : Hid (TB w (w3.setCell ⟨p, 3, none⟩ (.int .i64 u)) g q p 25 S (K + 4 + 2) [0, 0, 0, 0, 0] [number, 1, day, u, 0]) := X3.out.set_ 3 u) | ((go_at_call 77; (with_reducible refine (cur_pick _ _ S (K + 4 + 2) (2) (X4.out.cur) (by omega) (by omega) (by omega)).mono ?_); rintro e w5 ⟨d, ⟨d0, d1⟩, rfl, hC, hG⟩; have Cw5 := Lib.hid hC; have Gw5 := Lib.hid hG; have Zw5 := hG.size; clear hC hG); have X5 := Lib.hid (X4.out.call Cw5.out Gw5.out); (clear c0 c1 c2 c3 c4 f0 f1 f2 f3 f4 z0 z1 z2 z3 z4 k0 k1 k2 k3 k4; obtain ⟨⟨c0, c1, c2, c3, c4⟩, ⟨f0, f1, f2, f3, f4⟩, ⟨z0, z1, z2, z3, z4⟩, ⟨k0, k1, k2, k3, k4⟩, _, _, _, _⟩ := X5.out.cells5)))
      go_meet
      exact ⟨u, d, (show TB w (w5.setCell ⟨p, 4, none⟩ (.int .i64 d)) g q p 25 S (K + 4 + 2 + 2) [0, 0, 0, 0, 0] [number, 1, day, u, d] from X5.out.set_ 4 d).more (by omega)⟩
    · go_wp2_with fail
      (go_at_call 76; refine (cur_among wx _ S (K + 4) [0, 3, 50] (fun r => 0 ≤ r ∧ r ≤ 50) _ _ (X.out.cur) (by omega) rfl rfl (by decide) (by decide) (by decide)).mono ?_; rintro e w3 ⟨u, up, rfl, hC, hG⟩; have Cw3 := Lib.hid hC; have Gw3 := Lib.hid hG; have Zw3 := hG.size; clear hC hG)
      have X3 := Lib.hid (X.out.call Cw3.out Gw3.out)
      (clear c0 c1 c2 c3 c4 f0 f1 f2 f3 f4 z0 z1 z2 z3 z4 k0 k1 k2 k3 k4; obtain ⟨⟨c0, c1, c2, c3, c4⟩, ⟨f0, f1, f2, f3, f4⟩, ⟨z0, z1, z2, z3, z4⟩, ⟨k0, k1, k2, k3, k4⟩, _, _, _, _⟩ := X3.out.cells5)
      have X4 : Hid (TB w (w3.setCell ⟨p, 3, none⟩ (.int .i64 u)) g q p 25 S (K + 4 + 2) [0, 0, 0, 0, 0] [number, 2, day, u, 0]) := X3.out.set_ 3 u
      go_wp2_with fail
      (go_at_call 76; refine (cur_amongA _ _ (by simp) _ S (K + 4 + 2) [0, 2, 50] (fun r => 0 ≤ r ∧ r ≤ 50) _ _ (X4.out.cur) (by omega) rfl rfl (by decide) (by decide) (by decide)).mono ?_; rintro e w5 ⟨d, dp, rfl, hC, hG⟩; have Cw5 := Lib.hid hC; have Gw5 := Lib.hid hG; have Zw5 := hG.size; clear hC hG)
      have X5 := Lib.hid (X4.out.call Cw5.out Gw5.out)
      (clear c0 c1 c2 c3 c4 f0 f1 f2 f3 f4 z0 z1 z2 z3 z4 k0 k1 k2 k3 k4; obtain ⟨⟨c0, c1, c2, c3, c4⟩, ⟨f0, f1, f2, f3, f4⟩, ⟨z0, z1, z2, z3, z4⟩, ⟨k0, k1, k2, k3, k4⟩, _, _, _, _⟩ := X5.out.cells5)
      go_wp2_with fail
      go_meet
      exact ⟨u, d, (show TB w (w5.setCell ⟨p, 4, none⟩ (.int .i64 d)) g q p 25 S (K + 4 + 2 + 2) [0, 0, 0, 0, 0] [number, 2, day, u, d] from X5.out.set_ 4 d).more (by omega)⟩
    · go_wp2_with fail
      (go_at_call 76; refine (cur_among wx _ S (K + 4) [0, 4, 5] (fun r => 0 ≤ r ∧ r ≤ 50) _ _ (X.out.cur) (by omega) rfl rfl (by decide) (by decide) (by decide)).mono ?_; rintro e w3 ⟨u, up, rfl, hC, hG⟩; have Cw3 := Lib.hid hC; have Gw3 := Lib.hid hG; have Zw3 := hG.size; clear hC hG)
      have X3 := Lib.hid (X.out.call Cw3.out Gw3.out)
      (clear c0 c1 c2 c3 c4 f0 f1 f2 f3 f4 z0 z1 z2 z3 z4 k0 k1 k2 k3 k4; obtain ⟨⟨c0, c1, c2, c3, c4⟩, ⟨f0, f1, f2, f3, f4⟩, ⟨z0, z1, z2, z3, z4⟩, ⟨k0, k1, k2, k3, k4⟩, _, _, _, _⟩ := X3.out.cells5)
      have X4 : Hid (TB w (w3.setCell ⟨p, 3, none⟩ (.int .i64 u)) g q p 25 S (K + 4 + 2) [0, 0, 0, 0, 0] [number, 3, day, u, 0]) := X3.out.set_ 3 u
      go_wp2_with fail
      (go_at_call 76; refine (cur_amongA _ _ (by simp) _ S (K + 4 + 2) [0, 4, 5] (fun r => 0 ≤ r ∧ r ≤ 50) _ _ (X4.out.cur) (by omega) rfl rfl (by decide) (by decide) (by decide)).mono ?_; rintro e w5 ⟨d, dp, rfl, hC, hG⟩; have Cw5 := Lib.hid hC; have Gw5 := Lib.hid hG; have Zw5 := hG.size; clear hC hG)
      have X5 := Lib.hid (X4.out.call Cw5.out Gw5.out)
      (clear c0 c1 c2 c3 c4 f0 f1 f2 f3 f4 z0 z1 z2 z3 z4 k0 k1 k2 k3 k4; obtain ⟨⟨c0, c1, c2, c3, c4⟩, ⟨f0, f1, f2, f3, f4⟩, ⟨z0, z1, z2, z3, z4⟩, ⟨k0, k1, k2, k3, k4⟩, _, _, _, _⟩ := X5.out.cells5)
      go_wp2_with fail
      go_meet
      exact ⟨u, d, (show TB w (w5.setCell ⟨p, 4, none⟩ (.int .i64 d)) g q p 25 S (K + 4 + 2 + 2) [0, 0, 0, 0, 0] [number, 3, day, u, d] from X5.out.set_ 4 d).more (by omega)⟩
  case rest =>
    obtain ⟨u, d, Y⟩ := hcut
    clear kind0 kind1 Cw1 Gw1 Cw2 Gw2 H
    (clear c0 c1 c2 c3 c4 f0 f1 f2 f3 f4 z0 z1 z2 z3 z4 k0 k1 k2 k3 k4; obtain ⟨⟨c0, c1, c2, c3, c4⟩, ⟨f0, f1, f2, f3, f4⟩, ⟨z0, z1, z2, z3, z4⟩, ⟨k0, k1, k2, k3, k4⟩, _, _, _, _⟩ := Y.out.cells5)
    go_wp2_with ((go_at_call 77; (with_reducible refine (cur_pick wc _ S (K + 20) (60) (Y.out.cur) (by omega) (by omega) (by omega)).mono ?_); rintro e w6 ⟨r, ⟨r0, r1⟩, rfl, hC, hG⟩; have Cw6 := Lib.hid hC; have Gw6 := Lib.hid hG; have Zw6 := hG.size; clear hC hG); have Y6 := Lib.hid (Y.out.call Cw6.out Gw6.out); (clear c0 c1 c2 c3 c4 f0 f1 f2 f3 f4 z0 z1 z2 z3 z4 k0 k1 k2 k3 k4; obtain ⟨⟨c0, c1, c2, c3, c4⟩, ⟨f0, f1, f2, f3, f4⟩, ⟨z0, z1, z2, z3, z4⟩, ⟨k0, k1, k2, k3, k4⟩, _, _, _, _⟩ := Y6.out.cells5))
    · (go_at_call 76; refine (cur_among w6 _ S (K + 20 + 2) [0, 9999, 10000] (fun r => -1 ≤ r ∧ r ≤ 10000) _ _ (Cw6.out) (by omega) rfl rfl (by decide) (by decide) (by decide)).mono ?_; rintro e w7 ⟨v, vp, rfl, hC, hG⟩; have Cw7 := Lib.hid hC; have Gw7 := Lib.hid hG; have Zw7 := hG.size; clear hC hG)
      have Y7 := Lib.hid (Y6.out.call Cw7.out Gw7.out)
      (clear c0 c1 c2 c3 c4 f0 f1 f2 f3 f4 z0 z1 z2 z3 z4 k0 k1 k2 k3 k4; obtain ⟨⟨c0, c1, c2, c3, c4⟩, ⟨f0, f1, f2, f3, f4⟩, ⟨z0, z1, z2, z3, z4⟩, ⟨k0, k1, k2, k3, k4⟩, _, _, _, _⟩ := Y7.out.cells5)
      have Z : Hid (TB w (w7.setCell ⟨p, 0, none⟩ (.int .i64 v)) g q p 25 S (K + 20 + 2 + 2) [0, 0, 0, 0, 0] [v, kind, day, u, d]) := Y7.out.set_ 0 v
      go_wp2_with fail
      (go_light; obtain ⟨p1, p2, p3⟩ := Z.out.fin5; obtain ⟨e0, e1, e2, e3, e4⟩ := p3.cells5; refine bodyPost_ret (v := .agg #[.int .i64 v, .int .i64 kind, .int .i64 day, .int .i64 u, .int .i64 d]) ?_ rfl ⟨_, _, _, _, _, rfl, p1.more (by omega), p2⟩; simp [results, Try.results82, go_sem, e0, e1, e2, e3, e4])
    · (go_at_call 76; refine (cur_among w6 _ S (K + 20 + 2) [-1, 4] (fun r => -1 ≤ r ∧ r ≤ 10000) _ _ (Cw6.out) (by omega) rfl rfl (by decide) (by decide) (by decide)).mono ?_; rintro e w7 ⟨v, vp, rfl, hC, hG⟩; have Cw7 := Lib.hid hC; have Gw7 := Lib.hid hG; have Zw7 := hG.size; clear hC hG)
      have Y7 := Lib.hid (Y6.out.call Cw7.out Gw7.out)
      (clear c0 c1 c2 c3 c4 f0 f1 f2 f3 f4 z0 z1 z2 z3 z4 k0 k1 k2 k3 k4; obtain ⟨⟨c0, c1, c2, c3, c4⟩, ⟨f0, f1, f2, f3, f4⟩, ⟨z0, z1, z2, z3, z4⟩, ⟨k0, k1, k2, k3, k4⟩, _, _, _, _⟩ := Y7.out.cells5)
      have Z : Hid (TB w (w7.setCell ⟨p, 1, none⟩ (.int .i64 v)) g q p 25 S (K + 20 + 2 + 2) [0, 0, 0, 0, 0] [number, v, day, u, d]) := Y7.out.set_ 1 v
      go_wp2_with fail
      (go_light; obtain ⟨p1, p2, p3⟩ := Z.out.fin5; obtain ⟨e0, e1, e2, e3, e4⟩ := p3.cells5; refine bodyPost_ret (v := .agg #[.int .i64 number, .int .i64 v, .int .i64 day, .int .i64 u, .int .i64 d]) ?_ rfl ⟨_, _, _, _, _, rfl, p1.more (by omega), p2⟩; simp [results, Try.results82, go_sem, e0, e1, e2, e3, e4])
    · (go_at_call 76; refine (cur_among w6 _ S (K + 20 + 2) [-1, 1000] (fun r => -1 ≤ r ∧ r ≤ 10000) _ _ (Cw6.out) (by omega) rfl rfl (by decide) (by decide) (by decide)).mono ?_; rintro e w7 ⟨v, vp, rfl, hC, hG⟩; have Cw7 := Lib.hid hC; have Gw7 := Lib.hid hG; have Zw7 := hG.size; clear hC hG)
      have Y7 := Lib.hid (Y6.out.call Cw7.out Gw7.out)
      (clear c0 c1 c2 c3 c4 f0 f1 f2 f3 f4 z0 z1 z2 z3 z4 k0 k1 k2 k3 k4; obtain ⟨⟨c0, c1, c2, c3, c4⟩, ⟨f0, f1, f2, f3, f4⟩, ⟨z0, z1, z2, z3, z4⟩, ⟨k0, k1, k2, k3, k4⟩, _, _, _, _⟩ := Y7.out.cells5)
      have Z : Hid (TB w (w7.setCell ⟨p, 2, none⟩ (.int .i64 v)) g q p 25 S (K + 20 + 2 + 2) [0, 0, 0, 0, 0] [number, kind, v, u, d]) := Y7.out.set_ 2 v
      go_wp2_with fail
      (go_light; obtain ⟨p1, p2, p3⟩ := Z.out.fin5; obtain ⟨e0, e1, e2, e3, e4⟩ := p3.cells5; refine bodyPost_ret (v := .agg #[.int .i64 number, .int .i64 kind, .int .i64 v, .int .i64 u, .int .i64 d]) ?_ rfl ⟨_, _, _, _, _, rfl, p1.more (by omega), p2⟩; simp [results, Try.results82, go_sem, e0, e1, e2, e3, e4])
    · (go_at_call 76; refine (cur_among w6 _ S (K + 20 + 2) [-1, 2, 6, 51] (fun r => -1 ≤ r ∧ r ≤ 10000) _ _ (Cw6.out) (by omega) rfl rfl (by decide) (by decide) (by decide)).mono ?_; rintro e w7 ⟨v, vp, rfl, hC, hG⟩; have Cw7 := Lib.hid hC; have Gw7 := Lib.hid hG; have Zw7 := hG.size; clear hC hG)
      have Y7 := Lib.hid (Y6.out.call Cw7.out Gw7.out)
      (clear c0 c1 c2 c3 c4 f0 f1 f2 f3 f4 z0 z1 z2 z3 z4 k0 k1 k2 k3 k4; obtain ⟨⟨c0, c1, c2, c3, c4⟩, ⟨f0, f1, f2, f3, f4⟩, ⟨z0, z1, z2, z3, z4⟩, ⟨k0, k1, k2, k3, k4⟩, _, _, _, _⟩ := Y7.out.cells5)
      have Z : Hid (TB w (w7.setCell ⟨p, 3, none⟩ (.int .i64 v)) g q p 25 S (K + 20 + 2 + 2) [0, 0, 0, 0, 0] [number, kind, day, v, d]) := Y7.out.set_ 3 v
      go_wp2_with fail
      (go_light; obtain ⟨p1, p2, p3⟩ := Z.out.fin5; obtain ⟨e0, e1, e2, e3, e4⟩ := p3.cells5; refine bodyPost_ret (v := .agg #[.int .i64 number, .int .i64 kind, .int .i64 day, .int .i64 v, .int .i64 d]) ?_ rfl ⟨_, _, _, _, _, rfl, p1.more (by omega), p2⟩; simp [results, Try.results82, go_sem, e0, e1, e2, e3, e4])
    · (go_at_call 76; refine (cur_among w6 _ S (K + 20 + 2) [-1, 2, 6, 51] (fun r => -1 ≤ r ∧ r ≤ 10000) _ _ (Cw6.out) (by omega) rfl rfl (by decide) (by decide) (by decide)).mono ?_; rintro e w7 ⟨v, vp, rfl, hC, hG⟩; have Cw7 := Lib.hid hC; have Gw7 := Lib.hid hG; have Zw7 := hG.size; clear hC hG)
      have Y7 := Lib.hid (Y6.out.call Cw7.out Gw7.out)
      (clear c0 c1 c2 c3 c4 f0 f1 f2 f3 f4 z0 z1 z2 z3 z4 k0 k1 k2 k3 k4; obtain ⟨⟨c0, c1, c2, c3, c4⟩, ⟨f0, f1, f2, f3, f4⟩, ⟨z0, z1, z2, z3, z4⟩, ⟨k0, k1, k2, k3, k4⟩, _, _, _, _⟩ := Y7.out.cells5)
      have Z : Hid (TB w (w7.setCell ⟨p, 4, none⟩ (.int .i64 v)) g q p 25 S (K + 20 + 2 + 2) [0, 0, 0, 0, 0] [number, kind, day, u, v]) := Y7.out.set_ 4 v
      go_wp2_with fail
      (go_light; obtain ⟨p1, p2, p3⟩ := Z.out.fin5; obtain ⟨e0, e1, e2, e3, e4⟩ := p3.cells5; refine bodyPost_ret (v := .agg #[.int .i64 number, .int .i64 kind, .int .i64 day, .int .i64 u, .int .i64 v]) ?_ rfl ⟨_, _, _, _, _, rfl, p1.more (by omega), p2⟩; simp [results, Try.results82, go_sem, e0, e1, e2, e3, e4])
    · (go_light; obtain ⟨p1, p2, p3⟩ := Y6.out.fin5; obtain ⟨e0, e1, e2, e3, e4⟩ := p3.cells5; refine bodyPost_ret (v := .agg #[.int .i64 number, .int .i64 kind, .int .i64 day, .int .i64 u, .int .i64 d]) ?_ rfl ⟨_, _, _, _, _, rfl, p1.more (by omega), p2⟩; simp [results, Try.results82, go_sem, e0, e1, e2, e3, e4])
end Go.Proofs.Ytobcgcdjoogfnaa
