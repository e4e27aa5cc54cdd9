/- More draws for the law on lists of grips. -/
import Derived.Test.YtfnpbmndkbaodaaDrawJ
namespace Go.Proofs.Ytfnpbmndkbaodaa
open Go.RowKit
set_option linter.unusedVariables false
set_option linter.unusedSimpArgs false

def GenRII (w : World) (m : Nat) (e : Ending) (w' : World) : Prop := ∃ A c rows, ∃ a b : Int, e = .returned (.tuple #[.slice A rows.length c, .int .i64 a, .int .i64 b]) ∧ rows.length ≤ m ∧ OwR w' w.heap.size 48 5 (.slice A rows.length c) rows ∧ Below w.heap.size w w'
def GenR (w : World) (m : Nat) (e : Ending) (w' : World) : Prop := ∃ A c rows, e = .returned (.slice A rows.length c) ∧ rows.length ≤ m ∧ OwR w' w.heap.size 48 5 (.slice A rows.length c) rows ∧ Below w.heap.size w w'
def GenT (w : World) (e : Ending) (w' : World) : Prop := ∃ x0 x1 x2 x3 x4 : Int, e = .returned (.agg #[.int .i64 x0, .int .i64 x1, .int .i64 x2, .int .i64 x3, .int .i64 x4]) ∧ Below w.heap.size w w'
set_option maxHeartbeats 1000000 in
theorem draw_OpenGrip (w : World) (S : Src) (h : S.ok w) : Calls Try.prog 45 #[.slice S.A S.n S.c] w (GenRII w 20) := by
  have H := Lib.hid (Cur.new h)
  go_enter Try.func45, Try.ntmps45
  go_wp2_with fail
  refine (cur_grips _ _ S 0 H.out (by omega)).mono ?_
  rintro e w0 ⟨A, c, rows, rfl, hl, ho, hC, hG⟩
  have HO0 := Lib.hid ho
  have HC0 := Lib.hid hC
  have HG0 := Lib.hid hG
  clear ho hC hG
  go_wp2_with fail
  refine (cur_gripOf w0 _ _ S 3000 20 A _ c rows HC0.out (by omega) HO0.out (by simp) (by omega)).mono ?_
  rintro e w1 ⟨cab, hcab, rfl, hC, hG⟩
  have HO := Lib.hid (HO0.out.gen hG (by simp))
  have HC := Lib.hid hC
  have HG := Lib.hid (only_trans HG0.out hG)
  have hg := hC.lt
  clear hC hG hcab
  go_wp2_with ((go_at_call 78; (with_reducible refine (cur_pick _ _ S (3006) (24) (HC.out.alloc _) (by omega) (by omega) (by omega)).mono ?_); rintro e w2 ⟨r, ⟨r0, r1⟩, rfl, hC, hG⟩; have Cw2 := Lib.hid hC; have Gw2 := Lib.hid hG; have Zw2 := hG.size; clear hC hG); obtain ⟨j, rfl⟩ := Int.eq_ofNat_of_zero_le r0)
  refine (cur_amongW w2 _ S (3006 + 2) ([0, 1, 30, 99, -1, 100].take (4 + j / 11)) (fun r => -1 ≤ r ∧ r ≤ 5001) _ _ _ Cw2.out (by omega) (rd_cut (n := 6) Gw2.out hg rfl rfl (by omega)) (by intro b off e; injection e with e; injection e with e1 e2; omega) (by omega) (by omega) (fun y hy => (show ∀ y ∈ ([0, 1, 30, 99, -1, 100] : List Int), -1 ≤ y ∧ y ≤ 5001 from by decide) y (List.mem_of_mem_take hy))).mono ?_
  rintro e w3 ⟨q, hq, rfl, hC, hG⟩
  have HC3 := Lib.hid hC
  have HG3 := Lib.hid (only_trans (only_trans (only_alloc (World.grownBy.refl w1 _) _) Gw2.out) hG)
  clear hC hG
  go_wp2_with fail
  go_ret3
  exact ⟨A, c, rows, cab, q, rfl, hl, (HO.out.gen HG3.out (by simp)).base (by simp), below_gen (only_trans HG.out HG3.out)⟩
set_option maxHeartbeats 1000000 in
theorem draw_AreGrips (w : World) (S : Src) (h : S.ok w) : Calls Try.prog 79 #[.slice S.A S.n S.c] w (GenR w 20) := by
  have H := Lib.hid (Cur.new h)
  go_enter Try.func79, Try.ntmps79
  go_wp2_with fail
  refine (cur_grips _ _ S 0 H.out (by omega)).mono ?_
  rintro e w1 ⟨A, c, rows, rfl, hl, ho, hC, hG⟩
  have HO := Lib.hid ho
  have HG := Lib.hid hG
  clear ho hC hG
  go_wp2_with fail
  go_ret
  exact ⟨A, c, rows, rfl, hl, HO.out.base (by simp), below_gen HG.out⟩
theorem draw_WeakestGrip (w : World) (S : Src) (h : S.ok w) : Calls Try.prog 46 #[.slice S.A S.n S.c] w (GenR w 20) := by
  have H := Lib.hid (draw_AreGrips w S h)
  go_enter Try.func46, Try.ntmps46
  go_wp2_with fail
  refine H.out.mono ?_
  rintro e w1 ⟨A, c, rows, rfl, hl, ho, hb⟩
  have HO := Lib.hid ho
  have HB := Lib.hid hb
  clear ho hb
  go_wp2_with fail
  go_ret
  exact ⟨A, c, rows, rfl, hl, HO.out, HB.out⟩
set_option maxHeartbeats 1000000 in
theorem draw_IsGrip (w : World) (S : Src) (h : S.ok w) : Calls Try.prog 47 #[.slice S.A S.n S.c] w (GenT w) := by
  have H := Lib.hid (gen_start5 w S h)
  clear h
  go_enter Try.func47, Try.ntmps47
  go_wp2_with fail
  (go_at_call 77; refine (cur_amongA _ _ (by simp) _ S (0) [1, 42, 99] (fun r => 1 ≤ r ∧ r ≤ 99) _ _ (H.out.1) (by omega) rfl rfl (by decide) (by decide) (by decide)).mono ?_; rintro e w1 ⟨v, vp, rfl, hC, hG⟩; have Cw1 := Lib.hid hC; have Gw1 := Lib.hid hG; have Zw1 := hG.size; clear hC hG)
  go_wp2_with fail
  refine (cur_grip w1 _ S 2 _ Cw1.out (by omega)).mono ?_
  rintro e w2 ⟨x0, x1, x2, x3, x4, rfl, hC, hG⟩
  have G3 := Lib.hid (only_trans Gw1.out hG)
  clear hC hG
  have QB := Lib.hid (H.out.2.1.grown G3.out (by intro e; injection e with e; omega))
  obtain ⟨k0, k1, k2, k3, k4⟩ := QB.out.cells5
  obtain ⟨f0, f1, f2, f3, f4⟩ := QB.out.frozen5
  go_wp2_with fail
  go_light
  obtain ⟨p1, p2⟩ := box_put5 (x0 := .int .i64 x0) (x1 := .int .i64 x1) (x2 := .int .i64 x2) (x3 := .int .i64 x3) (x4 := .int .i64 x4) (below_gen2 H.out.2.2 G3.out (Nat.le_succ _)) (Nat.le_refl _) QB.out
  obtain ⟨e0, e1, e2, e3, e4⟩ := p2.cells5
  refine bodyPost_ret (v := .agg #[.int .i64 x0, .int .i64 x1, .int .i64 x2, .int .i64 x3, .int .i64 x4]) ?_ rfl ⟨x0, x1, x2, x3, x4, rfl, p1⟩
  simp [results, Try.results47, go_sem, e0, e1, e2, e3, e4]
end Go.Proofs.Ytfnpbmndkbaodaa
