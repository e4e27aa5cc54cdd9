/- What the law on safety draws. -/
import Derived.Test.YtjfmicemnoglkaaSupG
namespace Go.Proofs.Ytjfmicemnoglkaa
open Go.RowKit
set_option linter.unusedVariables false
set_option linter.unusedSimpArgs false

def GenLCI (w : World) (e : Ending) (w' : World) : Prop := ∃ A c rows, ∃ x y z a : Int, e = .returned (.tuple #[.slice A rows.length c, .agg #[.int .i64 x, .int .i64 y, .int .i64 z], .int .i64 a]) ∧ rows.length ≤ 10 ∧ OwL w' w.heap.size (.slice A rows.length c) rows ∧ Below w.heap.size w w'
def GenLCII (w : World) (e : Ending) (w' : World) : Prop := ∃ A c rows, ∃ x y z a b : Int, e = .returned (.tuple #[.slice A rows.length c, .agg #[.int .i64 x, .int .i64 y, .int .i64 z], .int .i64 a, .int .i64 b]) ∧ rows.length ≤ 10 ∧ OwL w' w.heap.size (.slice A rows.length c) rows ∧ Below w.heap.size w w'
set_option maxHeartbeats 1000000 in
theorem draw_OverTension (w : World) (S : Src) (h : S.ok w) : Calls Try.prog 67 #[.slice S.A S.n S.c] w (GenLCI w) := by
  have H := Lib.hid (gen_start3 w S 70 h)
  clear h
  go_enter Try.func67, Try.ntmps67
  (go_wp2_with fail; refine (cur_line _ _ S 0 H.out.1 (by omega)).mono ?_; rintro e w1 ⟨A, c, rows, rfl, hl, ho, hC, hG⟩; have HO := Lib.hid ho; have HC := Lib.hid hC; have HG := Lib.hid hG; clear ho hC hG)
  go_wp2_with fail
  refine (cur_loadCase w1 _ S 300 HC.out (by omega)).mono ?_
  rintro e w2 ⟨x, y, z, rfl, hC, hG⟩
  have Cw2 := Lib.hid hC
  have Gw2 := Lib.hid hG
  clear hC hG
  go_wp2_with fail
  (go_at_call 96; refine (cur_among w2 _ S (300 + 10) [0, 5000, 20000, 100000, 1000000, -1, 1000001] (fun r => True) _ _ (Cw2.out) (by omega) rfl rfl (by decide) (by decide) (by decide)).mono ?_; rintro e w3 ⟨a, ap, rfl, hC, hG⟩; have Cw3 := Lib.hid hC; have Gw3 := Lib.hid hG; have Zw3 := hG.size; clear hC hG)
  have G3 := Lib.hid (only_trans HG.out (only_trans Gw2.out Gw3.out))
  have HO3 := Lib.hid (HO.out.gen (only_trans Gw2.out Gw3.out) (by simp))
  have QB := Lib.hid (H.out.2.1.grown G3.out (by intro e; injection e with e; omega))
  obtain ⟨k0, k1, k2⟩ := QB.out.cells3
  have f0 := QB.out.frozen 0
  have f1 := QB.out.frozen 1
  have f2 := QB.out.frozen 2
  go_wp2_with fail
  go_light
  obtain ⟨p1, p2⟩ := box_put3 (x0 := .int .i64 x) (x1 := .int .i64 y) (x2 := .int .i64 z) (below_gen2 H.out.2.2 G3.out (Nat.le_succ _)) (Nat.le_refl _) QB.out
  obtain ⟨e0, e1, e2⟩ := p2.cells3
  refine bodyPost_ret (v := .tuple #[.slice A rows.length c, .agg #[.int .i64 x, .int .i64 y, .int .i64 z], .int .i64 a]) ?_ rfl ⟨A, c, rows, x, y, z, a, rfl, hl, (HO3.out.far3 (by simp; omega) _ _ _).base (by simp; omega), p1⟩
  simp [results, Try.results67, go_sem, e0, e1, e2]
set_option maxHeartbeats 1000000 in
theorem draw_PressAt (w : World) (S : Src) (h : S.ok w) : Calls Try.prog 75 #[.slice S.A S.n S.c] w (GenLCI w) := by
  have H := Lib.hid (gen_start3 w S 70 h)
  clear h
  go_enter Try.func75, Try.ntmps75
  (go_wp2_with fail; refine (cur_line _ _ S 0 H.out.1 (by omega)).mono ?_; rintro e w1 ⟨A, c, rows, rfl, hl, ho, hC, hG⟩; have HO := Lib.hid ho; have HC := Lib.hid hC; have HG := Lib.hid hG; clear ho hC hG)
  go_wp2_with fail
  refine (cur_loadCase w1 _ S 300 HC.out (by omega)).mono ?_
  rintro e w2 ⟨x, y, z, rfl, hC, hG⟩
  have Cw2 := Lib.hid hC
  have Gw2 := Lib.hid hG
  clear hC hG
  go_wp2_with fail
  (go_at_call 125; (with_reducible refine (cur_pick w2 _ S (300 + 10) ((rows.length : Int) + 1) (Cw2.out) (by omega) (by omega) (by omega)).mono ?_); rintro e w3 ⟨k, ⟨k0, k1⟩, rfl, hC, hG⟩; have Cw3 := Lib.hid hC; have Gw3 := Lib.hid hG; have Zw3 := hG.size; clear hC hG)
  go_wp2_with fail
  (go_at_call 125; (with_reducible refine (cur_pick w3 _ S (300 + 10 + 2) (9) (Cw3.out) (by omega) (by omega) (by omega)).mono ?_); rintro e w4 ⟨s, ⟨s0, s1⟩, rfl, hC, hG⟩; have Cw4 := Lib.hid hC; have Gw4 := Lib.hid hG; have Zw4 := hG.size; clear hC hG)
  have G3 := Lib.hid (only_trans HG.out (only_trans Gw2.out (only_trans Gw3.out Gw4.out)))
  have HO3 := Lib.hid (HO.out.gen (only_trans Gw2.out (only_trans Gw3.out Gw4.out)) (by simp))
  have QB := Lib.hid (H.out.2.1.grown G3.out (by intro e; injection e with e; omega))
  obtain ⟨k0, k1, k2⟩ := QB.out.cells3
  have f0 := QB.out.frozen 0
  have f1 := QB.out.frozen 1
  have f2 := QB.out.frozen 2
  go_wp2_with fail
  go_light
  obtain ⟨p1, p2⟩ := box_put3 (x0 := .int .i64 x) (x1 := .int .i64 y) (x2 := .int .i64 z) (below_gen2 H.out.2.2 G3.out (Nat.le_succ _)) (Nat.le_refl _) QB.out
  obtain ⟨e0, e1, e2⟩ := p2.cells3
  refine bodyPost_ret (v := .tuple #[.slice A rows.length c, .agg #[.int .i64 x, .int .i64 y, .int .i64 z], .int .i64 (k - s / 8)]) ?_ rfl ⟨A, c, rows, x, y, z, k - s / 8, rfl, hl, (HO3.out.far3 (by simp; omega) _ _ _).base (by simp; omega), p1⟩
  simp [results, Try.results75, go_sem, e0, e1, e2]
set_option maxHeartbeats 1000000 in
theorem draw_SafetyAt (w : World) (S : Src) (h : S.ok w) : Calls Try.prog 70 #[.slice S.A S.n S.c] w (GenLCII w) := by
  have H := Lib.hid (gen_start3 w S 70 h)
  clear h
  go_enter Try.func70, Try.ntmps70
  (go_wp2_with fail; refine (cur_line _ _ S 0 H.out.1 (by omega)).mono ?_; rintro e w1 ⟨A, c, rows, rfl, hl, ho, hC, hG⟩; have HO := Lib.hid ho; have HC := Lib.hid hC; have HG := Lib.hid hG; clear ho hC hG)
  go_wp2_with fail
  refine (cur_loadCase w1 _ S 300 HC.out (by omega)).mono ?_
  rintro e w2 ⟨x, y, z, rfl, hC, hG⟩
  have Cw2 := Lib.hid hC
  have Gw2 := Lib.hid hG
  clear hC hG
  go_wp2_with fail
  (go_at_call 125; (with_reducible refine (cur_pick w2 _ S (300 + 10) ((rows.length : Int) + 1) (Cw2.out) (by omega) (by omega) (by omega)).mono ?_); rintro e w3 ⟨k, ⟨k0, k1⟩, rfl, hC, hG⟩; have Cw3 := Lib.hid hC; have Gw3 := Lib.hid hG; have Zw3 := hG.size; clear hC hG)
  go_wp2_with fail
  (go_at_call 125; (with_reducible refine (cur_pick w3 _ S (300 + 10 + 2) (9) (Cw3.out) (by omega) (by omega) (by omega)).mono ?_); rintro e w4 ⟨s, ⟨s0, s1⟩, rfl, hC, hG⟩; have Cw4 := Lib.hid hC; have Gw4 := Lib.hid hG; have Zw4 := hG.size; clear hC hG)
  go_wp2_with fail
  (go_at_call 96; refine (cur_among w4 _ S (300 + 10 + 2 + 2) [1, 1000, 300000, 1000000, 0, 1000001] (fun r => True) _ _ (Cw4.out) (by omega) rfl rfl (by decide) (by decide) (by decide)).mono ?_; rintro e w5 ⟨b, bp, rfl, hC, hG⟩; have Cw5 := Lib.hid hC; have Gw5 := Lib.hid hG; have Zw5 := hG.size; clear hC hG)
  have G3 := Lib.hid (only_trans HG.out (only_trans Gw2.out (only_trans Gw3.out (only_trans Gw4.out Gw5.out))))
  have HO3 := Lib.hid (HO.out.gen (only_trans Gw2.out (only_trans Gw3.out (only_trans Gw4.out Gw5.out))) (by simp))
  have QB := Lib.hid (H.out.2.1.grown G3.out (by intro e; injection e with e; omega))
  obtain ⟨k0, k1, k2⟩ := QB.out.cells3
  have f0 := QB.out.frozen 0
  have f1 := QB.out.frozen 1
  have f2 := QB.out.frozen 2
  go_wp2_with fail
  go_light
  obtain ⟨p1, p2⟩ := box_put3 (x0 := .int .i64 x) (x1 := .int .i64 y) (x2 := .int .i64 z) (below_gen2 H.out.2.2 G3.out (Nat.le_succ _)) (Nat.le_refl _) QB.out
  obtain ⟨e0, e1, e2⟩ := p2.cells3
  refine bodyPost_ret (v := .tuple #[.slice A rows.length c, .agg #[.int .i64 x, .int .i64 y, .int .i64 z], .int .i64 (k - s / 8), .int .i64 b]) ?_ rfl ⟨A, c, rows, x, y, z, k - s / 8, b, rfl, hl, (HO3.out.far3 (by simp; omega) _ _ _).base (by simp; omega), p1⟩
  simp [results, Try.results70, go_sem, e0, e1, e2]
set_option maxHeartbeats 1000000 in
theorem draw_GreatestTension (w : World) (S : Src) (h : S.ok w) : Calls Try.prog 73 #[.slice S.A S.n S.c] w (GenLC w) := by
  have hb1 : Below w.heap.size w (w.alloc (.cells #[.int .i64 0, .int .i64 0, .int .i64 0] 70)) := (Below.refl _ _).alloc (Nat.le_refl _) _
  have H := Lib.hid (draw_UpTensions (w.alloc (.cells #[.int .i64 0, .int .i64 0, .int .i64 0] 70)) S (h.below hb1))
  have HB := Lib.hid hb1
  have T := Lib.hid (Blk.new w 70 #[.int .i64 0, .int .i64 0, .int .i64 0])
  clear h hb1
  go_enter Try.func73, Try.ntmps73
  go_wp2_with fail
  refine H.out.mono ?_
  rintro e w1 ⟨A, c, rows, x, y, z, rfl, hl, ho, hb⟩
  have HO := Lib.hid ho
  have B1 := Lib.hid (Below.thenn HB.out hb HB.out.size)
  have Q := Lib.hid (T.out.below hb T.out.lt)
  have hz := hb.size
  simp at hz
  clear ho hb
  obtain ⟨k0, k1, k2⟩ := Q.out.cells3
  have f0 := Q.out.frozen 0
  have f1 := Q.out.frozen 1
  have f2 := Q.out.frozen 2
  go_wp2_with fail
  go_light
  obtain ⟨p1, p2⟩ := box_put3 (x0 := .int .i64 x) (x1 := .int .i64 y) (x2 := .int .i64 z) B1.out (Nat.le_refl _) Q.out
  obtain ⟨e0, e1, e2⟩ := p2.cells3
  refine bodyPost_ret (v := .tuple #[.slice A rows.length c, .agg #[.int .i64 x, .int .i64 y, .int .i64 z]]) ?_ rfl ⟨A, c, rows, x, y, z, rfl, hl, (HO.out.far3 (by simp) _ _ _).base (by simp), p1⟩
  simp [results, Try.results73, go_sem, e0, e1, e2]
end Go.Proofs.Ytjfmicemnoglkaa
