/- A drive, a speed and a brake that are drawn. -/
import Derived.Test.YthijklidjdhkdaaDrawZ
import Derived.Deep.RegionWith
namespace Go.Proofs.Ythijklidjdhkdaa
open Go.RowKit
set_option linter.unusedVariables false
set_option linter.unusedSimpArgs false

/-- The state behind the drive, which lies in a box p. -/
def PS (W wx : World) (g q p B : Nat) (S : Src) (K : Nat) (l s : Int) (v : Value) (rows : List (List Int)) : Prop :=
  GS W wx g q B S K v rows ∧ Blk wx p 29 #[.int .i64 l, .int .i64 s, v] ∧ p ≠ g
section
variable {W wx w' : World} {g q p B : Nat} {S : Src} {K K' : Nat} {l s : Int} {v : Value} {rows : List (List Int)}
theorem PS.call (h : PS W wx g q p B S K l s v rows) (hC : Cur w' g S K') (hG : wx.grownBy w' (some g)) : PS W w' g q p B S K' l s v rows :=
  ⟨h.1.call hC hG, h.2.1.grown hG (by intro e; injection e with e; exact h.2.2 e), h.2.2⟩
theorem PS.drew (h : PS W wx g q p B S K l s v rows) : PS W wx.drew g q p B S K l s v rows := h.call h.1.1.drew (only_drew (World.grownBy.refl wx _))
theorem PS.cur (h : PS W wx g q p B S K l s v rows) : Cur wx g S K := h.1.1
theorem PS.cells (h : PS W wx g q p B S K l s v rows) :
    (wx.cell? ⟨p, 0, none⟩ = some (.int .i64 l) ∧ wx.cell? ⟨p, 1, none⟩ = some (.int .i64 s) ∧ wx.cell? ⟨p, 2, none⟩ = some v) ∧
    (wx.cell? ⟨q, 0, none⟩ = some (.int .i64 0) ∧ wx.cell? ⟨q, 1, none⟩ = some (.int .i64 0) ∧ wx.cell? ⟨q, 2, none⟩ = some (.slice none 0 0)) ∧ (wx.frozen? ⟨q, 0, none⟩ = false ∧ wx.frozen? ⟨q, 1, none⟩ = false ∧ wx.frozen? ⟨q, 2, none⟩ = false) := by
  obtain ⟨h1, h4, _⟩ := h
  obtain ⟨a, b⟩ := h1.cells
  exact ⟨⟨by simpa using h4.cell 0, by simpa using h4.cell 1, by simpa using h4.cell 2⟩, a, b⟩
end
theorem GS.alloc {W wx : World} {g q B : Nat} {S : Src} {K : Nat} {v : Value} {rows : List (List Int)} (h : GS W wx g q B S K v rows) (o : Obj) : GS W (wx.alloc o) g q B S K v rows := h.call (h.1.alloc o) (only_alloc (World.grownBy.refl wx _) o)
set_option maxHeartbeats 4000000 in
theorem draw_WayWithout (w : World) (S : Src) (h : S.ok w) : Calls Try.prog 42 #[.slice S.A S.n S.c] w (GenDII w) := by
  have H := Lib.hid (gen_start w S h)
  clear h
  go_enter Try.func42, Try.ntmps42
  go_wp2_with fail
  refine (cur_drive _ _ S 0 H.out.1 (by omega)).mono ?_
  rintro e w1 ⟨l, s, A, c, rows, rfl, hl, ho, hC, hG⟩
  have hlt := hC.lt
  have X0 := Lib.hid (GS.start H.out.1 H.out.2.2.1 H.out.2.1 (Nat.le_refl _) (Nat.le_succ _) (by omega) ho hC hG)
  have X1 : Hid (PS w (w1.alloc (.cells #[.int .i64 l, .int .i64 s, .slice A rows.length c] 29)) (w.heap.size + 1) w.heap.size w1.heap.size ((w.alloc (.cells #[.int .i64 0, .int .i64 0, .slice none 0 0] 29)).alloc (.cells #[.slice S.A S.n S.c, .int .i64 0, .int .u64 0] 79)).heap.size S 300 l s (.slice A rows.length c) rows) := ⟨X0.out.alloc _, Blk.new _ _ _, by omega⟩
  clear ho hC hG hlt X0
  go_wp2_with fail
  have u1 : IntKind.i64.wrap ((rows.length : Int) + 1) = (rows.length : Int) + 1 := IntWalk.i64_in _ (by omega)
  generalize w1.alloc (.cells #[.int .i64 l, .int .i64 s, .slice A rows.length c] 29) = wx at *
  obtain ⟨⟨c0, hc1, c2⟩, ⟨k0, k1, k2⟩, ⟨f0, f1, f2⟩⟩ := X1.out.cells
  have X2 := Lib.hid X1.out.drew
  go_region_with (first | ((go_at_call 69; refine (cur_speed _ _ S 300 X2.out.cur (by omega)).mono ?_; rintro e w3 ⟨v, vp, rfl, hC, hG⟩; have Cw3 := Lib.hid hC; have Gw3 := Lib.hid hG; have Zw3 := hG.size; clear hC hG); have X3 := Lib.hid (X2.out.call Cw3.out Gw3.out); clear c0 hc1 c2 k0 k1 k2 f0 f1 f2; obtain ⟨⟨c0, hc1, c2⟩, ⟨k0, k1, k2⟩, ⟨f0, f1, f2⟩⟩ := X3.out.cells) | ((go_at_call 71; (with_reducible refine (cur_pick w3 _ S (300 + 2) ((rows.length : Int) + 1) (X3.out.cur) (by omega) (by omega) (by omega)).mono ?_); rintro e w4 ⟨r, ⟨r0, r1⟩, rfl, hC, hG⟩; have Cw4 := Lib.hid hC; have Gw4 := Lib.hid hG; have Zw4 := hG.size; clear hC hG); have X4 := Lib.hid (X3.out.call Cw4.out Gw4.out); clear c0 hc1 c2 k0 k1 k2 f0 f1 f2; obtain ⟨⟨c0, hc1, c2⟩, ⟨k0, k1, k2⟩, ⟨f0, f1, f2⟩⟩ := X4.out.cells) | ((go_at_call 71; (with_reducible refine (cur_pick w4 _ S (300 + 2 + 2) (9) (X4.out.cur) (by omega) (by omega) (by omega)).mono ?_); rintro e w5 ⟨r2, ⟨r20, r21⟩, rfl, hC, hG⟩; have Cw5 := Lib.hid hC; have Gw5 := Lib.hid hG; have Zw5 := hG.size; clear hC hG); have X5 := Lib.hid (X4.out.call Cw5.out Gw5.out); clear c0 hc1 c2 k0 k1 k2 f0 f1 f2; obtain ⟨⟨c0, hc1, c2⟩, ⟨k0, k1, k2⟩, ⟨f0, f1, f2⟩⟩ := X5.out.cells))
  all_goals go_wp2_with fail
  all_goals go_light
  all_goals obtain ⟨p1, p2, e0, e1, e2⟩ := X5.out.1.put (l := l) (s := s)
  all_goals refine bodyPost_ret (v := .tuple #[.agg #[.int .i64 l, .int .i64 s, .slice A rows.length c], .int .i64 v, .int .i64 (IntKind.i64.wrap (r - IntKind.i64.wrap (r2.tdiv 8)))]) ?_ rfl ⟨l, s, A, c, rows, _, _, rfl, hl, p2, p1⟩
  all_goals simp [results, Try.results42, go_sem, e0, e1, e2]
end Go.Proofs.Ythijklidjdhkdaa
