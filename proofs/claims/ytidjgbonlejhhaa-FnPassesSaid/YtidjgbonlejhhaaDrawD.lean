/- Circles that are drawn: the walk. -/
import Derived.Test.YtidjgbonlejhhaaDrawC
import Derived.Deep.RegionWith
namespace Go.Proofs.Ytidjgbonlejhhaa
open Go.RowKit
set_option linter.unusedVariables false
set_option linter.unusedSimpArgs false

set_option maxRecDepth 100000 in
set_option maxHeartbeats 4000000 in
theorem cur_circle (w : World) (g : Nat) (S : Src) (K : Nat) (h : Cur w g S K) (hK : K ≤ 800000) :
    Calls Try.prog 67 #[.pointer (some ⟨g, 0, none⟩)] w (DrewC w g S (K + 300)) := by
  have H := Lib.hid h
  have hg := h.lt
  clear h
  go_enter Try.func67, Try.ntmps67
  go_wp2_with fail
  (go_at_call 78; refine (cur_amongA _ _ (by simp) _ S (K) [10, 20, 100, 101, 500, 4000] (fun r => 10 ≤ r ∧ r ≤ 4000) _ _ (H.out.alloc _) (by omega) rfl rfl (by decide) (by decide) (by decide)).mono ?_; rintro e w1 ⟨l, lp, rfl, hC, hG⟩; have Cw1 := Lib.hid hC; have Gw1 := Lib.hid hG; have Zw1 := hG.size; clear hC hG)
  go_wp2_with fail
  (go_at_call 78; refine (cur_among w1 _ S (K + 2) [1, 5, 7, 10, 50, 100] (fun r => 1 ≤ r ∧ r ≤ 100) _ _ (Cw1.out) (by omega) rfl rfl (by decide) (by decide) (by decide)).mono ?_; rintro e w2 ⟨s, sp, rfl, hC, hG⟩; have Cw2 := Lib.hid hC; have Gw2 := Lib.hid hG; have Zw2 := hG.size; clear hC hG)
  have X0 := Lib.hid (CS.start (l := l) (s := s) hg Cw2.out Gw1.out Gw2.out)
  go_wp2_with fail
  generalize hq : w.heap.size = q at *
  generalize hp : w2.heap.size + 1 = p at *
  generalize hwx : (w2.alloc (.cells #[] 3)).alloc (.cells #[.int .i64 l, .int .i64 s, .slice (some ⟨w2.heap.size, 0, none⟩) 0 0] 27) = wx at *
  have HQ := Lib.hid hq
  have HP := Lib.hid hp
  clear hq hp hwx
  (go_at_call 68; (with_reducible refine (cur_pick _ _ S (K + 2 + 2) (5) (X0.out.cur) (by omega) (by omega) (by omega)).mono ?_); rintro e w3 ⟨at0, ⟨at00, at01⟩, rfl, hC, hG⟩; have Cw3 := Lib.hid hC; have Gw3 := Lib.hid hG; have Zw3 := hG.size; clear hC hG)
  have X3 := Lib.hid (X0.out.call Cw3.out Gw3.out)
  go_wp2_with (go_at_call 68; (with_reducible refine (cur_pick w3 _ S (K + 2 + 2 + 2) (8) (Cw3.out) (by omega) (by omega) (by omega)).mono ?_); rintro e w4 ⟨n0, ⟨n00, n01⟩, rfl, hC, hG⟩; have Cw4 := Lib.hid hC; have Gw4 := Lib.hid hG; have Zw4 := hG.size; clear hC hG)
  have X4 := Lib.hid (X3.out.call Cw4.out Gw4.out)
  obtain ⟨j0, rfl⟩ := Int.eq_ofNat_of_zero_le n00
  clear X0 X3 Cw1 Cw2 Cw3 Cw4 Gw1 Gw2 Gw3 Gw4 H
  go_loopg [4, 5] 8 (fun gg at' n' wr => ∃ (k m : Nat) (a : Int) (A : Option Addr) (c : Nat) (zs : List Int), k ≤ gg ∧ k ≤ 7 ∧ n' = .int .i64 k ∧ at' = .int .i64 a ∧ m + k ≤ 7 ∧ Hid (CS w wr g q p S (K + 100 - 2 * k) l s A m c zs))
  case atStart => exact ⟨j0, 0, at0, _, _, _, by omega, by omega, rfl, rfl, by omega, X4.out.more (by omega)⟩
  case round =>
    obtain ⟨k, m, a, A, c, zs, hk1, hk2, rfl, rfl, hmk, HX⟩ := hrel
    obtain ⟨⟨c0, hc1, c2⟩, ⟨f0, f1, f2⟩, ⟨z0, z1, z2⟩, ⟨k0, k1, k2⟩, hne, hne', hpl, hql⟩ := HX.out.cells
    by_cases hgo : 0 < k ∧ a < l
    · obtain ⟨h0, hal⟩ := hgo
      obtain ⟨j, rfl⟩ : ∃ j, k = j + 1 := ⟨k - 1, by omega⟩
      have d1 : decide (a < l) = true := by simpa using hal
      have HL := Lib.hid HX.out.own.len
      go_wp2_with (first | (at_builtin; refine wp_app_intG rfl (.tmp 29) (.tmp 31) rfl wr w.heap.size (.slice A m c) zs a rfl HX.out.own rfl m HL.out (by have := HL.out; omega) (HX.out.grown.size) ?_; intro A1 c1 w5 hown1 hg1; have HX5 := Lib.hid (HX.out.app hown1 hg1); obtain ⟨f5, c5, hp5⟩ := HX.out.frozen_grown hown1 hg1; clear hown1 hg1) | ((go_at_call 78; refine (cur_amongA _ _ (by simp) _ S (K + 100 - 2 * (j + 1)) [1, 2, 3, 10, 40, 90] (fun r => 1 ≤ r ∧ r ≤ 90) _ _ (HX5.out.cur) (by omega) rfl rfl (by decide) (by decide) (by decide)).mono ?_; rintro e w6 ⟨d, dp, rfl, hC, hG⟩; have Cw6 := Lib.hid hC; have Gw6 := Lib.hid hG; have Zw6 := hG.size; clear hC hG); have X6 := Lib.hid (HX5.out.call Cw6.out Gw6.out)))
      go_roundg j
      case measure => omega
      case rel => exact ⟨j, m + 1, _, A1, c1, _, by omega, by omega, by go_num, rfl, by omega, X6.out.more (by omega)⟩
    · have HE : Hid (CS w wr g q p S (K + 100) l s A m c zs) := HX.out.more (by omega)
      have hm7 : m ≤ 7 := by omega
      have hd : k = 0 ∨ 0 < k ∧ decide (a < l) = false := by
        rcases Nat.eq_zero_or_pos k with h0 | h0
        · exact .inl h0
        · exact .inr ⟨h0, by simp; omega⟩
      clear hgo HX
      rcases hd with rfl | ⟨h0, d1⟩
      · go_wp2_with ((go_at_call 68; (with_reducible refine (cur_pick wr _ S (K + 100) (32) (HE.out.cur) (by omega) (by omega) (by omega)).mono ?_); rintro e w6 ⟨r, ⟨r0, r1⟩, rfl, hC, hG⟩; have Cw6 := Lib.hid hC; have Gw6 := Lib.hid hG; have Zw6 := hG.size; clear hC hG); have X6 := Lib.hid (HE.out.call Cw6.out Gw6.out); clear c0 hc1 c2 f0 f1 f2 z0 z1 z2 k0 k1 k2; obtain ⟨⟨c0, hc1, c2⟩, ⟨f0, f1, f2⟩, ⟨z0, z1, z2⟩, ⟨k0, k1, k2⟩, _, _, hpl6, hql6⟩ := X6.out.cells)
        · (go_at_call 78; refine (cur_among w6 _ S (K + 100 + 2) [9, 4001, 10] (fun r => 9 ≤ r ∧ r ≤ 4001) _ _ (Cw6.out) (by omega) rfl rfl (by decide) (by decide) (by decide)).mono ?_; rintro e w7 ⟨l', l'p, rfl, hC, hG⟩; have Cw7 := Lib.hid hC; have Gw7 := Lib.hid hG; have Zw7 := hG.size; clear hC hG)
          have X7 := Lib.hid (X6.out.call Cw7.out Gw7.out)
          clear c0 hc1 c2 f0 f1 f2 z0 z1 z2 k0 k1 k2; obtain ⟨⟨c0, hc1, c2⟩, ⟨f0, f1, f2⟩, ⟨z0, z1, z2⟩, ⟨k0, k1, k2⟩, _, _, hpl7, hql7⟩ := X7.out.cells
          go_wp2_with fail
          go_light
          obtain ⟨e0, e1, e2⟩ := (X7.out.set1 l').finB
          refine bodyPost_ret (v := .agg #[.int .i64 l', .int .i64 s, .slice A m c]) ?_ rfl ((X7.out.set1 l').fin (by omega) (by omega) (by omega) (by omega))
          simp [results, Try.results67, go_sem, e0, e1, e2]
        · (go_at_call 78; refine (cur_among w6 _ S (K + 100 + 2) [0, 101] (fun r => 0 ≤ r ∧ r ≤ 101) _ _ (Cw6.out) (by omega) rfl rfl (by decide) (by decide) (by decide)).mono ?_; rintro e w7 ⟨s', s'p, rfl, hC, hG⟩; have Cw7 := Lib.hid hC; have Gw7 := Lib.hid hG; have Zw7 := hG.size; clear hC hG)
          have X7 := Lib.hid (X6.out.call Cw7.out Gw7.out)
          clear c0 hc1 c2 f0 f1 f2 z0 z1 z2 k0 k1 k2; obtain ⟨⟨c0, hc1, c2⟩, ⟨f0, f1, f2⟩, ⟨z0, z1, z2⟩, ⟨k0, k1, k2⟩, _, _, hpl7, hql7⟩ := X7.out.cells
          go_wp2_with fail
          go_light
          obtain ⟨e0, e1, e2⟩ := (X7.out.set2 s').finB
          refine bodyPost_ret (v := .agg #[.int .i64 l, .int .i64 s', .slice A m c]) ?_ rfl ((X7.out.set2 s').fin (by omega) (by omega) (by omega) (by omega))
          simp [results, Try.results67, go_sem, e0, e1, e2]
        · have HL := Lib.hid HE.out.own.len
          have hz6 := X6.out.grown.size
          go_region_law (first | (refine step_app_intG1 (by rfl) (.tmp 56) (.tmp 60) (by rfl) w7 w.heap.size (.slice A m c) zs x (by rfl) X7.out.own (by rfl) m HL.out (by omega) hz7 ?_; intro A8 c8 w8 ho8 hg8; have X8 := Lib.hid (X7.out.app ho8 hg8); clear c0 hc1 c2 f0 f1 f2 z0 z1 z2 k0 k1 k2; obtain ⟨⟨c0, hc1, c2⟩, ⟨f0, f1, f2⟩, ⟨z0, z1, z2⟩, ⟨k0, k1, k2⟩, hpl8, hql8⟩ := X7.out.app_cells ho8 hg8; clear ho8 hg8) | (go_simp; (go_at_call 78; refine (cur_amongD w6 _ S (K + 100 + 2) [-1, 0, 4000] (fun r => -1 ≤ r ∧ r ≤ 4000) _ _ (X6.out.cur) (by omega) rfl rfl (by decide) (by decide) (by decide)).mono ?_; rintro e w7 ⟨x, xp, rfl, hC, hG⟩; have Cw7 := Lib.hid hC; have Gw7 := Lib.hid hG; have Zw7 := hG.size; clear hC hG); have X7 := Lib.hid (X6.out.call Cw7.out Gw7.out); have hz7 := X7.out.grown.size; clear c0 hc1 c2 f0 f1 f2 z0 z1 z2 k0 k1 k2; obtain ⟨⟨c0, hc1, c2⟩, ⟨f0, f1, f2⟩, ⟨z0, z1, z2⟩, ⟨k0, k1, k2⟩, _, _, hpl7, hql7⟩ := X7.out.cells))
          all_goals go_wp2_with fail
          all_goals go_light
          all_goals obtain ⟨e0, e1, e2⟩ := X8.out.finB
          all_goals refine bodyPost_ret (v := .agg #[.int .i64 l, .int .i64 s, .slice A8 (m + 1) c8]) ?_ rfl (X8.out.fin (by omega) (by omega) (by omega) (by omega))
          all_goals simp [results, Try.results67, go_sem, e0, e1, e2]
        · go_light
          obtain ⟨e0, e1, e2⟩ := (X6.out).finB
          refine bodyPost_ret (v := .agg #[.int .i64 l, .int .i64 s, .slice A m c]) ?_ rfl ((X6.out).fin (by omega) (by omega) (by omega) (by omega))
          simp [results, Try.results67, go_sem, e0, e1, e2]
      · go_wp2_with ((go_at_call 68; (with_reducible refine (cur_pick wr _ S (K + 100) (32) (HE.out.cur) (by omega) (by omega) (by omega)).mono ?_); rintro e w6 ⟨r, ⟨r0, r1⟩, rfl, hC, hG⟩; have Cw6 := Lib.hid hC; have Gw6 := Lib.hid hG; have Zw6 := hG.size; clear hC hG); have X6 := Lib.hid (HE.out.call Cw6.out Gw6.out); clear c0 hc1 c2 f0 f1 f2 z0 z1 z2 k0 k1 k2; obtain ⟨⟨c0, hc1, c2⟩, ⟨f0, f1, f2⟩, ⟨z0, z1, z2⟩, ⟨k0, k1, k2⟩, _, _, hpl6, hql6⟩ := X6.out.cells)
        · (go_at_call 78; refine (cur_among w6 _ S (K + 100 + 2) [9, 4001, 10] (fun r => 9 ≤ r ∧ r ≤ 4001) _ _ (Cw6.out) (by omega) rfl rfl (by decide) (by decide) (by decide)).mono ?_; rintro e w7 ⟨l', l'p, rfl, hC, hG⟩; have Cw7 := Lib.hid hC; have Gw7 := Lib.hid hG; have Zw7 := hG.size; clear hC hG)
          have X7 := Lib.hid (X6.out.call Cw7.out Gw7.out)
          clear c0 hc1 c2 f0 f1 f2 z0 z1 z2 k0 k1 k2; obtain ⟨⟨c0, hc1, c2⟩, ⟨f0, f1, f2⟩, ⟨z0, z1, z2⟩, ⟨k0, k1, k2⟩, _, _, hpl7, hql7⟩ := X7.out.cells
          go_wp2_with fail
          go_light
          obtain ⟨e0, e1, e2⟩ := (X7.out.set1 l').finB
          refine bodyPost_ret (v := .agg #[.int .i64 l', .int .i64 s, .slice A m c]) ?_ rfl ((X7.out.set1 l').fin (by omega) (by omega) (by omega) (by omega))
          simp [results, Try.results67, go_sem, e0, e1, e2]
        · (go_at_call 78; refine (cur_among w6 _ S (K + 100 + 2) [0, 101] (fun r => 0 ≤ r ∧ r ≤ 101) _ _ (Cw6.out) (by omega) rfl rfl (by decide) (by decide) (by decide)).mono ?_; rintro e w7 ⟨s', s'p, rfl, hC, hG⟩; have Cw7 := Lib.hid hC; have Gw7 := Lib.hid hG; have Zw7 := hG.size; clear hC hG)
          have X7 := Lib.hid (X6.out.call Cw7.out Gw7.out)
          clear c0 hc1 c2 f0 f1 f2 z0 z1 z2 k0 k1 k2; obtain ⟨⟨c0, hc1, c2⟩, ⟨f0, f1, f2⟩, ⟨z0, z1, z2⟩, ⟨k0, k1, k2⟩, _, _, hpl7, hql7⟩ := X7.out.cells
          go_wp2_with fail
          go_light
          obtain ⟨e0, e1, e2⟩ := (X7.out.set2 s').finB
          refine bodyPost_ret (v := .agg #[.int .i64 l, .int .i64 s', .slice A m c]) ?_ rfl ((X7.out.set2 s').fin (by omega) (by omega) (by omega) (by omega))
          simp [results, Try.results67, go_sem, e0, e1, e2]
        · have HL := Lib.hid HE.out.own.len
          have hz6 := X6.out.grown.size
          go_region_law (first | (refine step_app_intG1 (by rfl) (.tmp 56) (.tmp 60) (by rfl) w7 w.heap.size (.slice A m c) zs x (by rfl) X7.out.own (by rfl) m HL.out (by omega) hz7 ?_; intro A8 c8 w8 ho8 hg8; have X8 := Lib.hid (X7.out.app ho8 hg8); clear c0 hc1 c2 f0 f1 f2 z0 z1 z2 k0 k1 k2; obtain ⟨⟨c0, hc1, c2⟩, ⟨f0, f1, f2⟩, ⟨z0, z1, z2⟩, ⟨k0, k1, k2⟩, hpl8, hql8⟩ := X7.out.app_cells ho8 hg8; clear ho8 hg8) | (go_simp; (go_at_call 78; refine (cur_amongD w6 _ S (K + 100 + 2) [-1, 0, 4000] (fun r => -1 ≤ r ∧ r ≤ 4000) _ _ (X6.out.cur) (by omega) rfl rfl (by decide) (by decide) (by decide)).mono ?_; rintro e w7 ⟨x, xp, rfl, hC, hG⟩; have Cw7 := Lib.hid hC; have Gw7 := Lib.hid hG; have Zw7 := hG.size; clear hC hG); have X7 := Lib.hid (X6.out.call Cw7.out Gw7.out); have hz7 := X7.out.grown.size; clear c0 hc1 c2 f0 f1 f2 z0 z1 z2 k0 k1 k2; obtain ⟨⟨c0, hc1, c2⟩, ⟨f0, f1, f2⟩, ⟨z0, z1, z2⟩, ⟨k0, k1, k2⟩, _, _, hpl7, hql7⟩ := X7.out.cells))
          all_goals go_wp2_with fail
          all_goals go_light
          all_goals obtain ⟨e0, e1, e2⟩ := X8.out.finB
          all_goals refine bodyPost_ret (v := .agg #[.int .i64 l, .int .i64 s, .slice A8 (m + 1) c8]) ?_ rfl (X8.out.fin (by omega) (by omega) (by omega) (by omega))
          all_goals simp [results, Try.results67, go_sem, e0, e1, e2]
        · go_light
          obtain ⟨e0, e1, e2⟩ := (X6.out).finB
          refine bodyPost_ret (v := .agg #[.int .i64 l, .int .i64 s, .slice A m c]) ?_ rfl ((X6.out).fin (by omega) (by omega) (by omega) (by omega))
          simp [results, Try.results67, go_sem, e0, e1, e2]
end Go.Proofs.Ytidjgbonlejhhaa
