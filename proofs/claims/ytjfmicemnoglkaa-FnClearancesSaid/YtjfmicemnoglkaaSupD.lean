/- Lines that are drawn. -/
import Derived.Test.YtjfmicemnoglkaaSupO
import Derived.Test.YtjfmicemnoglkaaDrawB
import Derived.Deep.RegionWith
namespace Go.Proofs.Ytjfmicemnoglkaa
open Go.RowKit
set_option linter.unusedVariables false
set_option linter.unusedSimpArgs false

set_option maxRecDepth 100000 in
set_option maxHeartbeats 4000000 in
theorem cur_line (w : World) (g : Nat) (S : Src) (K : Nat) (h : Cur w g S K) (hK : K ≤ 700000) :
    Calls Try.prog 93 #[.pointer (some ⟨g, 0, none⟩)] w (DrewL w g S (K + 300) 10) := by
  have H := Lib.hid h
  have hg := h.lt
  clear h
  go_enter Try.func93, Try.ntmps93
  go_wp2_with fail
  (go_at_call 96; refine (cur_among w _ S (K) [400, 500, 1000] (fun r => 0 ≤ r ∧ r ≤ 1000) _ _ (H.out) (by omega) rfl rfl (by decide) (by decide) (by decide)).mono ?_; rintro e w1 ⟨r, rp, rfl, hC, hG⟩; have Cw1 := Lib.hid hC; have Gw1 := Lib.hid hG; have Zw1 := hG.size; clear hC hG)
  go_upto_region 2 with fail
  have O1 := Lib.hid (OwL.one (B := w.heap.size) w1 0 r true Zw1)
  have C1 := Lib.hid (Cw1.out.alloc (.cells #[.int .i64 0, .int .i64 r, .bool true] 51))
  have G1 := Lib.hid (only_alloc Gw1.out (.cells #[.int .i64 0, .int .i64 r, .bool true] 51))
  have d1 : (w1.alloc (.cells #[.int .i64 0, .int .i64 r, .bool true] 51)).cell? ⟨w1.heap.size, 1, none⟩ = some (.int .i64 r) := (Blk.new w1 51 #[.int .i64 0, .int .i64 r, .bool true]).cell 1
  have hq1 : w.heap.size ≤ w1.heap.size := Zw1
  generalize w1.alloc (.cells #[.int .i64 0, .int .i64 r, .bool true] 51) = v1 at *
  generalize w1.heap.size = q at *
  clear Cw1 Gw1 Zw1
  go_quiet (fail)
  have O2 : Hid (OwL (v1.drewN nq) w.heap.size (.slice (some ⟨q, 0, none⟩) 1 1) [[0, r, bi true]]) := O1
  have C2 : Hid (Cur (v1.drewN nq) g S (K + 2)) := C1
  have G2 : Hid (w.grownBy (v1.drewN nq) (some g)) := Lib.hid (only_drewN G1.out nq)
  generalize v1.drewN nq = v2 at *
  clear d1 O1 C1 G1
  go_wp2_with (go_at_call 125; (with_reducible refine (cur_pick v2 _ S (K + 2) (4) (C2.out) (by omega) (by omega) (by omega)).mono ?_); rintro e w3 ⟨n0, ⟨n00, n01⟩, rfl, hC, hG⟩; have Cw3 := Lib.hid hC; have Gw3 := Lib.hid hG; have Zw3 := hG.size; clear hC hG)
  obtain ⟨j0, rfl⟩ := Int.eq_ofNat_of_zero_le n00
  have O3 := Lib.hid (O2.out.gen Gw3.out hg)
  have G3 := Lib.hid (only_trans G2.out Gw3.out)
  go_loopg [3, 4, 5, 6] 5 (fun gg li at_ he i wr => ∃ (k m : Nat) (x y : Int) (A : Option Addr) (c : Nat) (rows : List (List Int)), k ≤ gg ∧ k ≤ 4 ∧ i = .int .i64 k ∧ at_ = .int .i64 x ∧ he = .int .i64 y ∧ li = .slice A (m + 1) c ∧ m + k ≤ 4 ∧ Hid (OwL wr w.heap.size (.slice A (m + 1) c) rows) ∧ Hid (Cur wr g S (K + 4 + 10 * m)) ∧ Hid (w.grownBy wr (some g)))
  case atStart => exact ⟨j0 + 1, 0, 0, r, _, _, _, by omega, by omega, by go_num, rfl, rfl, rfl, by omega, O3, Cw3.out.more (by omega), G3.out⟩
  case round =>
    obtain ⟨k, m, x, y, A, c, rows, hk1, hk2, rfl, rfl, rfl, rfl, hmk, HO, HC, HG⟩ := hrel
    have hsz := HG.out.size
    have HL := Lib.hid HO.out.len_
    clear O2 C2 G2 O3 G3 Cw3 Gw3 Zw3
    rcases Nat.eq_zero_or_pos k with h0 | h0
    · subst h0
      obtain ⟨b, x0, x1, x2, rfl, hbB, hbl, hr, c0, c1, c2, hfz⟩ := HO.out.cells (k := m) (by omega)
      have u1 : IntKind.i64.wrap (((m + 1 : Nat) : Int) - 1) = (m : Int) := (IntWalk.i64_in _ (by omega)).trans (by omega)
      have u2 : IntKind.i64.wrap ((m : Int) + 1 - 1) = (m : Int) := (IntWalk.i64_in _ (by omega)).trans (by omega)
      have O4 := Lib.hid (HO.out.set2 hr true)
      have C4 := Lib.hid (HC.out.far (p := ⟨b, m * 3 + 2, none⟩) (by simp; omega) (.bool true))
      have G4 := Lib.hid (only_setCell HG.out (p := ⟨b, m * 3 + 2, none⟩) (.inr hbB) (.bool true))
      clear hr
      go_wp2_with fail
      generalize wr.setCell ⟨b, m * 3 + 2, none⟩ (.bool true) = v3 at *
      have hgb : g < b := by omega
      generalize rows.set m [x0, x1, bi true] = rs at *
      clear HO HC HG HL hsz c0 c1 c2 hfz H
      go_wp2_with ((go_at_call 125; (with_reducible refine (cur_pick v3 _ S (K + 44) (40) (C4.out.more (by omega)) (by omega) (by omega) (by omega)).mono ?_); rintro e w6 ⟨s, ⟨s0, s1⟩, rfl, hC, hG⟩; have Cw6 := Lib.hid hC; have Gw6 := Lib.hid hG; have Zw6 := hG.size; clear hC hG); have O6 := Lib.hid (O4.out.gen Gw6.out hg); have G6 := Lib.hid (only_trans G4.out Gw6.out); have hcap := O6.out.cap; have hcp : 1 ≤ (c : Int) := (by omega); obtain ⟨b6, z0, z1, z2, e6, _, _, hr6, p0, p1, p2, hfz6⟩ := O6.out.cells (k := m) (by omega); injection e6 with e6; injection e6 with e6; subst e6; have P6 := Lib.hid (O6.out.set2 hr6 false); clear hr6 hcap)
      · (go_at_call 96; refine (cur_among w6 _ S (K + 44 + 2) [0, 1] (fun r => True) _ _ (Cw6.out) (by omega) rfl rfl (by decide) (by decide) (by decide)).mono ?_; rintro e w7 ⟨a, ap, rfl, hC, hG⟩; have Cw7 := Lib.hid hC; have Gw7 := Lib.hid hG; have Zw7 := hG.size; clear hC hG)
        go_wp2_with fail
        (go_at_call 150; (with_reducible refine (cur_one w7 _ S (K + 44 + 2 + 2) (2) (Cw7.out) (by omega) (by omega) (by omega)).mono ?_); rintro e w8 ⟨t, rfl, hC, hG⟩; have Cw8 := Lib.hid hC; have Gw8 := Lib.hid hG; have Zw8 := hG.size; clear hC hG)
        have O8 := Lib.hid ((O6.out.gen Gw7.out hg).gen Gw8.out hg)
        have G8 := Lib.hid (only_trans G6.out (only_trans Gw7.out Gw8.out))
        obtain ⟨b', y0, y1, y2, e', _, _, hr, d0, d1, d2, hfz⟩ := O8.out.cells (k := 0) (by omega)
        simp only [Nat.zero_mul, Nat.zero_add] at d0 d1 d2
        injection e' with e'
        injection e' with e1
        subst e1
        have P := Lib.hid (O8.out.put3 hr a 400 t)
        clear hr
        go_wp2_with fail
        go_ret
        exact DrewL.mk (by omega) P.out ((Cw8.out.far3 hgb _ _ _).more (by omega)) (only_set3 G8.out hbB _ _ _)
      · (go_at_call 96; refine (cur_among w6 _ S (K + 44 + 2) [3000, 3001, 0] (fun r => True) _ _ (Cw6.out) (by omega) rfl rfl (by decide) (by decide) (by decide)).mono ?_; rintro e w7 ⟨a, ap, rfl, hC, hG⟩; have Cw7 := Lib.hid hC; have Gw7 := Lib.hid hG; have Zw7 := hG.size; clear hC hG)
        go_wp2_with fail
        (go_at_call 96; refine (cur_among w7 _ S (K + 44 + 2 + 2) [2000, 2001, -1] (fun r => True) _ _ (Cw7.out) (by omega) rfl rfl (by decide) (by decide) (by decide)).mono ?_; rintro e w8 ⟨a2, a2p, rfl, hC, hG⟩; have Cw8 := Lib.hid hC; have Gw8 := Lib.hid hG; have Zw8 := hG.size; clear hC hG)
        have O8 := Lib.hid ((O6.out.gen Gw7.out hg).gen Gw8.out hg)
        have G8 := Lib.hid (only_trans G6.out (only_trans Gw7.out Gw8.out))
        obtain ⟨b', y0, y1, y2, e', _, _, hr, d0, d1, d2, hfz⟩ := O8.out.cells (k := m) (by omega)
        injection e' with e'
        injection e' with e1
        subst e1
        have P := Lib.hid (O8.out.put3 hr a a2 true)
        clear hr
        go_wp2_with fail
        go_ret
        exact DrewL.mk (by omega) P.out ((Cw8.out.far3 hgb _ _ _).more (by omega)) (only_set3 G8.out hbB _ _ _)
      · go_ret
        exact DrewL.mk (by omega) P6.out ((Cw6.out.far (p := ⟨b, m * 3 + 2, none⟩) hgb _).more (by omega)) (only_setCell G6.out (p := ⟨b, m * 3 + 2, none⟩) (.inr hbB) _)
      · clear p0 p1 p2 hfz6 P6
        have e0 : (s == 0) = false := by assumption
        have e1 : (s == 1) = false := by assumption
        have e2 : (s == 2) = false := by assumption
        have e3 : (s == 3) = true := by assumption
        (try rw [e0]); (try rw [e1]); (try rw [e2]); (try rw [e3])
        go_loopg [3, 4] 10 (fun gg li at_ wy => ∃ (m' : Nat) (x' : Int) (A' : Option Addr) (c' : Nat) (rows' : List (List Int)), at_ = .int .i64 x' ∧ li = .slice A' m' c' ∧ m' ≤ 9 ∧ 10 ≤ m' + gg ∧ Hid (OwL wy w.heap.size (.slice A' m' c') rows') ∧ Hid (Cur wy g S (K + 100 + 2 * m')) ∧ Hid (w.grownBy wy (some g)))
        case atStart => exact ⟨m + 1, _, _, _, _, rfl, rfl, by omega, by omega, O6, Cw6.out.more (by omega), G6⟩
        case round =>
          obtain ⟨m', x', A', c', rows', rfl, rfl, hm1, hm2, HO', HC', HG'⟩ := hrel
          have HL' := Lib.hid HO'.out.len_
          go_wp2_with (first | ((go_at_call 125; (with_reducible refine (cur_pick wr _ S (K + 100 + 2 * m') (2) (HC'.out) (by omega) (by omega) (by omega)).mono ?_); rintro e wz ⟨bb, ⟨bb0, bb1⟩, rfl, hC, hG⟩; have Cwz := Lib.hid hC; have Gwz := Lib.hid hG; have Zwz := hG.size; clear hC hG); have Oz := Lib.hid (HO'.out.gen Gwz.out hg); have Gz := Lib.hid (only_trans HG'.out Gwz.out); have hzz := Gz.out.size) | (at_builtin; refine wp_app_Sup1 rfl (.tmp 92) (.tmp 96) rfl wz w.heap.size (.slice A' m' c') rows' _ _ true rfl Oz.out rfl m' HL'.out (by omega) hzz ?_; intro A7 c7 w7 ho7 hb7; have O7 := Lib.hid ho7; have B7 := Lib.hid hb7; clear ho7 hb7))
          · go_roundg (10 - (m' + 1))
            case measure => omega
            case rel => exact ⟨m' + 1, _, A7, c7, _, rfl, rfl, by omega, by omega, O7, (Cwz.out.belowB B7.out hg).more (by omega), grown_below Gz.out B7.out⟩
          · go_wp2_with fail
            go_ret
            exact DrewL.mk (by omega) Oz.out (Cwz.out.more (by omega)) Gz.out
      · go_ret
        exact DrewL.mk (by omega) (O6.out.take1 (by omega)) (Cw6.out.more (by omega)) G6.out
      · go_ret
        exact DrewL.mk (by omega) O6.out (Cw6.out.more (by omega)) G6.out
    · obtain ⟨j, rfl⟩ : ∃ j, k = j + 1 := ⟨k - 1, by omega⟩
      go_wp2_with fail
      (go_at_call 96; refine (cur_among wr _ S (K + 4 + 10 * m) [10, 50, 100, 120, 300, 400] (fun r => True) _ _ (HC.out) (by omega) rfl rfl (by decide) (by decide) (by decide)).mono ?_; rintro e w4 ⟨s1, s1p, rfl, hC, hG⟩; have Cw4 := Lib.hid hC; have Gw4 := Lib.hid hG; have Zw4 := hG.size; clear hC hG)
      go_wp2_with fail
      (go_at_call 96; refine (cur_among w4 _ S (K + 4 + 10 * m + 2) [0, 10, 50, 100, 200, -20, -60] (fun r => True) _ _ (Cw4.out) (by omega) rfl rfl (by decide) (by decide) (by decide)).mono ?_; rintro e w5 ⟨s2, s2p, rfl, hC, hG⟩; have Cw5 := Lib.hid hC; have Gw5 := Lib.hid hG; have Zw5 := hG.size; clear hC hG)
      have O5 := Lib.hid ((HO.out.gen Gw4.out hg).gen Gw5.out hg)
      have G5 := Lib.hid (only_trans HG.out (only_trans Gw4.out Gw5.out))
      go_wp2_with (first | (go_at_call 108; (with_reducible refine (spec_l1Most _ _ _).mono ?_); rintro e w' ⟨rfl, rfl⟩) | ((go_at_call 150; (with_reducible refine (cur_one w5 _ S (K + 4 + 10 * m + 2 + 2) (4) (Cw5.out) (by omega) (by omega) (by omega)).mono ?_); rintro e w6 ⟨t, rfl, hC, hG⟩; have Cw6 := Lib.hid hC; have Gw6 := Lib.hid hG; have Zw6 := hG.size; clear hC hG); have O6 := Lib.hid (O5.out.gen Gw6.out hg); have G6 := Lib.hid (only_trans G5.out Gw6.out); have hz6 := G6.out.size) | (at_builtin; refine wp_app_Sup1 rfl (.tmp 34) (.tmp 40) rfl w6 w.heap.size (.slice A (m + 1) c) rows _ _ t rfl O6.out rfl (m + 1) HL.out (by omega) hz6 ?_; intro A7 c7 w7 ho7 hb7; have O7 := Lib.hid ho7; have B7 := Lib.hid hb7; clear ho7 hb7))
      go_roundg j
      case measure => omega
      case rel => exact ⟨j, m + 1, _, _, A7, c7, _, by omega, by omega, by go_num, rfl, rfl, rfl, by omega, O7, (Cw6.out.belowB B7.out hg).more (by omega), grown_below G6.out B7.out⟩
end Go.Proofs.Ytjfmicemnoglkaa
