/- Profiles that are drawn. -/
import Derived.Test.YthhameglamemkaaDrawP
import Derived.Deep.RegionWith
namespace Go.Proofs.Ythhameglamemkaa
open Go.RowKit
set_option linter.unusedVariables false
set_option linter.unusedSimpArgs false

set_option maxRecDepth 100000 in
set_option maxHeartbeats 4000000 in
theorem cur_profile (w : World) (g : Nat) (S : Src) (K : Nat) (h : Cur w g S K) (hK : K ≤ 800000) :
    Calls Try.prog 63 #[.pointer (some ⟨g, 0, none⟩)] w (DrewS w g S (K + 300) 40) := by
  have H := Lib.hid h
  have hg := h.lt
  have G0 := Lib.hid (World.grownBy.refl w (some g))
  clear h
  go_enter Try.func63, Try.ntmps63
  go_wp2_with (first | (go_at_call 68; refine (cur_among w _ S (K) [0, 0, 10, 50, 100] (fun r => 0 ≤ r ∧ r ≤ 100) _ _ (H.out) (by omega) rfl rfl (by decide) (by decide) (by decide)).mono ?_; rintro e w1 ⟨r, rp, rfl, hC, hG⟩; have Cw1 := Lib.hid hC; have Gw1 := Lib.hid hG; have Zw1 := hG.size; clear hC hG) | (go_at_call 71; (with_reducible refine (cur_pick (w1.alloc (.cells #[.int .i64 r] 3)) _ S (K + 2) (12) (Cw1.out.alloc _) (by omega) (by omega) (by omega)).mono ?_); rintro e w2 ⟨q, ⟨q0, q1⟩, rfl, hC, hG⟩; have Cw2 := Lib.hid hC; have Gw2 := Lib.hid hG; have Zw2 := hG.size; clear hC hG))
  have O2 : Hid (Ow w2 w.heap.size (.slice (some ⟨w1.heap.size, 0, none⟩) 1 1) [r]) := ((Ow.lit w1 [r] (by simp [maxLen]) (Nat.le_refl _)).base Zw1).other Gw2.out (fun k hk => by injection hk with hk; omega)
  have A2 : Hid (Cur w2 g S (K + 4) ∧ w.grownBy w2 (some g)) := ⟨Cw2.out, only_trans (only_alloc Gw1.out _) Gw2.out⟩
  obtain ⟨j0, rfl⟩ := Int.eq_ofNat_of_zero_le q0
  have z2 : w.heap.size ≤ w2.heap.size := A2.out.2.size
  go_loopg [3, 4] 12 (fun gg out i wr => ∃ (k m : Nat) (A : Option Addr) (c : Nat) (zs : List Int), k ≤ gg ∧ k ≤ 12 ∧ i = .int .i64 k ∧ out = .slice A (m + 1) c ∧ m + k ≤ 12 ∧ w.heap.size ≤ wr.heap.size ∧ Hid (Ow wr w.heap.size (.slice A (m + 1) c) zs) ∧ Hid (Cur wr g S (K + 100 - 2 * k) ∧ w.grownBy wr (some g)))
  case atStart => exact ⟨j0, 0, _, _, [r], by omega, by omega, rfl, rfl, by omega, z2, O2, ⟨A2.out.1.more (by omega), A2.out.2⟩⟩
  case round =>
    obtain ⟨k, m, A, c, zs, hk1, hk2, rfl, rfl, hmk, hsz, HO, HC⟩ := hrel
    rcases Nat.eq_zero_or_pos k with h0 | h0
    · subst h0
      have HL := Lib.hid HO.out.len
      go_wp2_with (first | ((go_at_call 71; (with_reducible refine (cur_pick wr _ S (K + 100 - 2 * 0) (32) (HC.out.1) (by omega) (by omega) (by omega)).mono ?_); rintro e w3 ⟨s, ⟨s0, s1⟩, rfl, hC, hG⟩; have Cw3 := Lib.hid hC; have Gw3 := Lib.hid hG; have Zw3 := hG.size; clear hC hG); have HO3 := Lib.hid (HO.out.gen Gw3.out hg); have HG3 := Lib.hid (only_trans HC.out.2 Gw3.out)) | ((go_at_call 71; (with_reducible refine (cur_pick w3 _ S (K + 100 - 2 * 0 + 2) ((m : Int) + 1) (Cw3.out) (by omega) (by omega) (by omega)).mono ?_); rintro e w4 ⟨p, ⟨p0, p1⟩, rfl, hC, hG⟩; have Cw4 := Lib.hid hC; have Gw4 := Lib.hid hG; have Zw4 := hG.size; clear hC hG); obtain ⟨q, rfl⟩ := Int.eq_ofNat_of_zero_le p0; have hq : q < m + 1 := (by omega)) | ((go_at_call 68; refine (cur_among w4 _ S (K + 100 - 2 * 0 + 2 + 2) [-1, 101, 100] (fun r => -1 ≤ r ∧ r ≤ 101) _ _ (Cw4.out) (by omega) rfl rfl (by decide) (by decide) (by decide)).mono ?_; rintro e w5 ⟨y, yp, rfl, hC, hG⟩; have Cw5 := Lib.hid hC; have Gw5 := Lib.hid hG; have Zw5 := hG.size; clear hC hG); obtain ⟨b, x, rfl, hbB, hx, hcx, hfx, hst⟩ := ((HO3.out.gen Gw4.out hg).gen Gw5.out hg).store hq; have HST := Lib.hid hst; have HBB := Lib.hid hbB; clear hst hx hbB))
      · go_ret
        exact DrewS.mk (by omega) (HST.out y).1 ((Cw5.out.far (p := ⟨b, q, none⟩) (by have := HBB.out; simp; omega) _).more (by omega)) (only_setCell (only_trans HG3.out (only_trans Gw4.out Gw5.out)) (.inr HBB.out) _)
      · go_ret
        exact DrewS.mk (by omega) ((Ow.lit0 w3 w3.heap.size (Nat.le_refl _)).base HG3.out.size) ((Cw3.out.alloc _).more (by omega)) (only_alloc HG3.out _)
      · have e0 : (s == 0) = false := by assumption
        have e1 : (s == 1) = false := by assumption
        have e2 : (s == 2) = true := by assumption
        rw [e0, e1, e2]
        go_loopg [3] 40 (fun gg out wx => ∃ (m : Nat) (A : Option Addr) (c : Nat) (zs : List Int), out = .slice A m c ∧ m ≤ 31 ∧ 31 ≤ m + gg ∧ w.heap.size ≤ wx.heap.size ∧ Hid (Ow wx w.heap.size (.slice A m c) zs) ∧ Hid (Cur wx g S (K + 150 + 2 * m) ∧ w.grownBy wx (some g)))
        case atStart => exact ⟨_, _, _, _, rfl, by omega, by omega, HG3.out.size, HO3, ⟨Cw3.out.more (by omega), HG3.out⟩⟩
        case round =>
          obtain ⟨n, A', c', ys, rfl, hn1, hn2, hsx, HOx, HCx⟩ := hrel
          have HLx := Lib.hid HOx.out.len
          go_wp2_with (first | ((go_at_call 71; (with_reducible refine (cur_pick wr _ S (K + 150 + 2 * n) (2) (HCx.out.1) (by omega) (by omega) (by omega)).mono ?_); rintro e w4 ⟨p, ⟨p0, p1⟩, rfl, hC, hG⟩; have Cw4 := Lib.hid hC; have Gw4 := Lib.hid hG; have Zw4 := hG.size; clear hC hG); have HO4 := Lib.hid (HOx.out.gen Gw4.out hg); have HG4 := Lib.hid (only_trans HCx.out.2 Gw4.out); have hz4 := HG4.out.size) | (at_builtin; refine wp_app_int rfl (.tmp 56) (.tmp 57) rfl w4 w.heap.size (.slice A' n c') ys 40 rfl HO4.out rfl (by have := HLx.out; omega) hz4 ?_; intro A1 c1 w5 hown1 hb1; have HO5 := Lib.hid hown1; have HB5 := Lib.hid hb1; clear hown1 hb1))
          · go_roundg (31 - (n + 1))
            case measure => omega
            case rel => exact ⟨n + 1, A1, c1, _, by rw [HLx.out], by omega, by omega, Nat.le_trans hz4 HB5.out.size, (by have h := HO5.out; rw [List.length_append, HLx.out] at h; exact h), ⟨(Cw4.out.belowB HB5.out hg).more (by omega), grown_below HG4.out HB5.out⟩⟩
          · go_wp2_with fail
            go_ret
            exact DrewS.mk (by omega) HO4.out (Cw4.out.more (by omega)) HG4.out
      · go_ret
        exact DrewS.mk (by omega) HO3.out (Cw3.out.more (by omega)) HG3.out
    · obtain ⟨j, rfl⟩ : ∃ j, k = j + 1 := ⟨k - 1, by omega⟩
      have HL := Lib.hid HO.out.len
      obtain ⟨b, off, x, rfl, hx, hc⟩ := HO.out.rd.at1 (show m < m + 1 by omega)
      have hbB : w.heap.size ≤ b := HO.out.block_ge b rfl
      have hbl : b < wr.heap.size := World.block_lt_of_cell? _ _ hc
      have hbg : b ≠ g := by omega
      clear hx
      have u1 : IntKind.i64.wrap (((m + 1 : Nat) : Int) - 1) = (m : Int) := (IntWalk.i64_in _ (by omega)).trans (by omega)
      have u2 : IntKind.i64.wrap ((m : Int) + 1 - 1) = (m : Int) := (IntWalk.i64_in _ (by omega)).trans (by omega)
      go_wp2_with fail
      go_cut [5] from 16 to 25 (fun v wx => ∃ z : Int, v = .int .i64 z ∧ w.heap.size ≤ wx.heap.size ∧ Hid (Ow wx w.heap.size (.slice (some ⟨b, off, none⟩) (m + 1) c) zs) ∧ Hid (Cur wx g S (K + 100 - 2 * j) ∧ w.grownBy wx (some g)))
      case first =>
        have u3 : IntKind.i64.wrap (m : Int) = (m : Int) := IntWalk.i64_in _ (by omega)
        have u4 : m < m + 1 := by omega
        go_region_with ((go_at_call 68; refine (cur_amongD wr _ S (K + 100 - 2 * (j + 1)) [0, 0, 5, -5, 10, -10, 20, -20, 3] (fun r => True) _ _ (HC.out.1) (by omega) rfl rfl (by decide) (by decide) (by decide)).mono ?_; rintro e w3 ⟨s, sp, rfl, hC, hG⟩; have Cw3 := Lib.hid hC; have Gw3 := Lib.hid hG; have Zw3 := hG.size; clear hC hG); have hc3 := cell_grown Gw3.out hc (by intro e; injection e with e; exact hbg e))
        all_goals go_wp2_with fail
        all_goals go_meet
        all_goals exact ⟨_, rfl, (only_trans HC.out.2 Gw3.out).size, HO.out.other Gw3.out (fun k hk => by injection hk with hk; omega), ⟨Cw3.out.more (by omega), only_trans HC.out.2 Gw3.out⟩⟩
      case rest =>
        obtain ⟨z, rfl, hsc, HO3, HC3⟩ := hcut
        clear hc hbl
        go_wp2_with (first | (go_at_call 62; refine (spec_l1Least _ _ _).mono ?_; rintro e w' ⟨rfl, rfl⟩) | (go_at_call 69; refine (spec_l1Most _ _ _).mono ?_; rintro e w' ⟨rfl, rfl⟩) | (at_builtin; refine wp_app_int rfl (.tmp 26) (.tmp 30) rfl wc w.heap.size (.slice (some ⟨b, off, none⟩) (m + 1) c) zs _ rfl HO3.out rfl (by have := HL.out; omega) hsc ?_; intro A1 c1 w4 hown1 hb1; have HO4 := Lib.hid hown1; have HB4 := Lib.hid hb1; clear hown1 hb1))
        go_roundg j
        case measure => omega
        case rel => exact ⟨j, m + 1, A1, c1, _, by omega, by omega, by go_num, by rw [HL.out], by omega, Nat.le_trans hsc (HB4.out.size), (by have h := HO4.out; rw [List.length_append, HL.out] at h; exact h), ⟨HC3.out.1.belowB HB4.out hg, grown_below HC3.out.2 HB4.out⟩⟩
end Go.Proofs.Ythhameglamemkaa
