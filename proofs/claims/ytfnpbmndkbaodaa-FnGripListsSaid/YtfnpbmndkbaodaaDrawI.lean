/- What the generator draws for the laws on grips. -/
import Derived.Test.YtfnpbmndkbaodaaDrawH
import Derived.Test.YtfnpbmndkbaodaaPut
import Derived.Deep.RegionHeld3
namespace Go.Proofs.Ytfnpbmndkbaodaa
open Go.RowKit
set_option linter.unusedVariables false
set_option linter.unusedSimpArgs false

def GenRI (w : World) (m : Nat) (e : Ending) (w' : World) : Prop := ∃ A c rows, ∃ a : Int, e = .returned (.tuple #[.slice A rows.length c, .int .i64 a]) ∧ rows.length ≤ m ∧ OwR w' w.heap.size 48 5 (.slice A rows.length c) rows ∧ Below w.heap.size w w'
def GenRIII (w : World) (m : Nat) (e : Ending) (w' : World) : Prop := ∃ A c rows, ∃ a b d : Int, e = .returned (.tuple #[.slice A rows.length c, .int .i64 a, .int .i64 b, .int .i64 d]) ∧ rows.length ≤ m ∧ OwR w' w.heap.size 48 5 (.slice A rows.length c) rows ∧ Below w.heap.size w w'

set_option maxHeartbeats 1000000 in
theorem cur_gripOf (w : World) (g B : Nat) (S : Src) (K m : Nat) (A : Option Addr) (n c : Nat) (rows : List (List Int)) (h : Cur w g S K) (hK : K ≤ 800000) (ho : OwR w B 48 5 (.slice A n c) rows) (hg : g < B) (hn : n ≤ 20) :
    Calls Try.prog 76 #[.pointer (some ⟨g, 0, none⟩), .slice A n c] w (Drew w g S (K + 6) fun r => True) := by
  have H := Lib.hid h
  have HO := Lib.hid ho
  clear h ho
  go_enter Try.func76, Try.ntmps76
  rcases Nat.eq_zero_or_pos n with h0 | h0
  · subst h0
    go_wp2_with (go_at_call 77; refine (cur_among w _ S (K) [0, 1, 50] (fun r => 0 ≤ r ∧ r ≤ 50) _ _ (H.out) (by omega) rfl rfl (by decide) (by decide) (by decide)).mono ?_; rintro e w2 ⟨r, rp, rfl, hC, hG⟩; have Cw2 := Lib.hid hC; have Gw2 := Lib.hid hG; have Zw2 := hG.size; clear hC hG)
    go_ret
    exact Drew.mk trivial rfl (Cw2.out.more (by omega)) Gw2.out
  · go_wp2_with ((go_at_call 82; (with_reducible refine (cur_one w _ S (K) (8) (H.out) (by omega) (by omega) (by omega)).mono ?_); rintro e w5 ⟨t0, rfl, hC, hG⟩; have Cw5 := Lib.hid hC; have Gw5 := Lib.hid hG; have Zw5 := hG.size; clear hC hG); have O5 := Lib.hid (HO.out.gen Gw5.out hg))
    · (go_at_call 77; refine (cur_among w5 _ S (K + 2) [0, 1, 50] (fun r => 0 ≤ r ∧ r ≤ 50) _ _ (Cw5.out) (by omega) rfl rfl (by decide) (by decide) (by decide)).mono ?_; rintro e w2 ⟨r, rp, rfl, hC, hG⟩; have Cw2 := Lib.hid hC; have Gw2 := Lib.hid hG; have Zw2 := hG.size; clear hC hG)
      go_wp2_with fail
      go_ret
      exact Drew.mk trivial rfl (Cw2.out.more (by omega)) (only_trans Gw5.out Gw2.out)
    · (go_at_call 78; (with_reducible refine (cur_pick w5 _ S (K + 2) ((n : Int)) (Cw5.out) (by omega) (by omega) (by omega)).mono ?_); rintro e w6 ⟨k0, ⟨k00, k01⟩, rfl, hC, hG⟩; have Cw6 := Lib.hid hC; have Gw6 := Lib.hid hG; have Zw6 := hG.size; clear hC hG)
      obtain ⟨k, rfl⟩ := Int.eq_ofNat_of_zero_le k00
      have hk : k < n := by omega
      have O6 := Lib.hid (O5.out.gen Gw6.out hg)
      obtain ⟨b, off, x0, x1, x2, x3, x4, rfl, hr, hbl, c0, c1, c2, c3, c4⟩ := O6.out.rdR.row5 (k := k) (by have := HO.out.len_; omega)
      clear hr
      go_wp2_with fail
      go_ret
      exact Drew.mk trivial rfl (Cw6.out.more (by omega)) (only_trans Gw5.out Gw6.out)
set_option maxHeartbeats 1000000 in
theorem draw_DueTests (w : World) (S : Src) (h : S.ok w) : Calls Try.prog 42 #[.slice S.A S.n S.c] w (GenRI w 20) := by
  have H := Lib.hid (Cur.new h)
  go_enter Try.func42, Try.ntmps42
  go_wp2_with fail
  refine (cur_grips _ _ S 0 H.out (by omega)).mono ?_
  rintro e w1 ⟨A, c, rows, rfl, hl, ho, hC, hG⟩
  have HO := Lib.hid ho
  have HC := Lib.hid hC
  have HG := Lib.hid hG
  have hg := hC.lt
  clear ho hC hG
  go_wp2_with ((go_at_call 78; (with_reducible refine (cur_pick _ _ S (3000) (24) (HC.out.alloc _) (by omega) (by omega) (by omega)).mono ?_); rintro e w2 ⟨r, ⟨r0, r1⟩, rfl, hC, hG⟩; have Cw2 := Lib.hid hC; have Gw2 := Lib.hid hG; have Zw2 := hG.size; clear hC hG); obtain ⟨j, rfl⟩ := Int.eq_ofNat_of_zero_le r0)
  refine (cur_amongW w2 _ S (3000 + 2) ([110, 190, 191, 9999, 9999, 50, -1, 10000].take (6 + j / 11)) (fun r => -1 ≤ r ∧ r ≤ 10000) _ _ _ Cw2.out (by omega) (rd_cut (n := 8) Gw2.out hg rfl rfl (by omega)) (by intro b off e; injection e with e; injection e with e1 e2; omega) (by omega) (by omega) (fun y hy => (show ∀ y ∈ ([110, 190, 191, 9999, 9999, 50, -1, 10000] : List Int), -1 ≤ y ∧ y ≤ 10000 from by decide) y (List.mem_of_mem_take hy))).mono ?_
  rintro e w3 ⟨q, hq, rfl, hC, hG⟩
  have HG3 := Lib.hid (only_trans (only_trans (only_alloc (World.grownBy.refl w1 _) _) Gw2.out) hG)
  clear hC hG
  go_wp2_with fail
  go_ret2
  exact ⟨A, c, rows, q, rfl, hl, (HO.out.gen HG3.out (by simp)).base (by simp), below_gen (only_trans HG.out HG3.out)⟩
set_option maxHeartbeats 1000000 in
theorem draw_TestGrip (w : World) (S : Src) (h : S.ok w) : Calls Try.prog 38 #[.slice S.A S.n S.c] w (GenRIII w 20) := by
  have H := Lib.hid (Cur.new h)
  go_enter Try.func38, Try.ntmps38
  go_wp2_with fail
  refine (cur_grips _ _ S 0 H.out (by omega)).mono ?_
  rintro e w0 ⟨A, c, rows, rfl, hl, ho, hC, hG⟩
  have HO0 := Lib.hid ho
  have HC0 := Lib.hid hC
  have HG0 := Lib.hid hG
  clear ho hC hG
  go_wp2_with fail
  refine (cur_gripOf w0 _ _ S 3000 20 A _ c rows HC0.out (by omega) HO0.out (by simp) (by omega)).mono ?_
  rintro e w1 ⟨cab, hcab, rfl, hC, hG⟩
  have HO := Lib.hid (HO0.out.gen hG (by simp))
  have HC := Lib.hid hC
  have HG := Lib.hid (only_trans HG0.out hG)
  have hg := hC.lt
  clear hC hG hcab
  go_wp2_with ((go_at_call 78; (with_reducible refine (cur_pick _ _ S (3006) (24) (HC.out.alloc _) (by omega) (by omega) (by omega)).mono ?_); rintro e w2 ⟨r, ⟨r0, r1⟩, rfl, hC, hG⟩; have Cw2 := Lib.hid hC; have Gw2 := Lib.hid hG; have Zw2 := hG.size; clear hC hG); obtain ⟨j, rfl⟩ := Int.eq_ofNat_of_zero_le r0)
  refine (cur_amongW w2 _ S (3006 + 2) ([0, 300, 5000, -1, 5001].take (3 + j / 11)) (fun r => -1 ≤ r ∧ r ≤ 5001) _ _ _ Cw2.out (by omega) (rd_cut (n := 5) Gw2.out hg rfl rfl (by omega)) (by intro b off e; injection e with e; injection e with e1 e2; omega) (by omega) (by omega) (fun y hy => (show ∀ y ∈ ([0, 300, 5000, -1, 5001] : List Int), -1 ≤ y ∧ y ≤ 5001 from by decide) y (List.mem_of_mem_take hy))).mono ?_
  rintro e w3 ⟨q, hq, rfl, hC, hG⟩
  have HC3 := Lib.hid hC
  have HG3 := Lib.hid (only_trans (only_trans (only_alloc (World.grownBy.refl w1 _) _) Gw2.out) hG)
  clear hC hG
  go_wp2_with (go_at_call 77; refine (cur_among w3 _ S (3006 + 2 + 2) [0, 100, 200, 9999, 10000] (fun r => 0 ≤ r ∧ r ≤ 10000) _ _ (HC3.out) (by omega) rfl rfl (by decide) (by decide) (by decide)).mono ?_; rintro e w4 ⟨d, dp, rfl, hC, hG⟩; have Cw4 := Lib.hid hC; have Gw4 := Lib.hid hG; have Zw4 := hG.size; clear hC hG)
  go_light
  refine bodyPost_ret (v := .tuple #[.slice A rows.length c, .int .i64 cab, .int .i64 q, .int .i64 d]) ?_ rfl ⟨A, c, rows, cab, q, d, rfl, hl, ((HO.out.gen HG3.out (by simp)).gen Gw4.out (by simp)).base (by simp), below_gen (only_trans HG.out (only_trans HG3.out Gw4.out))⟩
  simp [results, Try.results38, go_sem]
end Go.Proofs.Ytfnpbmndkbaodaa
