/- What the generator draws for the laws on tickets. -/
import Derived.Test.YtobcgcdjoogfnaaDrawU
import Derived.Test.YtobcgcdjoogfnaaPut
import Derived.Deep.RegionHeld3
namespace Go.Proofs.Ytobcgcdjoogfnaa
open Go.RowKit
set_option linter.unusedVariables false
set_option linter.unusedSimpArgs false

def GenRI (w : World) (m : Nat) (e : Ending) (w' : World) : Prop := ∃ A c rows, ∃ a : Int, e = .returned (.tuple #[.slice A rows.length c, .int .i64 a]) ∧ rows.length ≤ m ∧ OwR w' w.heap.size 25 5 (.slice A rows.length c) rows ∧ Below w.heap.size w w'
def GenRII (w : World) (m : Nat) (e : Ending) (w' : World) : Prop := ∃ A c rows, ∃ a b : Int, e = .returned (.tuple #[.slice A rows.length c, .int .i64 a, .int .i64 b]) ∧ rows.length ≤ m ∧ OwR w' w.heap.size 25 5 (.slice A rows.length c) rows ∧ Below w.heap.size w w'
def GenRIIB (w : World) (m : Nat) (e : Ending) (w' : World) : Prop := ∃ A c rows, ∃ a b : Int, ∃ t : Bool, e = .returned (.tuple #[.slice A rows.length c, .int .i64 a, .int .i64 b, .bool t]) ∧ rows.length ≤ m ∧ OwR w' w.heap.size 25 5 (.slice A rows.length c) rows ∧ Below w.heap.size w w'
def GenTIB (w : World) (e : Ending) (w' : World) : Prop := ∃ x0 x1 x2 x3 x4 a : Int, ∃ t : Bool, e = .returned (.tuple #[.agg #[.int .i64 x0, .int .i64 x1, .int .i64 x2, .int .i64 x3, .int .i64 x4], .int .i64 a, .bool t]) ∧ Below w.heap.size w w'

set_option maxHeartbeats 1000000 in
theorem draw_ExpiredOn (w : World) (S : Src) (h : S.ok w) : Calls Try.prog 54 #[.slice S.A S.n S.c] w (GenRI w 20) := by
  have H := Lib.hid (Cur.new h)
  go_enter Try.func54, Try.ntmps54
  go_wp2_with fail
  refine (cur_tickets _ _ S 0 H.out (by omega)).mono ?_
  rintro e w1 ⟨A, c, rows, rfl, hl, ho, hC, hG⟩
  have HO := Lib.hid ho
  have HC := Lib.hid hC
  have HG := Lib.hid hG
  clear ho hC hG
  go_wp2_with (go_at_call 79; refine (cur_day11 w1 _ S 3000 HC.out (by omega)).mono ?_; rintro e w2 ⟨r, rp, rfl, hC, hG⟩; have Cw2 := Lib.hid hC; have Gw2 := Lib.hid hG; have Zw2 := hG.size; clear hC hG)
  go_ret2
  exact ⟨A, c, rows, r, rfl, hl, (HO.out.gen Gw2.out (by simp)).base (by simp), below_gen (only_trans HG.out Gw2.out)⟩
set_option maxHeartbeats 1000000 in
theorem draw_SellTicket (w : World) (S : Src) (h : S.ok w) : Calls Try.prog 52 #[.slice S.A S.n S.c] w (GenRII w 20) := by
  have H := Lib.hid (Cur.new h)
  go_enter Try.func52, Try.ntmps52
  go_wp2_with fail
  refine (cur_tickets _ _ S 0 H.out (by omega)).mono ?_
  rintro e w1 ⟨A, c, rows, rfl, hl, ho, hC, hG⟩
  have HO := Lib.hid ho
  have HC := Lib.hid hC
  have HG := Lib.hid hG
  have hg := hC.lt
  clear ho hC hG
  go_wp2_with ((go_at_call 77; (with_reducible refine (cur_pick _ _ S (3000) (24) (HC.out.alloc _) (by omega) (by omega) (by omega)).mono ?_); rintro e w2 ⟨r, ⟨r0, r1⟩, rfl, hC, hG⟩; have Cw2 := Lib.hid hC; have Gw2 := Lib.hid hG; have Zw2 := hG.size; clear hC hG); obtain ⟨j, rfl⟩ := Int.eq_ofNat_of_zero_le r0)
  refine (cur_amongW w2 _ S (3000 + 2) ([0, 1, 2, 3, -1, 4].take (4 + j / 11)) (fun r => -1 ≤ r ∧ r ≤ 1000) _ _ _ Cw2.out (by omega) (rd_cut (n := 6) Gw2.out hg rfl rfl (by omega)) (by intro b off e; injection e with e; injection e with e1 e2; omega) (by omega) (by omega) (fun y hy => (show ∀ y ∈ ([0, 1, 2, 3, -1, 4] : List Int), -1 ≤ y ∧ y ≤ 1000 from by decide) y (List.mem_of_mem_take hy))).mono ?_
  rintro e w3 ⟨q, hq, rfl, hC, hG⟩
  have HC3 := Lib.hid hC
  have HG3 := Lib.hid (only_trans (only_trans (only_alloc (World.grownBy.refl w1 _) _) Gw2.out) hG)
  clear hC hG
  go_wp2_with (go_at_call 79; refine (cur_day11 w3 _ S (3000 + 2 + 2) HC3.out (by omega)).mono ?_; rintro e w4 ⟨d, dp, rfl, hC, hG⟩; have Cw4 := Lib.hid hC; have Gw4 := Lib.hid hG; have Zw4 := hG.size; clear hC hG)
  go_ret3
  exact ⟨A, c, rows, q, d, rfl, hl, ((HO.out.gen HG3.out (by simp)).gen Gw4.out (by simp)).base (by simp), below_gen (only_trans HG.out (only_trans HG3.out Gw4.out))⟩
set_option maxHeartbeats 2000000 in
theorem draw_UseTicket (w : World) (S : Src) (h : S.ok w) : Calls Try.prog 50 #[.slice S.A S.n S.c] w (GenRIIB w 20) := by
  have H := Lib.hid (Cur.new h)
  go_enter Try.func50, Try.ntmps50
  go_wp2_with fail
  refine (cur_tickets _ _ S 0 H.out (by omega)).mono ?_
  rintro e w1 ⟨A, c, rows, rfl, hl, ho, hC, hG⟩
  have HO := Lib.hid ho
  have HC := Lib.hid hC
  have HG := Lib.hid hG
  have hg := hC.lt
  clear ho hC hG
  rcases Nat.eq_zero_or_pos rows.length with h0 | h0
  · have H0 := Lib.hid h0
    go_wp2_with (first | (go_at_call 76; refine (cur_among w1 _ S (3000) [0, 1, 50] (fun r => 0 ≤ r ∧ r ≤ 50) _ _ (HC.out) (by omega) rfl rfl (by decide) (by decide) (by decide)).mono ?_; rintro e w2 ⟨r, rp, rfl, hC, hG⟩; have Cw2 := Lib.hid hC; have Gw2 := Lib.hid hG; have Zw2 := hG.size; clear hC hG) | (go_at_call 79; refine (cur_day11 w2 _ S (3000 + 2) Cw2.out (by omega)).mono ?_; rintro e w3 ⟨d, dp, rfl, hC, hG⟩; have Cw3 := Lib.hid hC; have Gw3 := Lib.hid hG; have Zw3 := hG.size; clear hC hG) | (go_at_call 81; (with_reducible refine (cur_one w3 _ S (3000 + 2 + 4) (2) (Cw3.out) (by omega) (by omega) (by omega)).mono ?_); rintro e w4 ⟨t, rfl, hC, hG⟩; have Cw4 := Lib.hid hC; have Gw4 := Lib.hid hG; have Zw4 := hG.size; clear hC hG))
    go_light
    refine bodyPost_ret (v := .tuple #[.slice A rows.length c, .int .i64 r, .int .i64 d, .bool t]) ?_ rfl ⟨A, c, rows, r, d, t, rfl, hl, (((HO.out.gen Gw2.out (by simp)).gen Gw3.out (by simp)).gen Gw4.out (by simp)).base (by simp), below_gen (only_trans HG.out (only_trans Gw2.out (only_trans Gw3.out Gw4.out)))⟩
    simp [results, Try.results50, go_sem, h0]
  · go_wp2_with ((go_at_call 81; (with_reducible refine (cur_one w1 _ S (3000) (8) (HC.out) (by omega) (by omega) (by omega)).mono ?_); rintro e w5 ⟨t0, rfl, hC, hG⟩; have Cw5 := Lib.hid hC; have Gw5 := Lib.hid hG; have Zw5 := hG.size; clear hC hG); have O5 := Lib.hid (HO.out.gen Gw5.out (by simp)); have G5 := Lib.hid (only_trans HG.out Gw5.out))
    · (go_at_call 77; (with_reducible refine (cur_pick w5 _ S (3000 + 2) ((rows.length : Int)) (Cw5.out) (by omega) (by omega) (by omega)).mono ?_); rintro e w6 ⟨k0, ⟨k00, k01⟩, rfl, hC, hG⟩; have Cw6 := Lib.hid hC; have Gw6 := Lib.hid hG; have Zw6 := hG.size; clear hC hG)
      obtain ⟨k, rfl⟩ := Int.eq_ofNat_of_zero_le k00
      have hk : k < rows.length := by omega
      have O6 := Lib.hid (O5.out.gen Gw6.out (by simp))
      have G6 := Lib.hid (only_trans G5.out Gw6.out)
      obtain ⟨b, off, x0, x1, x2, x3, x4, rfl, hr, hbl, c0, c1, c2, c3, c4⟩ := O6.out.rdR.row5 hk
      clear hr
      go_upto_region 5 with fail
      have hpB := Blk.new w6 25 #[.int .i64 x0, .int .i64 x1, .int .i64 x2, .int .i64 x3, .int .i64 x4]
      have X6 := Lib.hid (Cw6.out.alloc (.cells #[.int .i64 x0, .int .i64 x1, .int .i64 x2, .int .i64 x3, .int .i64 x4] 25))
      have hgx : w6.grownBy (w6.alloc (.cells #[.int .i64 x0, .int .i64 x1, .int .i64 x2, .int .i64 x3, .int .i64 x4] 25)) (some w.heap.size) := only_alloc (World.grownBy.refl w6 _) _
      have O7 := Lib.hid (O6.out.gen hgx (by simp))
      have G7 := Lib.hid (only_trans G6.out hgx)
      have hpl : w6.heap.size < (w6.alloc (.cells #[.int .i64 x0, .int .i64 x1, .int .i64 x2, .int .i64 x3, .int .i64 x4] 25)).heap.size := by simp
      have hne : some w6.heap.size ≠ some w.heap.size := by
        have := G6.out.size
        simp at this
        intro e
        injection e with e
        omega
      clear c0 c1 c2 c3 c4 hgx
      generalize w6.alloc (.cells #[.int .i64 x0, .int .i64 x1, .int .i64 x2, .int .i64 x3, .int .i64 x4] 25) = wx at *
      obtain ⟨c0, c1, c2, c3, c4⟩ := hpB.cells5
      have PB := Lib.hid hpB
      clear hpB
      generalize hp : w6.heap.size = p at *
      have HP := Lib.hid hp
      clear hp
      go_region_held3 (fun w' => w'.cell? ⟨p, 0, none⟩ = some (.int .i64 x0) ∧ w'.cell? ⟨p, 2, none⟩ = some (.int .i64 x2)) (first | exact ⟨c0, c2⟩ | exact ⟨(World.cell?_alloc_lt _ _ _ hpl).trans c0, (World.cell?_alloc_lt _ _ _ hpl).trans c2⟩) (first | ((go_at_call 76; refine (cur_amongD wx _ S (3000 + 2 + 2) [0, 0, 1, 2, 364, 365] (fun r => 0 ≤ r ∧ r ≤ 365) _ _ (X6.out) (by omega) rfl rfl (by decide) (by decide) (by decide)).mono ?_; rintro e w8 ⟨r, rp, rfl, hC, hG⟩; have Cw8 := Lib.hid hC; have Gw8 := Lib.hid hG; have Zw8 := hG.size; clear hC hG); have c0 := cell_grown Gw8.out c0 hne; have c2 := cell_grown Gw8.out c2 hne) | ((go_at_call 81; (with_reducible refine (cur_one w8 _ S (3000 + 2 + 2 + 2) (2) (Cw8.out) (by omega) (by omega) (by omega)).mono ?_); rintro e w9 ⟨t, rfl, hC, hG⟩; have Cw9 := Lib.hid hC; have Gw9 := Lib.hid hG; have Zw9 := hG.size; clear hC hG); have c0 := cell_grown Gw9.out c0 hne; have c2 := cell_grown Gw9.out c2 hne))
      all_goals go_wp2_with fail
      all_goals go_light
      all_goals refine bodyPost_ret (v := .tuple #[.slice (some ⟨b, off, none⟩) rows.length c, .int .i64 x0, .int .i64 (IntKind.i64.wrap (x2 + r)), .bool t]) ?_ rfl ⟨_, c, rows, _, _, t, rfl, hl, ((O7.out.gen Gw8.out (by simp)).gen Gw9.out (by simp)).base (by simp), below_gen (only_trans G7.out (only_trans Gw8.out Gw9.out))⟩
      all_goals simp [results, Try.results50, go_sem]
    · go_wp2_with (first | (go_at_call 76; refine (cur_among w5 _ S (3000 + 2) [0, 1, 50] (fun r => 0 ≤ r ∧ r ≤ 50) _ _ (Cw5.out) (by omega) rfl rfl (by decide) (by decide) (by decide)).mono ?_; rintro e w2 ⟨r, rp, rfl, hC, hG⟩; have Cw2 := Lib.hid hC; have Gw2 := Lib.hid hG; have Zw2 := hG.size; clear hC hG) | (go_at_call 79; refine (cur_day11 w2 _ S (3000 + 2 + 2) Cw2.out (by omega)).mono ?_; rintro e w3 ⟨d, dp, rfl, hC, hG⟩; have Cw3 := Lib.hid hC; have Gw3 := Lib.hid hG; have Zw3 := hG.size; clear hC hG) | (go_at_call 81; (with_reducible refine (cur_one w3 _ S (3000 + 2 + 2 + 4) (2) (Cw3.out) (by omega) (by omega) (by omega)).mono ?_); rintro e w4 ⟨t, rfl, hC, hG⟩; have Cw4 := Lib.hid hC; have Gw4 := Lib.hid hG; have Zw4 := hG.size; clear hC hG))
      go_light
      refine bodyPost_ret (v := .tuple #[.slice A rows.length c, .int .i64 r, .int .i64 d, .bool t]) ?_ rfl ⟨A, c, rows, r, d, t, rfl, hl, (((O5.out.gen Gw2.out (by simp)).gen Gw3.out (by simp)).gen Gw4.out (by simp)).base (by simp), below_gen (only_trans G5.out (only_trans Gw2.out (only_trans Gw3.out Gw4.out)))⟩
      simp [results, Try.results50, go_sem]
end Go.Proofs.Ytobcgcdjoogfnaa
