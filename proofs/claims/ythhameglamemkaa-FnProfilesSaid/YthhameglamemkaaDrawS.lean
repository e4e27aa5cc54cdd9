/- What the generator draws for the laws on profiles: limits, two profiles. -/
import Derived.Test.YthhameglamemkaaDrawR
namespace Go.Proofs.Ythhameglamemkaa
open Go.RowKit
set_option linter.unusedVariables false
set_option linter.unusedSimpArgs false

set_option maxHeartbeats 1000000 in
theorem draw_FastestUnder (w : World) (S : Src) (h : S.ok w) : Calls Try.prog 37 #[.slice S.A S.n S.c] w (GenSII w 40) := by
  have H := Lib.hid (Cur.new h)
  go_enter Try.func37, Try.ntmps37
  go_wp2_with fail
  refine (cur_profile _ _ S 0 H.out (by omega)).mono ?_
  rintro e w1 ⟨A, c, zs, rfl, hl, ho, hC, hG⟩
  have HO := Lib.hid ho
  have HC := Lib.hid hC
  have HG := Lib.hid hG
  have hz := hG.size
  have hlt := hC.lt
  simp at hz
  clear ho hC hG
  rcases Nat.eq_zero_or_pos zs.length with h0 | h0
  · have H0 := Lib.hid h0
    go_wp2_with (first | (go_at_call 64; refine (cur_speed _ _ S 300 HC.out (by omega)).mono ?_; rintro e w2 ⟨r, rp, rfl, hC, hG⟩; have Cw2 := Lib.hid hC; have Gw2 := Lib.hid hG; have Zw2 := hG.size; clear hC hG) | (go_at_call 66; refine (cur_rate _ _ S 302 Cw2.out (by omega)).mono ?_; rintro e w3 ⟨q, qp, rfl, hC, hG⟩; have Cw3 := Lib.hid hC; have Gw3 := Lib.hid hG; have Zw3 := hG.size; clear hC hG))
    go_ret3
    exact ⟨A, c, zs, r, q, by simp [h0], hl, ((HO.out.gen Gw2.out (by simp)).gen Gw3.out (by simp)).base (by simp), below_gen (only_trans HG.out (only_trans Gw2.out Gw3.out))⟩
  · obtain ⟨b, off, x, rfl, hx, hc⟩ := HO.out.rd.at1 h0
    have hbB := HO.out.block_ge b rfl
    simp at hbB
    have hne : some b ≠ some w.heap.size := by intro e; injection e with e; omega
    rw [Nat.add_zero] at hc
    have K0 := Lib.hid hc
    clear hc hx
    go_wp2_with (first | (go_at_call 64; refine (cur_speed _ _ S 300 HC.out (by omega)).mono ?_; rintro e w2 ⟨r, rp, rfl, hC, hG⟩; have Cw2 := Lib.hid hC; have Gw2 := Lib.hid hG; have Zw2 := hG.size; clear hC hG) | ((go_at_call 65; (with_reducible refine (cur_one w2 _ S (302) (2) (Cw2.out) (by omega) (by omega) (by omega)).mono ?_); rintro e w3 ⟨t, rfl, hC, hG⟩; have Cw3 := Lib.hid hC; have Gw3 := Lib.hid hG; have Zw3 := hG.size; clear hC hG); have hc := cell_grown Gw3.out (cell_grown Gw2.out K0.out hne) hne))
    all_goals go_wp2_with (first | (go_at_call 62; refine (spec_l1Least _ _ _).mono ?_; rintro e w' ⟨rfl, rfl⟩) | (go_at_call 66; refine (cur_rate _ _ S 304 Cw3.out (by omega)).mono ?_; rintro e w4 ⟨q, qp, rfl, hC, hG⟩; have Cw4 := Lib.hid hC; have Gw4 := Lib.hid hG; have Zw4 := hG.size; clear hC hG))
    all_goals go_ret3
    all_goals exact ⟨_, c, zs, _, _, rfl, hl, (((HO.out.gen Gw2.out (by simp)).gen Gw3.out (by simp)).gen Gw4.out (by simp)).base (by simp), below_gen (only_trans HG.out (only_trans Gw2.out (only_trans Gw3.out Gw4.out)))⟩

set_option maxHeartbeats 1000000 in
theorem draw_JoinProfiles (w : World) (S : Src) (h : S.ok w) : Calls Try.prog 39 #[.slice S.A S.n S.c] w (GenSS w 40) := by
  have H := Lib.hid (Cur.new h)
  go_enter Try.func39, Try.ntmps39
  go_wp2_with fail
  refine (cur_profile _ _ S 0 H.out (by omega)).mono ?_
  rintro e w1 ⟨A, c, zs, rfl, hl, ho, hC, hG⟩
  have hz := hG.size
  have hlt := hC.lt
  simp at hz
  go_wp2_with fail
  refine (cur_profile _ _ S 300 hC (by omega)).mono ?_
  rintro e w2 ⟨A', c', ys, rfl, hl', ho', hC', hG'⟩
  have HO := Lib.hid (ho.gen hG' (by simp))
  have HLT := Lib.hid ho.block_lt
  have HO' := Lib.hid ho'
  have HC' := Lib.hid hC'
  have HG' := Lib.hid (only_trans hG hG')
  have hz' := hG'.size
  clear ho hC hG ho' hC' hG'
  rcases Nat.eq_zero_or_pos zs.length with h0 | h0
  · have H0 := Lib.hid h0
    go_wp2_with fail
    go_ret2
    exact ⟨A, c, zs, A', c', ys, by simp [h0], hl, hl', HO.out.base (by simp), HO'.out.base (by omega), below_gen HG'.out⟩
  rcases Nat.eq_zero_or_pos ys.length with h1 | h1
  · have H1 := Lib.hid h1
    go_wp2_with fail
    go_ret2
    exact ⟨A, c, zs, A', c', ys, by simp [h1], hl, hl', HO.out.base (by simp), HO'.out.base (by omega), below_gen HG'.out⟩
  obtain ⟨m, hm⟩ : ∃ m, zs.length = m + 1 := ⟨zs.length - 1, by omega⟩
  obtain ⟨b, off, x, rfl, hx, hc⟩ := HO.out.rd.at1 (show m < zs.length by omega)
  have hbl : b < w2.heap.size := World.block_lt_of_cell? _ _ hc
  have hbB := HO.out.block_ge b rfl
  simp at hbB
  have hne : some b ≠ some w.heap.size := by intro e; injection e with e; omega
  have K0 := Lib.hid hc
  clear hc hx
  have HM := Lib.hid hm
  have u1 : IntKind.i64.wrap (((m + 1 : Nat) : Int) - 1) = (m : Int) := (IntWalk.i64_in _ (by omega)).trans (by omega)
  go_wp2_with fail
  refine (cur_one _ _ S 600 5 HC'.out (by omega) (by omega) (by omega)).mono ?_
  rintro e w3 ⟨t, rfl, hC3, hG3⟩
  have hc3 := cell_grown hG3 K0.out hne
  have HO3 := Lib.hid (HO.out.gen hG3 (by simp))
  have HO3' := Lib.hid (HO'.out.gen hG3 (by omega))
  have HG3 := Lib.hid (only_trans HG'.out hG3)
  have hz3 := hG3.size
  clear hC3 hG3
  rcases t with _ | _
  · obtain ⟨b', y, rfl, hb', hy, hcy, hfy, hst⟩ := HO3'.out.store h1
    have HST := Lib.hid (hst x)
    have hbb : b' ≠ b := by have := HLT.out b rfl; omega
    clear hst hy
    rw [hm] at HO3
    go_wp2_with fail
    go_ret2
    refine ⟨some ⟨b, off, none⟩, c, zs, some ⟨b', 0, none⟩, c', ys.set 0 x, by rw [List.length_set, hm]; rfl, hl, by rw [List.length_set]; exact hl', ?_, ?_, ?_⟩
    · rw [hm]
      exact (HO3.out.other2 HST.out.2 (B2 := w1.heap.size) (fun k hk => HLT.out k hk) (fun k hk => by injection hk with hk; omega)).base (by simp)
    · rw [List.length_set]
      exact HST.out.1.base (by omega)
    · exact below_gen (only_setCell HG3.out (.inr (by simp; omega)) _)
  · go_wp2_with fail
    go_ret2
    exact ⟨some ⟨b, off, none⟩, c, zs, A', c', ys, by rw [hm]; rfl, hl, hl', HO3.out.base (by simp), HO3'.out.base (by omega), below_gen HG3.out⟩
end Go.Proofs.Ythhameglamemkaa
