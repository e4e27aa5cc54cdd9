/- Lists of damages that are drawn. -/
import Derived.Test.YtjfmicemnoglkaaDrwO
namespace Go.Proofs.Ytjfmicemnoglkaa
open Go.RowKit
set_option linter.unusedVariables false
set_option linter.unusedSimpArgs false

set_option maxRecDepth 100000 in
set_option maxHeartbeats 8000000 in
theorem cur_damages (w : World) (g : Nat) (S : Src) (K : Nat) (y0 y1 y2 y3 y4 : Int) (h : Cur w g S K) (hK : K ≤ 700000) :
    Calls Try.prog 136 #[.pointer (some ⟨g, 0, none⟩), .agg #[.int .i64 y0, .int .i64 y1, .int .i64 y2, .int .i64 y3, .int .i64 y4]] w (DrewDamages w g S (K + 200) 20) := by
  have hg := h.lt
  have hgl : g < w.heap.size + 1 := by omega
  have H : Hid (Cur (w.alloc (.cells #[.int .i64 y0, .int .i64 y1, .int .i64 y2, .int .i64 y3, .int .i64 y4] 85)) g S K) := Lib.hid (h.alloc _)
  have HWV : Hid (w.grownBy (w.alloc (.cells #[.int .i64 y0, .int .i64 y1, .int .i64 y2, .int .i64 y3, .int .i64 y4] 85)) (some g)) := Lib.hid (only_alloc (World.grownBy.refl w _) _)
  have hgs : (w.alloc (.cells #[.int .i64 y0, .int .i64 y1, .int .i64 y2, .int .i64 y3, .int .i64 y4] 85)).heap.size = w.heap.size + 1 := by simp
  have KB : Hid (∀ wr : World, (w.alloc (.cells #[.int .i64 y0, .int .i64 y1, .int .i64 y2, .int .i64 y3, .int .i64 y4] 85)).grownBy wr (some g) → Blk wr w.heap.size 85 #[.int .i64 y0, .int .i64 y1, .int .i64 y2, .int .i64 y3, .int .i64 y4]) := Lib.hid (fun wr hG => (Blk.new w _ _).grown hG (by intro e; injection e with e; omega))
  have O0 : Hid (OwR ((w.alloc (.cells #[.int .i64 y0, .int .i64 y1, .int .i64 y2, .int .i64 y3, .int .i64 y4] 85)).alloc (.cells #[] 92)) (w.heap.size + 1) 92 3 (.slice (some ⟨w.heap.size + 1, 0, none⟩) 0 0) []) := Lib.hid (by have := OwR.lit0 (w.alloc (.cells #[.int .i64 y0, .int .i64 y1, .int .i64 y2, .int .i64 y3, .int .i64 y4] 85)) (w.heap.size + 1) 92 3 (by omega); rw [hgs] at this; exact this)
  clear h
  go_enter Try.func136, Try.ntmps136
  go_wp2_with (go_at_call 125; (with_reducible refine (cur_pick _ _ S (K) (9) (H.out.alloc _) (by omega) (by omega) (by omega)).mono ?_); rintro e w1 ⟨n0, ⟨n00, n01⟩, rfl, hC, hG⟩; have Cw1 := Lib.hid hC; have Gw1 := Lib.hid hG; have Zw1 := hG.size; clear hC hG)
  obtain ⟨j0, rfl⟩ := Int.eq_ofNat_of_zero_le n00
  have O1 := Lib.hid (O0.out.gen Gw1.out hgl)
  have A1 : Hid (Cur w1 g S (K + 2) ∧ (w.alloc (.cells #[.int .i64 y0, .int .i64 y1, .int .i64 y2, .int .i64 y3, .int .i64 y4] 85)).grownBy w1 (some g)) := ⟨Cw1.out, only_trans (only_alloc (World.grownBy.refl _ _) _) Gw1.out⟩
  clear H O0 Cw1 Gw1 Zw1
  generalize w.alloc (.cells #[.int .i64 y0, .int .i64 y1, .int .i64 y2, .int .i64 y3, .int .i64 y4] 85) = v at *
  have HGS := Lib.hid hgs
  clear hgs
  go_loopg [5, 6] 9 (fun gg out i wr => ∃ (k r b off c : Nat) (rows : List (List Int)), k ≤ gg ∧ i = .int .i64 k ∧ out = .slice (some ⟨b, off, none⟩) rows.length c ∧ rows.length ≤ r ∧ r + k ≤ 8 ∧ Hid (OwR wr (w.heap.size + 1) 92 3 (.slice (some ⟨b, off, none⟩) rows.length c) rows) ∧ Hid (Cur wr g S (K + 2 + 10 * r) ∧ v.grownBy wr (some g)))
  case atStart => exact ⟨j0, 0, _, _, _, [], by omega, rfl, rfl, by simp, by omega, O1, ⟨A1.out.1, A1.out.2⟩⟩
  case round =>
    obtain ⟨k, r, b, off, c, rows, hk1, rfl, rfl, hm1, hm2, HO, HC⟩ := hrel
    have hsz := HC.out.2.size
    have hvs := HGS.out
    have HCP := Lib.hid HO.out.cap
    rcases Nat.eq_zero_or_pos k with h0 | h0
    · subst h0
      go_wp2_with ((go_at_call 125; (with_reducible refine (cur_pick wr _ S (K + 2 + 10 * r) (30) (HC.out.1) (by omega) (by omega) (by omega)).mono ?_); rintro e w2 ⟨t, ⟨t0, t1⟩, rfl, hC, hG⟩; have Cw2 := Lib.hid hC; have Gw2 := Lib.hid hG; have Zw2 := hG.size; clear hC hG); have O2 := Lib.hid (HO.out.gen Gw2.out hgl); have G2 := Lib.hid (And.intro Cw2.out (only_trans HC.out.2 Gw2.out)); obtain ⟨d0, d1, d2, d3, d4⟩ := (KB.out _ G2.out.2).cells5; have hz2 : w.heap.size + 1 ≤ w2.heap.size := (by have := G2.out.2.size; omega); clear hvs hsz)
      · (go_at_call 158; refine (cur_damage _ _ S (K + 2 + 10 * r + 2) y0 y1 y2 y3 y4 (G2.out).1 (by omega)).mono ?_; rintro e w4 ⟨x, y, z, rfl, hC, hG⟩; have Cw4 := Lib.hid hC; have Gw4 := Lib.hid (only_trans (G2.out).2 hG); have Ow4 := Lib.hid ((O2.out).gen hG hgl); clear hC hG)
        have hz4 : w.heap.size + 1 ≤ w4.heap.size := (by have := Gw4.out.size; have := HGS.out; omega)
        clear d0 d1 d2 d3 d4
        go_wp2_with (at_builtin; refine wp_app_Damage1 rfl (.tmp 32) (.tmp 36) rfl w4 (w.heap.size + 1) _ rows x y z rfl Ow4.out rfl rows.length rfl (by omega) hz4 ?_; intro A5 c5 w5 ho5 hb5; have O5 := Lib.hid ho5; have HB5 := Lib.hid hb5; clear ho5 hb5)
        go_ret
        exact DrewDamages.mk (by omega) (O5.out.base (Nat.le_succ _)) ((Cw4.out.belowB HB5.out hgl).more (by omega)) (only_trans HWV.out (grown_belowV Gw4.out HB5.out HGS.out))
      · have e1 : t = 1 := by first | assumption | omega | (simp at *; omega) | simp_all
        subst e1
        simp only [show ((1 : Int) == 0) = false from rfl, show ((1 : Int) == 1) = true from rfl]
        have O3 := Lib.hid (OwR.lit0 w2 (w.heap.size + 1) 92 3 hz2)
        have C3 := Lib.hid (And.intro (G2.out.1.alloc (.cells #[] 92)) (only_alloc G2.out.2 (.cells #[] 92)))
        clear d0 d1 d2 d3 d4 HO HC HCP O2
        go_loopg [5, 9] 18 (fun gg out i wr => ∃ (A : Option Addr) (c : Nat) (rows : List (List Int)), i = .int .i64 rows.length ∧ out = .slice A rows.length c ∧ rows.length ≤ 16 ∧ 16 ≤ rows.length + gg ∧ Hid (OwR wr (w.heap.size + 1) 92 3 (.slice A rows.length c) rows) ∧ Hid (Cur wr g S (K + 100 + 2 * rows.length) ∧ v.grownBy wr (some g)))
        case atStart => exact ⟨_, _, [], rfl, rfl, by simp, by simp, O3, ⟨C3.out.1.more (by simp; omega), C3.out.2⟩⟩
        case round =>
          obtain ⟨A', c', rows', rfl, rfl, hy1, hy2, HO', HC'⟩ := hrel
          go_wp2_with (first | ((go_at_call 125; (with_reducible refine (cur_pick wr _ S (K + 100 + 2 * rows'.length) (2) (HC'.out.1) (by omega) (by omega) (by omega)).mono ?_); rintro e w4 ⟨b, ⟨b0, b1⟩, rfl, hC, hG⟩; have Cw4 := Lib.hid hC; have Gw4 := Lib.hid hG; have Zw4 := hG.size; clear hC hG); have O4 := Lib.hid (HO'.out.gen Gw4.out hgl); have G4 := Lib.hid (only_trans HC'.out.2 Gw4.out); have hz4 : w.heap.size + 1 ≤ w4.heap.size := (by have := G4.out.size; have := HGS.out; omega)) | (at_builtin; refine wp_app_Damage1 rfl (.tmp 48) (.tmp 52) rfl w4 (w.heap.size + 1) _ rows' _ 0 1 rfl O4.out rfl rows'.length rfl (by omega) hz4 ?_; intro A5 c5 w5 ho5 hb5; obtain ⟨rows5, ho6, hl5⟩ : ∃ rs, OwR w5 (w.heap.size + 1) 92 3 (.slice A5 rs.length c5) rs ∧ rs.length = rows'.length + 1 := ⟨_, by rw [ho5.len_]; exact ho5, ho5.len_⟩; have O5 := Lib.hid ho6; have HB5 := Lib.hid hb5; clear ho5 ho6 hb5))
          · go_roundg (16 - (rows'.length + 1))
            case measure => omega
            case rel => exact ⟨A5, c5, rows5, by rw [hl5]; go_num, by rw [hl5], by omega, by omega, O5, ⟨(Cw4.out.belowB HB5.out hgl).more (by omega), grown_belowV G4.out HB5.out HGS.out⟩⟩
          · go_wp2_with fail
            go_ret
            exact DrewDamages.mk (by omega) (O4.out.base (Nat.le_succ _)) (Cw4.out.more (by omega)) (only_trans HWV.out G4.out)
      · go_wp2_with fail
        go_ret
        exact DrewDamages.mk (by omega) (O2.out.base (Nat.le_succ _)) (G2.out.1.more (by omega)) (only_trans HWV.out G2.out.2)
    · obtain ⟨j, rfl⟩ : ∃ j, k = j + 1 := ⟨k - 1, by omega⟩
      obtain ⟨d0, d1, d2, d3, d4⟩ := (KB.out _ HC.out.2).cells5
      go_upto_region 5 with fail
      go_region_held3 (fun w' => w'.cell? ⟨w.heap.size, 0, none⟩ = some (.int .i64 y0) ∧ w'.cell? ⟨w.heap.size, 1, none⟩ = some (.int .i64 y1) ∧ w'.cell? ⟨w.heap.size, 2, none⟩ = some (.int .i64 y2) ∧ w'.cell? ⟨w.heap.size, 3, none⟩ = some (.int .i64 y3) ∧ w'.cell? ⟨w.heap.size, 4, none⟩ = some (.int .i64 y4)) (first | (with_reducible exact ⟨d0, d1, d2, d3, d4⟩) | (refine Blk.cells5 (KB.out _ ?_); (repeat (first | (with_reducible exact G3.out.2) | (with_reducible exact Gw2.out) | (with_reducible exact HC.out.2) | (with_reducible apply only_drew))); done)) (first | ((go_at_call 158; refine (cur_damage _ _ S (K + 2 + 10 * r) y0 y1 y2 y3 y4 ((show Cur wr.drew g S (K + 2 + 10 * r) ∧ v.grownBy wr.drew (some g) from ⟨HC.out.1.drew, only_drew HC.out.2⟩)).1 (by omega)).mono ?_; rintro e w2 ⟨x, y, z, rfl, hC, hG⟩; have Cw2 := Lib.hid hC; have Gw2 := Lib.hid (only_trans ((show Cur wr.drew g S (K + 2 + 10 * r) ∧ v.grownBy wr.drew (some g) from ⟨HC.out.1.drew, only_drew HC.out.2⟩)).2 hG); have Ow2 := Lib.hid (((show OwR wr.drew (w.heap.size + 1) 92 3 (.slice (some ⟨b, off, none⟩) rows.length c) rows from HO.out.gen (only_drew (World.grownBy.refl wr (some g))) hgl)).gen hG hgl); clear hC hG); clear d0 d1 d2 d3 d4) | (go_at_call 157; refine (spec_AddDamage y0 y1 y2 y3 y4 b off rows.length c rows x y z w2 Ow2.out.rdR (by omega) HCP.out.1 HCP.out.2).mono ?_; rintro e w3 ⟨b3, off3, c3, rows3, ok, rfl, hl3, ho3, hb3⟩; have O3 := Lib.hid ho3; have B3 := Lib.hid hb3; have G3 := Lib.hid (And.intro (Cw2.out.below hb3) (only_trans Gw2.out (only_of_below hb3 (some g)))); clear ho3 hb3))
      have hz2 : w.heap.size + 1 ≤ w2.heap.size := (by have := Gw2.out.size; omega)
      clear hsz hvs
      rcases ok with _ | _
      · go_wp2_with fail
        go_roundg j
        case measure => omega
        case rel => exact ⟨j, r + 1, b, off, c, rows, by omega, by go_num, rfl, by omega, by omega, Lib.hid (Ow2.out.below B3.out), ⟨G3.out.1, G3.out.2⟩⟩
      · go_wp2_with fail
        go_roundg j
        case measure => omega
        case rel => exact ⟨j, r + 1, b3, off3, c3, rows3, by omega, by go_num, rfl, by omega, by omega, Lib.hid (O3.out.base hz2), ⟨G3.out.1, G3.out.2⟩⟩
end Go.Proofs.Ytjfmicemnoglkaa
