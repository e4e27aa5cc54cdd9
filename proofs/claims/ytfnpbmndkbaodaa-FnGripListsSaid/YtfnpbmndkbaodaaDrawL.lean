/- Loads that are drawn for a list of grips. -/
import Derived.Test.YtfnpbmndkbaodaaDrawK
namespace Go.Proofs.Ytfnpbmndkbaodaa
open Go.RowKit
set_option linter.unusedVariables false
set_option linter.unusedSimpArgs false

def GenAll (w : World) (e : Ending) (w' : World) : Prop := ∃ A c rows A' c' ys, ∃ a : Int, e = .returned (.tuple #[.slice A rows.length c, .slice A' ys.length c', .int .i64 a]) ∧ rows.length ≤ 20 ∧ ys.length ≤ 21 ∧ OwR w' w.heap.size 48 5 (.slice A rows.length c) rows ∧ Ow w' w.heap.size (.slice A' ys.length c') ys ∧ Below w.heap.size w w'
theorem GenAll.mk {w w' : World} {o : Obj} {A A' : Option Addr} {n c c' : Nat} {rows : List (List Int)} {ys : List Int} {a : Int} (h1 : rows.length ≤ 20) (h2 : n ≤ 21)
    (hR : OwR w' (w.heap.size + 1) 48 5 (.slice A rows.length c) rows) (hO : Ow w' (w.heap.size + 1) (.slice A' n c') ys) (hG : (w.alloc o).grownBy w' (some w.heap.size)) : GenAll w (.returned (.tuple #[.slice A rows.length c, .slice A' n c', .int .i64 a])) w' := by
  obtain rfl := hO.len
  exact ⟨A, c, rows, A', c', ys, a, rfl, h1, h2, hR.base (by omega), hO.base (by omega), below_gen hG⟩
set_option maxRecDepth 100000 in
set_option maxHeartbeats 2000000 in
theorem draw_AllHold (w : World) (S : Src) (h : S.ok w) : Calls Try.prog 44 #[.slice S.A S.n S.c] w (GenAll w) := by
  have H := Lib.hid (Cur.new h)
  go_enter Try.func44, Try.ntmps44
  go_wp2_with fail
  refine (cur_grips _ _ S 0 H.out (by omega)).mono ?_
  rintro e w0 ⟨A, c, rows, rfl, hl, ho, hC, hG⟩
  have HR0 := Lib.hid (OwR.base (B' := w.heap.size + 1) ho (by simp))
  have HC0 := Lib.hid (hC.more (K' := 3000) (by omega))
  have HG0 := Lib.hid hG
  have hz0 : w.heap.size + 1 ≤ w0.heap.size := by have := hG.size; simpa using this
  have hg : w.heap.size < w.heap.size + 1 := by omega
  clear ho hC hG
  go_wp2_with fail
  have hgz : w.heap.size < w0.heap.size := by omega
  go_loopg [7, 8] rows.length (fun gg out i wr => ∃ (k : Nat) (A' : Option Addr) (c' : Nat) (zs : List Int), k ≤ rows.length ∧ rows.length ≤ k + gg ∧ i = .int .i64 k ∧ out = .slice A' k c' ∧ w0.heap.size ≤ wr.heap.size ∧ Hid (Ow wr w0.heap.size (.slice A' k c') zs) ∧ Hid (Cur wr w.heap.size S (3000 + 2 * k)) ∧ Hid (w0.grownBy wr (some w.heap.size)))
  case atStart => exact ⟨0, _, _, [], by omega, by omega, rfl, rfl, by simp, (Ow.lit0 w0 _ (by omega)), (HC0.out.alloc _), only_alloc (World.grownBy.refl _ _) _⟩
  case round =>
    obtain ⟨k, A', c', zs, hk1, hk2, rfl, rfl, hz, HO, HC, HG⟩ := hrel
    have HL := Lib.hid HO.out.len
    by_cases hlt : k < rows.length
    · go_wp2_with (first | ((go_at_call 77; refine (cur_among wr _ S (3000 + 2 * k) [100, 800, 1500, 4000] (fun r => True) _ _ (HC.out) (by omega) rfl rfl (by decide) (by decide) (by decide)).mono ?_; rintro e w3 ⟨r, rp, rfl, hC, hG⟩; have Cw3 := Lib.hid hC; have Gw3 := Lib.hid hG; have Zw3 := hG.size; clear hC hG); have HO3 := Lib.hid (HO.out.gen Gw3.out hgz); have HG3 := Lib.hid (only_trans HG.out Gw3.out); have hz3 : w0.heap.size ≤ w3.heap.size := Nat.le_trans hz Zw3) | (at_builtin; refine wp_app_int rfl (.tmp 21) (.tmp 25) rfl w3 w0.heap.size (.slice A' k c') zs r rfl HO3.out rfl (by have := HL.out; omega) hz3 ?_; intro A1 c1 w5 hown1 hb1; have HO5 := Lib.hid hown1; have HB5 := Lib.hid hb1; clear hown1 hb1))
      go_roundg (rows.length - (k + 1))
      case measure => omega
      case rel => exact ⟨k + 1, A1, c1, _, by omega, by omega, by go_num, by simp [HL.out], Nat.le_trans hz3 HB5.out.size, (by have h := HO5.out; rw [List.length_append, HL.out] at h; exact h), (Cw3.out.belowB HB5.out hgz).more (by omega), grown_below HG3.out HB5.out⟩
    · have hkn : k = rows.length := by omega
      subst hkn
      go_wp2_with (first | ((go_at_call 78; (with_reducible refine (cur_pick wr _ S (3000 + 2 * rows.length) (20) (HC.out) (by omega) (by omega) (by omega)).mono ?_); rintro e w3 ⟨s, ⟨s0, s1⟩, rfl, hC, hG⟩; have Cw3 := Lib.hid hC; have Gw3 := Lib.hid hG; have Zw3 := hG.size; clear hC hG); have HO3 := Lib.hid (HO.out.gen Gw3.out hgz); have HG3 := Lib.hid (only_trans HG.out Gw3.out); have hz3 : w0.heap.size ≤ w3.heap.size := Nat.le_trans hz Zw3) | (at_builtin; refine wp_app_int rfl (.tmp 31) (.tmp 32) rfl w3 w0.heap.size (.slice A' rows.length c') zs 100 rfl HO3.out rfl (by have := HL.out; omega) hz3 ?_; intro A1 c1 w5 hown1 hb1; have HO5 := Lib.hid hown1; have HB5 := Lib.hid hb1; clear hown1 hb1))
      · refine (cur_slope7 w5 _ S 3100 ((Cw3.out.belowB HB5.out hgz).more (by omega)) (by omega)).mono ?_
        rintro e wf ⟨sl, hsl, rfl, hC, hG⟩
        have HGf := Lib.hid (only_trans (grown_below HG3.out HB5.out) hG)
        have HOf := Lib.hid (HO5.out.gen hG hgz)
        clear hC hG hsl
        have hl5 := HOf.out.len
        simp only [List.length_append, List.length_cons, List.length_nil] at hl5
        go_wp2_with fail
        go_ret3
        exact GenAll.mk hl (by have := HL.out; simp; omega) (HR0.out.gen HGf.out hg) (by have h := Ow.base (B' := w.heap.size + 1) HOf.out (by omega); rw [List.length_append] at h; exact h) (only_trans HG0.out HGf.out)
      · (go_at_call 77; refine (cur_among w3 _ S (3000 + 2 * rows.length + 2) [99, 4001] (fun r => True) _ _ (Cw3.out) (by omega) rfl rfl (by decide) (by decide) (by decide)).mono ?_; rintro e w4 ⟨y, yp, rfl, hC, hG⟩; have Cw4 := Lib.hid hC; have Gw4 := Lib.hid hG; have Zw4 := hG.size; clear hC hG)
        have hq : 0 < rows.length := by assumption
        obtain ⟨b, x, rfl, hbB, hx, hcx, hfx, hst⟩ := (HO3.out.gen Gw4.out hgz).store hq
        have HST := Lib.hid hst
        clear hst hx
        go_wp2_with fail
        refine (cur_slope7 (w4.setCell ⟨b, 0, none⟩ (.int .i64 y)) _ S 3100 ((Cw4.out.far (by simp; omega) _).more (by omega)) (by omega)).mono ?_
        rintro e wf ⟨sl, hsl, rfl, hC, hG⟩
        have HGf := Lib.hid (only_trans (only_setCell (only_trans HG3.out Gw4.out) (.inr hbB) _) hG)
        have HOf := Lib.hid ((HST.out y).1.gen hG hgz)
        clear hC hG hsl
        go_wp2_with fail
        go_ret3
        exact GenAll.mk hl (by omega) (HR0.out.gen HGf.out hg) (HOf.out.base (by omega)) (only_trans HG0.out HGf.out)
      all_goals
        refine (cur_slope7 w3 _ S 3100 (Cw3.out.more (by omega)) (by omega)).mono ?_
        rintro e wf ⟨sl, hsl, rfl, hC, hG⟩
        have HGf := Lib.hid (only_trans HG3.out hG)
        have HOf := Lib.hid (HO3.out.gen hG hgz)
        clear hC hG hsl
        go_wp2_with fail
        go_ret3
        exact GenAll.mk hl (by omega) (HR0.out.gen HGf.out hg) (HOf.out.base (by omega)) (only_trans HG0.out HGf.out)
end Go.Proofs.Ytfnpbmndkbaodaa
