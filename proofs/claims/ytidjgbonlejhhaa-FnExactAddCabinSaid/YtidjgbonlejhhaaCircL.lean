/- The circle: the gaps, the program's; the smallest gap. -/
import Derived.Test.YtidjgbonlejhhaaCircK
namespace Go.Proofs.Ytidjgbonlejhhaa
open Go.RowKit
set_option linter.unusedVariables false
set_option linter.unusedSimpArgs false

set_option maxHeartbeats 2000000 in
theorem impl_gapsOf (l s : Int) (A : Option Addr) (n c : Nat) (zs : List Int) (wo : World) (h : Rd wo 1 A n (IV zs)) (hm : n ≤ 1048577) (hg : circOk l s zs = true) :
    Calls Try.prog 61 #[.agg #[.int .i64 l, .int .i64 s, .slice A n c]] wo (RetS wo (gapsL l zs)) := by
  have hl := Lib.hid h.len
  have hb := circOk_iff.1 hg
  have l0 := hb.1.1
  have l1 := hb.1.2
  have hn : n ≤ 12 := by have := hb.2.2.2; have := hl.out; omega
  have HG := Lib.hid hg
  have hOW : Ow ((wo.alloc (.cells #[.int .i64 l, .int .i64 s, .slice A n c] 27)).alloc (.cells #[] 3)) (wo.alloc (.cells #[.int .i64 l, .int .i64 s, .slice A n c] 27)).heap.size (.slice (some ⟨wo.heap.size + 1, 0, none⟩) 0 0) [] := Ow.lit0' _ _ _ (Nat.le_refl _) (by simp)
  have hWV : Below wo.heap.size wo (wo.alloc (.cells #[.int .i64 l, .int .i64 s, .slice A n c] 27)) := (Below.refl _ _).alloc (Nat.le_refl _) _
  have hV0 : wo.heap.size < (wo.alloc (.cells #[.int .i64 l, .int .i64 s, .slice A n c] 27)).heap.size := by simp
  have hv0 : (wo.alloc (.cells #[.int .i64 l, .int .i64 s, .slice A n c] 27)).cell? ⟨wo.heap.size, 0, none⟩ = some (.int .i64 l) := by rw [cell_of_row _ _ _ _ _ _ (heap_alloc_new wo _)]; rfl
  have hv2 : (wo.alloc (.cells #[.int .i64 l, .int .i64 s, .slice A n c] 27)).cell? ⟨wo.heap.size, 2, none⟩ = some (.slice A n c) := by rw [cell_of_row _ _ _ _ _ _ (heap_alloc_new wo _)]; rfl
  have hr := h.below hWV
  have HOW := Lib.hid hOW
  clear hg hb hOW
  go_enter Try.func61, Try.ntmps61
  go_wp2_with fail
  go_region
  go_wp2_with fail
  generalize wo.alloc (.cells #[.int .i64 l, .int .i64 s, .slice A n c] 27) = w at hWV hV0 hv0 hv2 hr HOW ⊢
  go_loopg [3, 15] n (fun g q i wr => ∃ (k : Nat) (A2 : Option Addr) (c2 : Nat) (ys : List Int), k ≤ n ∧ n ≤ k + g ∧ i = .int .i64 k ∧ q = .slice A2 ys.length c2 ∧ ys.length ≤ k ∧ Below w.heap.size w wr ∧ w.heap.size ≤ wr.heap.size ∧ Hid (Ow wr w.heap.size (.slice A2 ys.length c2) ys ∧ ys = (List.range k).map (gapZ l zs)))
  case atStart => exact ⟨0, _, _, [], by omega, by omega, rfl, rfl, by simp, by (repeat (first | exact Below.refl _ _ | apply Below.drew | (refine Below.alloc ?_ (Nat.le_refl _) _))), by simp, ⟨HOW.out, by simp⟩⟩
  case round =>
    clear HOW
    obtain ⟨k, A2, c2, ys, hk1, hk2, rfl, rfl, hyl, hBr, hzr, ha⟩ := hrel
    have a0 := (hBr.cell (p := ⟨wo.heap.size, 0, none⟩) hV0).trans hv0
    have a2 := (hBr.cell (p := ⟨wo.heap.size, 2, none⟩) hV0).trans hv2
    have hor : wo.heap.size < wr.heap.size := by omega
    by_cases hlt : k < n
    · by_cases hl1 : k + 1 < n
      · obtain ⟨b, off, x, rfl, hx, hcx⟩ := hr.at1 hlt
        obtain ⟨b', off', y, e', hy, hcy⟩ := hr.at1 hl1
        injection e' with e'
        injection e' with e1 e2
        subst e1 e2
        have hblt : b < w.heap.size := World.block_lt_of_cell? _ _ hcx
        have c0 : wr.cell? ⟨b, off + k, none⟩ = some (.int .i64 x) := (hBr.cell (p := ⟨b, _, none⟩) hblt).trans hcx
        have c1 : wr.cell? ⟨b, off + (k + 1), none⟩ = some (.int .i64 y) := (hBr.cell (p := ⟨b, _, none⟩) hblt).trans hcy
        have hbr : b < wr.heap.size := by omega
        have hxb := circ_at HG.out hx
        have hyb := circ_at HG.out hy
        have hxy := circ_lt HG.out hx hy
        have hx0 := hxb.1
        have hx1 := hxb.2
        have hy0 := hyb.1
        have hy1 := hyb.2
        have HF := Lib.hid (gap_mid (l := l) hx hy)
        have hgap : ¬ (y - x ≤ 0) := by omega
        have w4 : IntKind.i64.wrap (y - x) = y - x := IntWalk.i64_in _ (by omega)
        have w5 : IntKind.i64.wrap ((k : Int) + 1) = (k : Int) + 1 := IntWalk.i64_in _ (by omega)
        have i0 : 0 ≤ (k : Int) + 1 := by omega
        have i1 : (k : Int) + 1 < (n : Int) := by omega
        have i2 : ((k : Int) + 1).toNat = k + 1 := by omega
        have hmod : ((k : Int) + 1).tmod (n : Int) = (k : Int) + 1 := by rw [Int.tmod_eq_emod_of_nonneg (by omega)]; exact Int.emod_eq_of_lt (by omega) (by omega)
        have hn0 : ¬ ((n : Int) = 0) := by omega
        clear hx hy hxb hyb hcx hcy
        go_wp2_with fail
        (refine wp_region_ext (by kernel_rfl) (by kernel_rfl) ?_; have hxe := ext_cells; (repeat (go_big_quiet_step (fail))); refine wpQuiet_nil ?_; intro w' hw'; obtain ⟨nx, hw''⟩ := hw'; have hbx := ext_out hw''; clear hw'' nx hxe; have hB : Below w.heap.size w w' := Below.thenn (by repeat (first | exact Below.refl _ _ | assumption | apply Below.drew | apply below_drewN | (refine Below.alloc ?_ (by first | omega | (simp; done) | (simp; omega)) _) | (refine Below.setCell ?_ (by first | omega | (simp; done) | (simp; omega)) _))) hbx (by first | omega | (simp; done) | (simp; omega)); have hz : w.heap.size ≤ w'.heap.size := hB.size; obtain ⟨hc, hf⟩ := bcell hbx; have HO1 := Lib.hid (ha.out.1.below hbx); clear hbx)
        clear hmod w5 i0 i1 i2
        go_wp2_with (at_builtin; refine wp_app_int rfl (.tmp 36) (.tmp 38) rfl w' w.heap.size (.slice A2 ys.length c2) ys _ rfl HO1.out rfl (by omega) (by first | omega | (simp; done) | (simp; omega)) ?_; intro A1 c1 w1 hown1 hb1)
        go_roundg (n - (k + 1))
        case measure => omega
        case rel => exact ⟨k + 1, A1, c1, ys ++ [y - x], by omega, by omega, by go_num, by simp, by simp; omega, hB.trans hb1, by have := hb1.size; first | omega | (simp at *; omega), ⟨hown1, by rw [gaps_next, ← ha.out.2, HF.out]⟩⟩
      · obtain ⟨b, off, x, rfl, hx, hcx⟩ := hr.at1 hlt
        obtain ⟨b', off', y, e', hy, hcy⟩ := hr.at1 (k := 0) (by omega)
        injection e' with e'
        injection e' with e1 e2
        subst e1 e2
        rw [Nat.add_zero] at hcy
        have hblt : b < w.heap.size := World.block_lt_of_cell? _ _ hcx
        have c0 : wr.cell? ⟨b, off + k, none⟩ = some (.int .i64 x) := (hBr.cell (p := ⟨b, _, none⟩) hblt).trans hcx
        have c1 : wr.cell? ⟨b, off, none⟩ = some (.int .i64 y) := (hBr.cell (p := ⟨b, _, none⟩) hblt).trans hcy
        have hbr : b < wr.heap.size := by omega
        have hxb := circ_at HG.out hx
        have hyb := circ_at HG.out hy
        have hxy := circ_first HG.out hy hx
        have hx0 := hxb.1
        have hx1 := hxb.2
        have hy0 := hyb.1
        have hy1 := hyb.2
        have HF := Lib.hid (gap_last (l := l) hx hy (by rw [hl.out]; omega))
        have hgap : y - x ≤ 0 := by omega
        have w4 : IntKind.i64.wrap (y - x) = y - x := IntWalk.i64_in _ (by omega)
        have w5 : IntKind.i64.wrap ((k : Int) + 1) = (k : Int) + 1 := IntWalk.i64_in _ (by omega)
        have i0 : (0 : Int) < (n : Int) := by omega
        have i3 : 0 < n := by omega
        have hmod : ((k : Int) + 1).tmod (n : Int) = 0 := by rw [show ((k : Int) + 1) = (n : Int) by omega]; exact Int.tmod_self
        have hn0 : ¬ ((n : Int) = 0) := by omega
        clear hx hy hxb hyb hcx hcy
        go_wp2_with fail
        (refine wp_region_ext (by kernel_rfl) (by kernel_rfl) ?_; have hxe := ext_cells; (repeat (go_big_quiet_step (fail))); refine wpQuiet_nil ?_; intro w' hw'; obtain ⟨nx, hw''⟩ := hw'; have hbx := ext_out hw''; clear hw'' nx hxe; have hB : Below w.heap.size w w' := Below.thenn (by repeat (first | exact Below.refl _ _ | assumption | apply Below.drew | apply below_drewN | (refine Below.alloc ?_ (by first | omega | (simp; done) | (simp; omega)) _) | (refine Below.setCell ?_ (by first | omega | (simp; done) | (simp; omega)) _))) hbx (by first | omega | (simp; done) | (simp; omega)); have hz : w.heap.size ≤ w'.heap.size := hB.size; obtain ⟨hc, hf⟩ := bcell hbx; have HO1 := Lib.hid (ha.out.1.below hbx); clear hbx)
        clear hmod w5 i0 i3
        go_wp2_with (at_builtin; refine wp_app_int rfl (.tmp 36) (.tmp 38) rfl w' w.heap.size (.slice A2 ys.length c2) ys _ rfl HO1.out rfl (by omega) (by first | omega | (simp; done) | (simp; omega)) ?_; intro A1 c1 w1 hown1 hb1)
        go_roundg (n - (k + 1))
        case measure => omega
        case rel => exact ⟨k + 1, A1, c1, ys ++ [y - x + l], by omega, by omega, by go_num, by simp, by simp; omega, hB.trans hb1, by have := hb1.size; first | omega | (simp at *; omega), ⟨hown1, by rw [gaps_next, ← ha.out.2, HF.out, show l - x + y = y - x + l by omega]⟩⟩
    · go_wp2_with fail
      go_ret
      have hk : k = n := by omega
      have hys : ys = gapsL l zs := by rw [ha.out.2, hk, ← hl.out]; rfl
      subst hys
      exact ⟨_, _, rfl, Ow.base ha.out.1 hWV.size, Below.thenn hWV hBr hWV.size⟩
def gapsV (l s : Int) (zs : List Int) : List Int := if circOk l s zs then gapsL l zs else []
theorem gapsV_len {l s : Int} {zs : List Int} (h : zs.length ≤ 1048576) : (gapsV l s zs).length ≤ 1048576 := by
  unfold gapsV; split
  · rw [gapsL_len]; exact h
  · simp

set_option maxHeartbeats 1000000 in
theorem spec_GapsOf (l s : Int) (A : Option Addr) (n c : Nat) (zs : List Int) (wo : World) (h : Rd wo 1 A n (IV zs)) (hm : n ≤ 1048577) :
    Calls Try.prog 34 #[.agg #[.int .i64 l, .int .i64 s, .slice A n c]] wo (RetSB wo (gapsV l s zs) (circOk l s zs)) := by
  have cg := fun w' (h' : Rd w' 1 A n (IV zs)) => spec_l8Good l s A n c zs w' h' hm
  rcases hg : circOk l s zs with _ | _
  all_goals rw [hg] at cg
  all_goals have CG := Lib.hid cg
  all_goals clear cg
  · rw [show gapsV l s zs = [] by simp [gapsV, hg]]
    go_enter Try.func34, Try.ntmps34
    (go_wp2_with fail; have hWV : Below wo.heap.size wo (wo.alloc (.cells #[.int .i64 l, .int .i64 s, .slice A n c] 27)) := (Below.refl _ _).alloc (Nat.le_refl _) _; have hV0 : wo.heap.size < (wo.alloc (.cells #[.int .i64 l, .int .i64 s, .slice A n c] 27)).heap.size := (by simp); have hv0 : (wo.alloc (.cells #[.int .i64 l, .int .i64 s, .slice A n c] 27)).cell? ⟨wo.heap.size, 0, none⟩ = some (.int .i64 l) := (by rw [cell_of_row _ _ _ _ _ _ (heap_alloc_new wo _)]; rfl); have hv1 : (wo.alloc (.cells #[.int .i64 l, .int .i64 s, .slice A n c] 27)).cell? ⟨wo.heap.size, 1, none⟩ = some (.int .i64 s) := (by rw [cell_of_row _ _ _ _ _ _ (heap_alloc_new wo _)]; rfl); have hv2 : (wo.alloc (.cells #[.int .i64 l, .int .i64 s, .slice A n c] 27)).cell? ⟨wo.heap.size, 2, none⟩ = some (.slice A n c) := (by rw [cell_of_row _ _ _ _ _ _ (heap_alloc_new wo _)]; rfl); generalize wo.alloc (.cells #[.int .i64 l, .int .i64 s, .slice A n c] 27) = w at hWV hV0 hv0 hv1 hv2 ⊢; have hr := h.below hWV)
    have hB : Below w.heap.size w w := Below.refl _ _
    have hzw : wo.heap.size ≤ w.heap.size := hWV.size
    go_wp2_with (go_at_call 49; refine (CG.out _ hr).mono ?_; rintro e w' ⟨rfl, hb⟩; have hB : Below w.heap.size w w' := Below.thenn (by repeat (first | exact Below.refl _ _ | assumption | apply Below.drew | apply below_drewN | (refine Below.alloc ?_ (by first | omega | (simp; done) | (simp; omega)) _) | (refine Below.setCell ?_ (by first | omega | (simp; done) | (simp; omega)) _))) hb (by first | omega | (simp; done) | (simp; omega)); have hz : w.heap.size ≤ w'.heap.size := hB.size; (try (have hz1 : w.heap.size + 1 ≤ w'.heap.size := (by have h := hb.size; (try simp at h); omega))); obtain ⟨hc, hf⟩ := bcell hb; clear hb)
    go_ret2
    exact ⟨some ⟨w'.heap.size, 0, none⟩, 0, rfl, Ow.lit0 _ _ (by omega), Below.thenn hWV (by first | exact hB.alloc (by omega) _ | exact hB) hWV.size⟩
  rw [show gapsV l s zs = gapsL l zs by simp [gapsV, hg]]
  have CP := Lib.hid (fun w' (h' : Rd w' 1 A n (IV zs)) => spec_l8Gaps l s A n c zs w' h' hm hg)
  clear hg
  go_enter Try.func34, Try.ntmps34
  (go_wp2_with fail; have hWV : Below wo.heap.size wo (wo.alloc (.cells #[.int .i64 l, .int .i64 s, .slice A n c] 27)) := (Below.refl _ _).alloc (Nat.le_refl _) _; have hV0 : wo.heap.size < (wo.alloc (.cells #[.int .i64 l, .int .i64 s, .slice A n c] 27)).heap.size := (by simp); have hv0 : (wo.alloc (.cells #[.int .i64 l, .int .i64 s, .slice A n c] 27)).cell? ⟨wo.heap.size, 0, none⟩ = some (.int .i64 l) := (by rw [cell_of_row _ _ _ _ _ _ (heap_alloc_new wo _)]; rfl); have hv1 : (wo.alloc (.cells #[.int .i64 l, .int .i64 s, .slice A n c] 27)).cell? ⟨wo.heap.size, 1, none⟩ = some (.int .i64 s) := (by rw [cell_of_row _ _ _ _ _ _ (heap_alloc_new wo _)]; rfl); have hv2 : (wo.alloc (.cells #[.int .i64 l, .int .i64 s, .slice A n c] 27)).cell? ⟨wo.heap.size, 2, none⟩ = some (.slice A n c) := (by rw [cell_of_row _ _ _ _ _ _ (heap_alloc_new wo _)]; rfl); generalize wo.alloc (.cells #[.int .i64 l, .int .i64 s, .slice A n c] 27) = w at hWV hV0 hv0 hv1 hv2 ⊢; have hr := h.below hWV)
  have hB : Below w.heap.size w w := Below.refl _ _
  have hzw : wo.heap.size ≤ w.heap.size := hWV.size
  go_wp2_with (first | (go_at_call 49; refine (CG.out _ hr).mono ?_; rintro e w' ⟨rfl, hb⟩; have hB : Below w.heap.size w w' := Below.thenn (by repeat (first | exact Below.refl _ _ | assumption | apply Below.drew | apply below_drewN | (refine Below.alloc ?_ (by first | omega | (simp; done) | (simp; omega)) _) | (refine Below.setCell ?_ (by first | omega | (simp; done) | (simp; omega)) _))) hb (by first | omega | (simp; done) | (simp; omega)); have hz : w.heap.size ≤ w'.heap.size := hB.size; (try (have hz1 : w.heap.size + 1 ≤ w'.heap.size := (by have h := hb.size; (try simp at h); omega))); obtain ⟨hc, hf⟩ := bcell hb; have hor := Nat.lt_of_lt_of_le hV0 hz; clear hb) | (go_at_call 60; refine (CP.out _ (hr.below hB)).mono ?_; rintro e w2 ⟨A1, c1, rfl, ho1, hb⟩; have HO1 := Lib.hid ho1; have hB2 : Below w.heap.size w w2 := Below.thenn hB hb hz; clear hb ho1))
  go_ret2
  exact ⟨A1, c1, rfl, Ow.base HO1.out (by omega), Below.thenn hWV hB2 hWV.size⟩

set_option maxHeartbeats 1000000 in
theorem impl_GapsOf (l s : Int) (A : Option Addr) (n c : Nat) (zs : List Int) (wo : World) (h : Rd wo 1 A n (IV zs)) (hm : n ≤ 1048577) :
    Calls Try.prog 35 #[.agg #[.int .i64 l, .int .i64 s, .slice A n c]] wo (RetSB wo (gapsV l s zs) (circOk l s zs)) := by
  have cg := fun w' (h' : Rd w' 1 A n (IV zs)) => impl_IsCircle l s A n c zs w' h' hm
  rcases hg : circOk l s zs with _ | _
  all_goals rw [hg] at cg
  all_goals have CG := Lib.hid cg
  all_goals clear cg
  · rw [show gapsV l s zs = [] by simp [gapsV, hg]]
    go_enter Try.func35, Try.ntmps35
    (go_wp2_with fail; have hWV : Below wo.heap.size wo (wo.alloc (.cells #[.int .i64 l, .int .i64 s, .slice A n c] 27)) := (Below.refl _ _).alloc (Nat.le_refl _) _; have hV0 : wo.heap.size < (wo.alloc (.cells #[.int .i64 l, .int .i64 s, .slice A n c] 27)).heap.size := (by simp); have hv0 : (wo.alloc (.cells #[.int .i64 l, .int .i64 s, .slice A n c] 27)).cell? ⟨wo.heap.size, 0, none⟩ = some (.int .i64 l) := (by rw [cell_of_row _ _ _ _ _ _ (heap_alloc_new wo _)]; rfl); have hv1 : (wo.alloc (.cells #[.int .i64 l, .int .i64 s, .slice A n c] 27)).cell? ⟨wo.heap.size, 1, none⟩ = some (.int .i64 s) := (by rw [cell_of_row _ _ _ _ _ _ (heap_alloc_new wo _)]; rfl); have hv2 : (wo.alloc (.cells #[.int .i64 l, .int .i64 s, .slice A n c] 27)).cell? ⟨wo.heap.size, 2, none⟩ = some (.slice A n c) := (by rw [cell_of_row _ _ _ _ _ _ (heap_alloc_new wo _)]; rfl); generalize wo.alloc (.cells #[.int .i64 l, .int .i64 s, .slice A n c] 27) = w at hWV hV0 hv0 hv1 hv2 ⊢; have hr := h.below hWV)
    have hB : Below w.heap.size w w := Below.refl _ _
    have hzw : wo.heap.size ≤ w.heap.size := hWV.size
    go_wp2_with (go_at_call 17; refine (CG.out _ hr).mono ?_; rintro e w' ⟨rfl, hb⟩; have hB : Below w.heap.size w w' := Below.thenn (by repeat (first | exact Below.refl _ _ | assumption | apply Below.drew | apply below_drewN | (refine Below.alloc ?_ (by first | omega | (simp; done) | (simp; omega)) _) | (refine Below.setCell ?_ (by first | omega | (simp; done) | (simp; omega)) _))) hb (by first | omega | (simp; done) | (simp; omega)); have hz : w.heap.size ≤ w'.heap.size := hB.size; (try (have hz1 : w.heap.size + 1 ≤ w'.heap.size := (by have h := hb.size; (try simp at h); omega))); obtain ⟨hc, hf⟩ := bcell hb; clear hb)
    go_ret2
    exact ⟨none, 0, rfl, Ow.nil _ _, Below.thenn hWV hB hWV.size⟩
  rw [show gapsV l s zs = gapsL l zs by simp [gapsV, hg]]
  have CP := Lib.hid (fun w' (h' : Rd w' 1 A n (IV zs)) => impl_gapsOf l s A n c zs w' h' hm hg)
  clear hg
  go_enter Try.func35, Try.ntmps35
  (go_wp2_with fail; have hWV : Below wo.heap.size wo (wo.alloc (.cells #[.int .i64 l, .int .i64 s, .slice A n c] 27)) := (Below.refl _ _).alloc (Nat.le_refl _) _; have hV0 : wo.heap.size < (wo.alloc (.cells #[.int .i64 l, .int .i64 s, .slice A n c] 27)).heap.size := (by simp); have hv0 : (wo.alloc (.cells #[.int .i64 l, .int .i64 s, .slice A n c] 27)).cell? ⟨wo.heap.size, 0, none⟩ = some (.int .i64 l) := (by rw [cell_of_row _ _ _ _ _ _ (heap_alloc_new wo _)]; rfl); have hv1 : (wo.alloc (.cells #[.int .i64 l, .int .i64 s, .slice A n c] 27)).cell? ⟨wo.heap.size, 1, none⟩ = some (.int .i64 s) := (by rw [cell_of_row _ _ _ _ _ _ (heap_alloc_new wo _)]; rfl); have hv2 : (wo.alloc (.cells #[.int .i64 l, .int .i64 s, .slice A n c] 27)).cell? ⟨wo.heap.size, 2, none⟩ = some (.slice A n c) := (by rw [cell_of_row _ _ _ _ _ _ (heap_alloc_new wo _)]; rfl); generalize wo.alloc (.cells #[.int .i64 l, .int .i64 s, .slice A n c] 27) = w at hWV hV0 hv0 hv1 hv2 ⊢; have hr := h.below hWV)
  have hB : Below w.heap.size w w := Below.refl _ _
  have hzw : wo.heap.size ≤ w.heap.size := hWV.size
  go_wp2_with (first | (go_at_call 17; refine (CG.out _ hr).mono ?_; rintro e w' ⟨rfl, hb⟩; have hB : Below w.heap.size w w' := Below.thenn (by repeat (first | exact Below.refl _ _ | assumption | apply Below.drew | apply below_drewN | (refine Below.alloc ?_ (by first | omega | (simp; done) | (simp; omega)) _) | (refine Below.setCell ?_ (by first | omega | (simp; done) | (simp; omega)) _))) hb (by first | omega | (simp; done) | (simp; omega)); have hz : w.heap.size ≤ w'.heap.size := hB.size; (try (have hz1 : w.heap.size + 1 ≤ w'.heap.size := (by have h := hb.size; (try simp at h); omega))); obtain ⟨hc, hf⟩ := bcell hb; have hor := Nat.lt_of_lt_of_le hV0 hz; clear hb) | (go_at_call 61; refine (CP.out _ (hr.below hB)).mono ?_; rintro e w2 ⟨A1, c1, rfl, ho1, hb⟩; have HO1 := Lib.hid ho1; have hB2 : Below w.heap.size w w2 := Below.thenn hB hb hz; clear hb ho1))
  go_ret2
  exact ⟨A1, c1, rfl, Ow.base HO1.out (by omega), Below.thenn hWV hB2 hWV.size⟩
end Go.Proofs.Ytidjgbonlejhhaa
