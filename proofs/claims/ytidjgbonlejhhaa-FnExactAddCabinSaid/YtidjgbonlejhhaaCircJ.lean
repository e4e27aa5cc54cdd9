/- The circle: the places of the cabins. -/
import Derived.Test.YtidjgbonlejhhaaCircD
import Derived.Deep.RegionHeld3
namespace Go.Proofs.Ytidjgbonlejhhaa
open Go.RowKit
set_option linter.unusedVariables false
set_option linter.unusedSimpArgs false

def plF (l s time x : Int) : Int := (10 * x + s * time) % (10 * l)
def plOk (l s : Int) (zs : List Int) (time : Int) : Bool := circOk l s zs && inr time 0 100000
def placesV (l s : Int) (zs : List Int) (time : Int) : List Int := if plOk l s zs time then zs.map (plF l s time) else []
theorem placesV_len {l s : Int} {zs : List Int} {time : Int} (h : zs.length ≤ 1048576) : (placesV l s zs time).length ≤ 1048576 := by
  unfold placesV; split <;> simp; exact h
theorem map_next {f : Int → Int} {zs : List Int} {k : Nat} {x : Int} (h : zs[k]? = some x) : (zs.take (k + 1)).map f = (zs.take k).map f ++ [f x] := by rw [take_next h]; simp
theorem map_end {f : Int → Int} {zs : List Int} {n k : Nat} (h : zs.length = n) (hk : n ≤ k) : (zs.take k).map f = zs.map f := by rw [List.take_of_length_le (by omega)]

theorem Ow.lit0' (w : World) (B g : Nat) (hB : B ≤ w.heap.size) (hg : g = w.heap.size) : Ow (w.alloc (.cells #[] 3)) B (.slice (some ⟨g, 0, none⟩) 0 0) [] := by subst hg; exact Ow.lit0 w B hB
theorem rd_one (w : World) (z : Int) : Rd (w.alloc (.cells #[.int .i64 z] 3)) 1 (some ⟨w.heap.size, 0, none⟩) 1 (IV [z]) := by
  have := Rd.of_block (n := 1) (size := 1) (heap_alloc_new w (.cells #[.int .i64 z] 3)) rfl
  simpa using this
set_option maxHeartbeats 2000000 in
theorem spec_PlacesAt (l s : Int) (A : Option Addr) (n c : Nat) (zs : List Int) (time : Int) (wo : World) (h : Rd wo 1 A n (IV zs)) (hm : n ≤ 1048577) :
    Calls Try.prog 27 #[.agg #[.int .i64 l, .int .i64 s, .slice A n c], .int .i64 time] wo (RetSB wo (placesV l s zs time) (plOk l s zs time)) := by
  have hl := Lib.hid h.len
  have cg := fun w' (h' : Rd w' 1 A n (IV zs)) => spec_l8Good l s A n c zs w' h' hm
  rcases hg : circOk l s zs with _ | _
  all_goals rw [hg] at cg
  all_goals have CG := Lib.hid cg
  all_goals clear cg
  · rw [show placesV l s zs time = [] by simp [placesV, plOk, hg], show plOk l s zs time = false by simp [plOk, hg]]
    go_enter Try.func27, Try.ntmps27
    (go_wp2_with fail; have hWV : Below wo.heap.size wo (wo.alloc (.cells #[.int .i64 l, .int .i64 s, .slice A n c] 27)) := (Below.refl _ _).alloc (Nat.le_refl _) _; have hV0 : wo.heap.size < (wo.alloc (.cells #[.int .i64 l, .int .i64 s, .slice A n c] 27)).heap.size := (by simp); have hv0 : (wo.alloc (.cells #[.int .i64 l, .int .i64 s, .slice A n c] 27)).cell? ⟨wo.heap.size, 0, none⟩ = some (.int .i64 l) := (by rw [cell_of_row _ _ _ _ _ _ (heap_alloc_new wo _)]; rfl); have hv1 : (wo.alloc (.cells #[.int .i64 l, .int .i64 s, .slice A n c] 27)).cell? ⟨wo.heap.size, 1, none⟩ = some (.int .i64 s) := (by rw [cell_of_row _ _ _ _ _ _ (heap_alloc_new wo _)]; rfl); have hv2 : (wo.alloc (.cells #[.int .i64 l, .int .i64 s, .slice A n c] 27)).cell? ⟨wo.heap.size, 2, none⟩ = some (.slice A n c) := (by rw [cell_of_row _ _ _ _ _ _ (heap_alloc_new wo _)]; rfl); have HV1 : Hid (wo.heap.size + 1 = (wo.alloc (.cells #[.int .i64 l, .int .i64 s, .slice A n c] 27)).heap.size) := (show _ = _ by simp); generalize wo.alloc (.cells #[.int .i64 l, .int .i64 s, .slice A n c] 27) = w at hWV hV0 HV1 hv0 hv1 hv2 ⊢; have hr := h.below hWV)
    have hB : Below w.heap.size w w := Below.refl _ _
    go_wp2_with (go_at_call 49; refine (CG.out _ (hr.below ((Below.refl _ _).alloc (Nat.le_refl _) _))).mono ?_; rintro e w' ⟨rfl, hb⟩; have hB : Below w.heap.size w w' := Below.thenn (by repeat (first | exact Below.refl _ _ | assumption | apply Below.drew | apply below_drewN | (refine Below.alloc ?_ (by first | omega | (simp; done) | (simp; omega)) _) | (refine Below.setCell ?_ (by first | omega | (simp; done) | (simp; omega)) _))) hb (by first | omega | (simp; done) | (simp; omega)); have hz : w.heap.size ≤ w'.heap.size := hB.size; (try (have hz1 : w.heap.size + 1 ≤ w'.heap.size := (by have h := hb.size; (try simp at h); omega))); obtain ⟨hc, hf⟩ := bcell hb; have HO0 := Lib.hid ((Ow.lit0' w w.heap.size _ (Nat.le_refl _) HV1.out).below hb); clear hb)
    go_ret2
    exact ⟨some ⟨wo.heap.size + 1, 0, none⟩, 0, rfl, Ow.base HO0.out hWV.size, Below.thenn hWV hB hWV.size⟩
  have hb := circOk_iff.1 hg
  have l0 := hb.1.1
  have l1 := hb.1.2
  have s0 := hb.2.1.1
  have s1 := hb.2.1.2
  have hn : n ≤ 12 := by have := hb.2.2.2; have := hl.out; omega
  have HG := Lib.hid hg
  clear hb
  rcases ht : inr time 0 100000 with _ | _
  · rw [show placesV l s zs time = [] by simp [placesV, plOk, ht], show plOk l s zs time = false by simp [plOk, ht]]
    go_enter Try.func27, Try.ntmps27
    (go_wp2_with fail; have hWV : Below wo.heap.size wo (wo.alloc (.cells #[.int .i64 l, .int .i64 s, .slice A n c] 27)) := (Below.refl _ _).alloc (Nat.le_refl _) _; have hV0 : wo.heap.size < (wo.alloc (.cells #[.int .i64 l, .int .i64 s, .slice A n c] 27)).heap.size := (by simp); have hv0 : (wo.alloc (.cells #[.int .i64 l, .int .i64 s, .slice A n c] 27)).cell? ⟨wo.heap.size, 0, none⟩ = some (.int .i64 l) := (by rw [cell_of_row _ _ _ _ _ _ (heap_alloc_new wo _)]; rfl); have hv1 : (wo.alloc (.cells #[.int .i64 l, .int .i64 s, .slice A n c] 27)).cell? ⟨wo.heap.size, 1, none⟩ = some (.int .i64 s) := (by rw [cell_of_row _ _ _ _ _ _ (heap_alloc_new wo _)]; rfl); have hv2 : (wo.alloc (.cells #[.int .i64 l, .int .i64 s, .slice A n c] 27)).cell? ⟨wo.heap.size, 2, none⟩ = some (.slice A n c) := (by rw [cell_of_row _ _ _ _ _ _ (heap_alloc_new wo _)]; rfl); have HV1 : Hid (wo.heap.size + 1 = (wo.alloc (.cells #[.int .i64 l, .int .i64 s, .slice A n c] 27)).heap.size) := (show _ = _ by simp); generalize wo.alloc (.cells #[.int .i64 l, .int .i64 s, .slice A n c] 27) = w at hWV hV0 HV1 hv0 hv1 hv2 ⊢; have hr := h.below hWV)
    have hB : Below w.heap.size w w := Below.refl _ _
    go_wp2_with (first | (go_at_call 49; refine (CG.out _ (hr.below ((Below.refl _ _).alloc (Nat.le_refl _) _))).mono ?_; rintro e w' ⟨rfl, hb⟩; have hB : Below w.heap.size w w' := Below.thenn (by repeat (first | exact Below.refl _ _ | assumption | apply Below.drew | apply below_drewN | (refine Below.alloc ?_ (by first | omega | (simp; done) | (simp; omega)) _) | (refine Below.setCell ?_ (by first | omega | (simp; done) | (simp; omega)) _))) hb (by first | omega | (simp; done) | (simp; omega)); have hz : w.heap.size ≤ w'.heap.size := hB.size; (try (have hz1 : w.heap.size + 1 ≤ w'.heap.size := (by have h := hb.size; (try simp at h); omega))); obtain ⟨hc, hf⟩ := bcell hb; have HO0 := Lib.hid ((Ow.lit0' w w.heap.size _ (Nat.le_refl _) HV1.out).below hb); clear hb) | (go_at_call 53; refine (spec_l8Time _ _).mono ?_; rintro e w' ⟨rfl, rfl⟩))
    go_ret2
    exact ⟨some ⟨wo.heap.size + 1, 0, none⟩, 0, rfl, Ow.base HO0.out hWV.size, Below.thenn hWV hB hWV.size⟩
  rw [show placesV l s zs time = zs.map (plF l s time) by simp [placesV, plOk, hg, ht], show plOk l s zs time = true by simp [plOk, hg, ht]]
  have ht0 := (inr_iff0.1 ht).1
  have ht1 := (inr_iff0.1 ht).2
  have hst0 : 0 ≤ s * time := Int.mul_nonneg (by omega) ht0
  have hst1 : s * time ≤ 10000000 := by
    have h1 := Int.mul_le_mul_of_nonneg_right (a := s) (b := 100) (c := time) s1 ht0
    omega
  have wst : IntKind.i64.wrap (s * time) = s * time := IntWalk.i64_in _ (by omega)
  have hl1 : ¬ (10 * l = 0) := by omega
  have hl0 : ¬ (l = 0) := by omega
  have w3 : IntKind.i64.wrap (10 * l) = 10 * l := IntWalk.i64_in _ (by omega)
  clear hg
  go_enter Try.func27, Try.ntmps27
  (go_wp2_with fail; have hWV : Below wo.heap.size wo (wo.alloc (.cells #[.int .i64 l, .int .i64 s, .slice A n c] 27)) := (Below.refl _ _).alloc (Nat.le_refl _) _; have hV0 : wo.heap.size < (wo.alloc (.cells #[.int .i64 l, .int .i64 s, .slice A n c] 27)).heap.size := (by simp); have hv0 : (wo.alloc (.cells #[.int .i64 l, .int .i64 s, .slice A n c] 27)).cell? ⟨wo.heap.size, 0, none⟩ = some (.int .i64 l) := (by rw [cell_of_row _ _ _ _ _ _ (heap_alloc_new wo _)]; rfl); have hv1 : (wo.alloc (.cells #[.int .i64 l, .int .i64 s, .slice A n c] 27)).cell? ⟨wo.heap.size, 1, none⟩ = some (.int .i64 s) := (by rw [cell_of_row _ _ _ _ _ _ (heap_alloc_new wo _)]; rfl); have hv2 : (wo.alloc (.cells #[.int .i64 l, .int .i64 s, .slice A n c] 27)).cell? ⟨wo.heap.size, 2, none⟩ = some (.slice A n c) := (by rw [cell_of_row _ _ _ _ _ _ (heap_alloc_new wo _)]; rfl); have HV1 : Hid (wo.heap.size + 1 = (wo.alloc (.cells #[.int .i64 l, .int .i64 s, .slice A n c] 27)).heap.size) := (show _ = _ by simp); generalize wo.alloc (.cells #[.int .i64 l, .int .i64 s, .slice A n c] 27) = w at hWV hV0 HV1 hv0 hv1 hv2 ⊢; have hr := h.below hWV)
  have hB : Below w.heap.size w w := Below.refl _ _
  go_wp2_with (first | (go_at_call 49; refine (CG.out _ (hr.below ((Below.refl _ _).alloc (Nat.le_refl _) _))).mono ?_; rintro e w' ⟨rfl, hb⟩; have hB : Below w.heap.size w w' := Below.thenn (by repeat (first | exact Below.refl _ _ | assumption | apply Below.drew | apply below_drewN | (refine Below.alloc ?_ (by first | omega | (simp; done) | (simp; omega)) _) | (refine Below.setCell ?_ (by first | omega | (simp; done) | (simp; omega)) _))) hb (by first | omega | (simp; done) | (simp; omega)); have hz : w.heap.size ≤ w'.heap.size := hB.size; (try (have hz1 : w.heap.size + 1 ≤ w'.heap.size := (by have h := hb.size; (try simp at h); omega))); obtain ⟨hc, hf⟩ := bcell hb; have HO0 := Lib.hid ((Ow.lit0' w w.heap.size _ (Nat.le_refl _) HV1.out).below hb); clear hb) | (go_at_call 53; refine (spec_l8Time _ _).mono ?_; rintro e w' ⟨rfl, rfl⟩))
  go_loopg [6, 7] n (fun g q i wr => ∃ (k : Nat) (A2 : Option Addr) (c2 : Nat) (ys : List Int), k ≤ n ∧ n ≤ k + g ∧ i = .int .i64 k ∧ q = .slice A2 ys.length c2 ∧ ys.length ≤ k ∧ Below w.heap.size w wr ∧ w.heap.size ≤ wr.heap.size ∧ Hid (Ow wr w.heap.size (.slice A2 ys.length c2) ys ∧ ys = (zs.take k).map (plF l s time)))
  case atStart => exact ⟨0, _, _, [], by omega, by omega, rfl, rfl, by simp, (by repeat (first | exact Below.refl _ _ | assumption | apply Below.drew | apply below_drewN | (refine Below.alloc ?_ (by first | omega | (simp; done) | (simp; omega)) _) | (refine Below.setCell ?_ (by first | omega | (simp; done) | (simp; omega)) _))), by first | omega | (simp at *; omega), ⟨HO0.out, by simp⟩⟩
  case round =>
    (try clear HO0)
    clear hB hz hc hf
    obtain ⟨k, A2, c2, ys, hk1, hk2, rfl, rfl, hyl, hBr, hzr, ha⟩ := hrel
    (have a0 := (hBr.cell (p := ⟨wo.heap.size, 0, none⟩) hV0).trans hv0; have a1 := (hBr.cell (p := ⟨wo.heap.size, 1, none⟩) hV0).trans hv1; have a2 := (hBr.cell (p := ⟨wo.heap.size, 2, none⟩) hV0).trans hv2)
    have hor : wo.heap.size < wr.heap.size := by omega
    by_cases hlt : k < n
    · obtain ⟨b, off, x, rfl, hx, hcx⟩ := hr.at1 hlt
      have hblt : b < w.heap.size := World.block_lt_of_cell? _ _ hcx
      have c0 : wr.cell? ⟨b, off + k, none⟩ = some (.int .i64 x) := (hBr.cell (p := ⟨b, _, none⟩) hblt).trans hcx
      have hbr : b < wr.heap.size := by omega
      have hxb := circ_at HG.out hx
      have hx0 := hxb.1
      have hx1 := hxb.2
      have HR := Lib.hid hx
      have hv0' := hv0
      have hv1' := hv1
      have hv2' := hv2
      have hm0 := Int.emod_nonneg (10 * x + s * time) hl1
      have hm1 := Int.emod_lt_of_pos (10 * x + s * time) (by omega : 0 < 10 * l)
      have HF : Hid (plF l s time x = (10 * x + s * time) % (10 * l)) := rfl
      have hQ : (10 * x + s * time).tmod (10 * l) = (10 * x + s * time) % (10 * l) := Int.tmod_eq_emod_of_nonneg (by omega)
      have w4 : IntKind.i64.wrap (10 * x) = 10 * x := IntWalk.i64_in _ (by omega)
      have w5 : IntKind.i64.wrap (10 * x + s * time) = 10 * x + s * time := IntWalk.i64_in _ (by omega)
      have w6 : IntKind.i64.wrap ((10 * x + s * time) % (10 * l)) = (10 * x + s * time) % (10 * l) := IntWalk.i64_in _ (by omega)
      clear hx hcx hxb
      have hcx := (show w.cell? ⟨b, off + k, none⟩ = some (.int .i64 x) from (hBr.cell (p := ⟨b, _, none⟩) hblt).symm.trans c0)
      go_wp2_with fail
      go_region_held3 (fun w' => w'.cell? ⟨wo.heap.size, 0, none⟩ = some (.int .i64 l) ∧ w'.cell? ⟨wo.heap.size, 1, none⟩ = some (.int .i64 s) ∧ w'.cell? ⟨wo.heap.size, 2, none⟩ = some (.slice (some ⟨b, off, none⟩) n c) ∧ w'.cell? ⟨b, off + k, none⟩ = some (.int .i64 x)) (first | exact hSS | ((try dsimp only); (repeat' apply And.intro) <;> first | assumption | (refine (hc _ _ ?_).trans ?_ <;> first | assumption | omega | (simp; done) | (simp; omega) | (simp [*]; done) | (simp [World.cell?_alloc_some, *]; done)) | (simp [*, World.cell?_alloc_some, World.cell?_setCell_far]; done) | (simp; omega) | (exact (by repeat (first | exact Below.refl _ _ | assumption | apply Below.drew | apply below_drewN | (refine Below.alloc ?_ (by first | omega | (simp; done) | (simp; omega)) _) | (refine Below.setCell ?_ (by first | omega | (simp; done) | (simp; omega)) _))))))
        ((refine step_app_ints rfl (.tmp 25) (.tmp 41) rfl _ w.heap.size (.slice A2 ys.length c2) ys rfl (ha.out.1.below (by repeat (first | exact Below.refl _ _ | apply Below.drew | (refine Below.alloc ?_ (by first | exact Nat.le_refl _ | simp | omega) _)))) (some ⟨_, 0, none⟩) 1 1 [(10 * x + s * time) % (10 * l)] rfl (by first | exact rd_one _ _ | exact Rd.drew (rd_one _ _)) (by simp; omega) (by first | omega | (simp; done) | (simp; omega)) ?_; intro A1 c1 w1 hown1 hb1; have hBd : Below w.heap.size w w1 := Below.trans (by repeat (first | exact hBr | apply Below.drew | (refine Below.alloc ?_ (by first | omega | (simp; done) | (simp; omega)) _))) hb1; have hSS : (fun w' => w'.cell? ⟨wo.heap.size, 0, none⟩ = some (.int .i64 l) ∧ w'.cell? ⟨wo.heap.size, 1, none⟩ = some (.int .i64 s) ∧ w'.cell? ⟨wo.heap.size, 2, none⟩ = some (.slice (some ⟨b, off, none⟩) n c) ∧ w'.cell? ⟨b, off + k, none⟩ = some (.int .i64 x)) w1 := ⟨(hBd.cell (p := ⟨wo.heap.size, 0, none⟩) hV0).trans hv0', (hBd.cell (p := ⟨wo.heap.size, 1, none⟩) hV0).trans hv1', (hBd.cell (p := ⟨wo.heap.size, 2, none⟩) hV0).trans hv2', (hBd.cell (p := ⟨b, _, none⟩) hblt).trans hcx⟩))
      go_wp2_with fail
      go_roundg (n - (k + 1))
      case measure => omega
      case rel => exact ⟨k + 1, A1, c1, ys ++ [(10 * x + s * time) % (10 * l)], by omega, by omega, by go_num, by simp, by simp; omega, hBd, by have := hBd.size; first | omega | (simp at *; omega), ⟨hown1, by rw [map_next HR.out, ← ha.out.2, HF.out]⟩⟩
    · go_wp2_with fail
      go_ret2
      exact ⟨_, _, ret_ssb (by rw [ha.out.2, map_end hl.out (by omega)]), by rw [← map_end (f := plF l s time) hl.out (by omega : n ≤ k), ← ha.out.2]; exact Ow.base ha.out.1 hWV.size, Below.thenn hWV hBr hWV.size⟩

set_option maxHeartbeats 2000000 in
theorem impl_PlacesAt (l s : Int) (A : Option Addr) (n c : Nat) (zs : List Int) (time : Int) (wo : World) (h : Rd wo 1 A n (IV zs)) (hm : n ≤ 1048577) :
    Calls Try.prog 28 #[.agg #[.int .i64 l, .int .i64 s, .slice A n c], .int .i64 time] wo (RetSB wo (placesV l s zs time) (plOk l s zs time)) := by
  have hl := Lib.hid h.len
  have cg := fun w' (h' : Rd w' 1 A n (IV zs)) => impl_IsCircle l s A n c zs w' h' hm
  rcases hg : circOk l s zs with _ | _
  all_goals rw [hg] at cg
  all_goals have CG := Lib.hid cg
  all_goals clear cg
  · rw [show placesV l s zs time = [] by simp [placesV, plOk, hg], show plOk l s zs time = false by simp [plOk, hg]]
    go_enter Try.func28, Try.ntmps28
    (go_wp2_with fail; have hWV : Below wo.heap.size wo (wo.alloc (.cells #[.int .i64 l, .int .i64 s, .slice A n c] 27)) := (Below.refl _ _).alloc (Nat.le_refl _) _; have hV0 : wo.heap.size < (wo.alloc (.cells #[.int .i64 l, .int .i64 s, .slice A n c] 27)).heap.size := (by simp); have hv0 : (wo.alloc (.cells #[.int .i64 l, .int .i64 s, .slice A n c] 27)).cell? ⟨wo.heap.size, 0, none⟩ = some (.int .i64 l) := (by rw [cell_of_row _ _ _ _ _ _ (heap_alloc_new wo _)]; rfl); have hv1 : (wo.alloc (.cells #[.int .i64 l, .int .i64 s, .slice A n c] 27)).cell? ⟨wo.heap.size, 1, none⟩ = some (.int .i64 s) := (by rw [cell_of_row _ _ _ _ _ _ (heap_alloc_new wo _)]; rfl); have hv2 : (wo.alloc (.cells #[.int .i64 l, .int .i64 s, .slice A n c] 27)).cell? ⟨wo.heap.size, 2, none⟩ = some (.slice A n c) := (by rw [cell_of_row _ _ _ _ _ _ (heap_alloc_new wo _)]; rfl); generalize wo.alloc (.cells #[.int .i64 l, .int .i64 s, .slice A n c] 27) = w at hWV hV0 hv0 hv1 hv2 ⊢; have hr := h.below hWV)
    have hB : Below w.heap.size w w := Below.refl _ _
    go_wp2_with (go_at_call 17; refine (CG.out _ hr).mono ?_; rintro e w' ⟨rfl, hb⟩; have hB : Below w.heap.size w w' := Below.thenn (by repeat (first | exact Below.refl _ _ | assumption | apply Below.drew | apply below_drewN | (refine Below.alloc ?_ (by first | omega | (simp; done) | (simp; omega)) _) | (refine Below.setCell ?_ (by first | omega | (simp; done) | (simp; omega)) _))) hb (by first | omega | (simp; done) | (simp; omega)); have hz : w.heap.size ≤ w'.heap.size := hB.size; (try (have hz1 : w.heap.size + 1 ≤ w'.heap.size := (by have h := hb.size; (try simp at h); omega))); obtain ⟨hc, hf⟩ := bcell hb; have hor := Nat.lt_of_lt_of_le hV0 hz; clear hb)
    go_ret2
    exact ⟨none, 0, rfl, Ow.nil _ _, Below.thenn hWV hB hWV.size⟩
  have hb := circOk_iff.1 hg
  have l0 := hb.1.1
  have l1 := hb.1.2
  have s0 := hb.2.1.1
  have s1 := hb.2.1.2
  have hn : n ≤ 12 := by have := hb.2.2.2; have := hl.out; omega
  have HG := Lib.hid hg
  clear hb
  rcases ht : inr time 0 100000 with _ | _
  · rw [show placesV l s zs time = [] by simp [placesV, plOk, ht], show plOk l s zs time = false by simp [plOk, ht]]
    go_enter Try.func28, Try.ntmps28
    (go_wp2_with fail; have hWV : Below wo.heap.size wo (wo.alloc (.cells #[.int .i64 l, .int .i64 s, .slice A n c] 27)) := (Below.refl _ _).alloc (Nat.le_refl _) _; have hV0 : wo.heap.size < (wo.alloc (.cells #[.int .i64 l, .int .i64 s, .slice A n c] 27)).heap.size := (by simp); have hv0 : (wo.alloc (.cells #[.int .i64 l, .int .i64 s, .slice A n c] 27)).cell? ⟨wo.heap.size, 0, none⟩ = some (.int .i64 l) := (by rw [cell_of_row _ _ _ _ _ _ (heap_alloc_new wo _)]; rfl); have hv1 : (wo.alloc (.cells #[.int .i64 l, .int .i64 s, .slice A n c] 27)).cell? ⟨wo.heap.size, 1, none⟩ = some (.int .i64 s) := (by rw [cell_of_row _ _ _ _ _ _ (heap_alloc_new wo _)]; rfl); have hv2 : (wo.alloc (.cells #[.int .i64 l, .int .i64 s, .slice A n c] 27)).cell? ⟨wo.heap.size, 2, none⟩ = some (.slice A n c) := (by rw [cell_of_row _ _ _ _ _ _ (heap_alloc_new wo _)]; rfl); generalize wo.alloc (.cells #[.int .i64 l, .int .i64 s, .slice A n c] 27) = w at hWV hV0 hv0 hv1 hv2 ⊢; have hr := h.below hWV)
    have hB : Below w.heap.size w w := Below.refl _ _
    go_wp2_with (first | (go_at_call 17; refine (CG.out _ hr).mono ?_; rintro e w' ⟨rfl, hb⟩; have hB : Below w.heap.size w w' := Below.thenn (by repeat (first | exact Below.refl _ _ | assumption | apply Below.drew | apply below_drewN | (refine Below.alloc ?_ (by first | omega | (simp; done) | (simp; omega)) _) | (refine Below.setCell ?_ (by first | omega | (simp; done) | (simp; omega)) _))) hb (by first | omega | (simp; done) | (simp; omega)); have hz : w.heap.size ≤ w'.heap.size := hB.size; (try (have hz1 : w.heap.size + 1 ≤ w'.heap.size := (by have h := hb.size; (try simp at h); omega))); obtain ⟨hc, hf⟩ := bcell hb; have hor := Nat.lt_of_lt_of_le hV0 hz; clear hb) | (go_at_call 55; refine (impl_isTime _ _).mono ?_; rintro e w' ⟨rfl, rfl⟩))
    go_ret2
    exact ⟨none, 0, rfl, Ow.nil _ _, Below.thenn hWV hB hWV.size⟩
  rw [show placesV l s zs time = zs.map (plF l s time) by simp [placesV, plOk, hg, ht], show plOk l s zs time = true by simp [plOk, hg, ht]]
  have ht0 := (inr_iff0.1 ht).1
  have ht1 := (inr_iff0.1 ht).2
  have hst0 : 0 ≤ s * time := Int.mul_nonneg (by omega) ht0
  have hst1 : s * time ≤ 10000000 := by
    have h1 := Int.mul_le_mul_of_nonneg_right (a := s) (b := 100) (c := time) s1 ht0
    omega
  have wst : IntKind.i64.wrap (s * time) = s * time := IntWalk.i64_in _ (by omega)
  have hl1 : ¬ (10 * l = 0) := by omega
  have hl0 : ¬ (l = 0) := by omega
  have w3 : IntKind.i64.wrap (10 * l) = 10 * l := IntWalk.i64_in _ (by omega)
  clear hg
  go_enter Try.func28, Try.ntmps28
  (go_wp2_with fail; have hWV : Below wo.heap.size wo (wo.alloc (.cells #[.int .i64 l, .int .i64 s, .slice A n c] 27)) := (Below.refl _ _).alloc (Nat.le_refl _) _; have hV0 : wo.heap.size < (wo.alloc (.cells #[.int .i64 l, .int .i64 s, .slice A n c] 27)).heap.size := (by simp); have hv0 : (wo.alloc (.cells #[.int .i64 l, .int .i64 s, .slice A n c] 27)).cell? ⟨wo.heap.size, 0, none⟩ = some (.int .i64 l) := (by rw [cell_of_row _ _ _ _ _ _ (heap_alloc_new wo _)]; rfl); have hv1 : (wo.alloc (.cells #[.int .i64 l, .int .i64 s, .slice A n c] 27)).cell? ⟨wo.heap.size, 1, none⟩ = some (.int .i64 s) := (by rw [cell_of_row _ _ _ _ _ _ (heap_alloc_new wo _)]; rfl); have hv2 : (wo.alloc (.cells #[.int .i64 l, .int .i64 s, .slice A n c] 27)).cell? ⟨wo.heap.size, 2, none⟩ = some (.slice A n c) := (by rw [cell_of_row _ _ _ _ _ _ (heap_alloc_new wo _)]; rfl); generalize wo.alloc (.cells #[.int .i64 l, .int .i64 s, .slice A n c] 27) = w at hWV hV0 hv0 hv1 hv2 ⊢; have hr := h.below hWV)
  have hB : Below w.heap.size w w := Below.refl _ _
  go_wp2_with (first | (go_at_call 17; refine (CG.out _ hr).mono ?_; rintro e w' ⟨rfl, hb⟩; have hB : Below w.heap.size w w' := Below.thenn (by repeat (first | exact Below.refl _ _ | assumption | apply Below.drew | apply below_drewN | (refine Below.alloc ?_ (by first | omega | (simp; done) | (simp; omega)) _) | (refine Below.setCell ?_ (by first | omega | (simp; done) | (simp; omega)) _))) hb (by first | omega | (simp; done) | (simp; omega)); have hz : w.heap.size ≤ w'.heap.size := hB.size; (try (have hz1 : w.heap.size + 1 ≤ w'.heap.size := (by have h := hb.size; (try simp at h); omega))); obtain ⟨hc, hf⟩ := bcell hb; have hor := Nat.lt_of_lt_of_le hV0 hz; clear hb) | (go_at_call 55; refine (impl_isTime _ _).mono ?_; rintro e w' ⟨rfl, rfl⟩))
  go_loopg [6, 21] n (fun g q i wr => ∃ (k : Nat) (A2 : Option Addr) (c2 : Nat) (ys : List Int), k ≤ n ∧ n ≤ k + g ∧ i = .int .i64 k ∧ q = .slice A2 ys.length c2 ∧ ys.length ≤ k ∧ Below w.heap.size w wr ∧ w.heap.size ≤ wr.heap.size ∧ Hid (Ow wr w.heap.size (.slice A2 ys.length c2) ys ∧ ys = (zs.take k).map (plF l s time)))
  case atStart => exact ⟨0, _, _, [], by omega, by omega, rfl, rfl, by simp, (by repeat (first | exact Below.refl _ _ | assumption | apply Below.drew | apply below_drewN | (refine Below.alloc ?_ (by first | omega | (simp; done) | (simp; omega)) _) | (refine Below.setCell ?_ (by first | omega | (simp; done) | (simp; omega)) _))), by first | omega | (simp at *; omega), ⟨Ow.lit0 _ _ hz, by simp⟩⟩
  case round =>
    (try clear HO0)
    clear hB hz hc hf hor
    obtain ⟨k, A2, c2, ys, hk1, hk2, rfl, rfl, hyl, hBr, hzr, ha⟩ := hrel
    (have a0 := (hBr.cell (p := ⟨wo.heap.size, 0, none⟩) hV0).trans hv0; have a1 := (hBr.cell (p := ⟨wo.heap.size, 1, none⟩) hV0).trans hv1; have a2 := (hBr.cell (p := ⟨wo.heap.size, 2, none⟩) hV0).trans hv2)
    have hor : wo.heap.size < wr.heap.size := by omega
    by_cases hlt : k < n
    · obtain ⟨b, off, x, rfl, hx, hcx⟩ := hr.at1 hlt
      have hblt : b < w.heap.size := World.block_lt_of_cell? _ _ hcx
      have c0 : wr.cell? ⟨b, off + k, none⟩ = some (.int .i64 x) := (hBr.cell (p := ⟨b, _, none⟩) hblt).trans hcx
      have hbr : b < wr.heap.size := by omega
      have hxb := circ_at HG.out hx
      have hx0 := hxb.1
      have hx1 := hxb.2
      have HR := Lib.hid hx
      have hv0 := Int.emod_nonneg (10 * x + s * time) hl1
      have hv1 := Int.emod_lt_of_pos (10 * x + s * time) (by omega : 0 < 10 * l)
      have HF : Hid (plF l s time x = (10 * x + s * time) % (10 * l)) := rfl
      have hQ : (10 * x + s * time).tmod (10 * l) = (10 * x + s * time) % (10 * l) := Int.tmod_eq_emod_of_nonneg (by omega)
      have w4 : IntKind.i64.wrap (10 * x) = 10 * x := IntWalk.i64_in _ (by omega)
      have w5 : IntKind.i64.wrap (10 * x + s * time) = 10 * x + s * time := IntWalk.i64_in _ (by omega)
      have w6 : IntKind.i64.wrap ((10 * x + s * time) % (10 * l)) = (10 * x + s * time) % (10 * l) := IntWalk.i64_in _ (by omega)
      clear hx hcx hxb
      have hBd : Below w.heap.size w wr := hBr
      go_wp2_with (at_builtin; refine wp_app_int rfl (.tmp 25) (.tmp 37) rfl wr w.heap.size (.slice A2 ys.length c2) ys _ rfl ha.out.1 rfl (by omega) (by first | omega | (simp; done) | (simp; omega)) ?_; intro A1 c1 w1 hown1 hb1)
      go_roundg (n - (k + 1))
      case measure => omega
      case rel => exact ⟨k + 1, A1, c1, ys ++ [(10 * x + s * time) % (10 * l)], by omega, by omega, by go_num, by simp, by simp; omega, hBd.trans hb1, by have := hb1.size; first | omega | (simp at *; omega), ⟨hown1, by rw [map_next HR.out, ← ha.out.2, HF.out]⟩⟩
    · go_wp2_with fail
      go_ret2
      exact ⟨_, _, ret_ssb (by rw [ha.out.2, map_end hl.out (by omega)]), by rw [← map_end (f := plF l s time) hl.out (by omega : n ≤ k), ← ha.out.2]; exact Ow.base ha.out.1 hWV.size, Below.thenn hWV hBr hWV.size⟩
end Go.Proofs.Ytidjgbonlejhhaa
