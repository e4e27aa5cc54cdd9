/- The circle: passes. -/
import Derived.Test.YtidjgbonlejhhaaCircD
namespace Go.Proofs.Ytidjgbonlejhhaa
open Go.RowKit
set_option linter.unusedVariables false
set_option linter.unusedSimpArgs false

def sumZ (f : Int → Int) (zs : List Int) : Int := (zs.map f).sum
theorem sumZ_next {f : Int → Int} {zs : List Int} {k : Nat} {x : Int} (h : zs[k]? = some x) : sumZ f (zs.take (k + 1)) = sumZ f (zs.take k) + f x := by unfold sumZ; rw [take_next h]; simp
theorem sumZ_zero (f : Int → Int) (zs : List Int) : sumZ f (zs.take 0) = 0 := by simp [sumZ]
theorem sumZ_end {f : Int → Int} {zs : List Int} {n k : Nat} (h : zs.length = n) (hk : n ≤ k) : sumZ f (zs.take k) = sumZ f zs := by rw [List.take_of_length_le (by omega)]
def passF (l s place time x : Int) : Int := if wayZ l place x ≤ s * time then (s * time - wayZ l place x) / (10 * l) + 1 else 0
def passOk (l s : Int) (zs : List Int) (place time : Int) : Bool := circOk l s zs && (inr place 0 (l - 1) && inr time 0 100000)
def passV (l s : Int) (zs : List Int) (place time : Int) : Int := if passOk l s zs place time then sumZ (passF l s place time) zs else 0

set_option maxHeartbeats 2000000 in
theorem spec_PassesBy (l s : Int) (A : Option Addr) (n c : Nat) (zs : List Int) (place time : Int) (wo : World) (h : Rd wo 1 A n (IV zs)) (hm : n ≤ 1048577) :
    Calls Try.prog 23 #[.agg #[.int .i64 l, .int .i64 s, .slice A n c], .int .i64 place, .int .i64 time] wo (Ret wo (.tuple #[.int .i64 (passV l s zs place time), .bool (passOk l s zs place time)])) := by
  have hl := Lib.hid h.len
  have cg := fun w' (h' : Rd w' 1 A n (IV zs)) => spec_l8Good l s A n c zs w' h' hm
  rcases hg : circOk l s zs with _ | _
  · rw [hg] at cg
    have CG := Lib.hid cg
    rw [show passV l s zs place time = 0 by simp [passV, passOk, hg], show passOk l s zs place time = false by simp [passOk, hg]]
    clear cg hg
    go_enter Try.func23, Try.ntmps23
    (go_wp2_with fail; have hWV : Below wo.heap.size wo (wo.alloc (.cells #[.int .i64 l, .int .i64 s, .slice A n c] 27)) := (Below.refl _ _).alloc (Nat.le_refl _) _; have hV0 : wo.heap.size < (wo.alloc (.cells #[.int .i64 l, .int .i64 s, .slice A n c] 27)).heap.size := (by simp); have hv0 : (wo.alloc (.cells #[.int .i64 l, .int .i64 s, .slice A n c] 27)).cell? ⟨wo.heap.size, 0, none⟩ = some (.int .i64 l) := (by rw [cell_of_row _ _ _ _ _ _ (heap_alloc_new wo _)]; rfl); have hv1 : (wo.alloc (.cells #[.int .i64 l, .int .i64 s, .slice A n c] 27)).cell? ⟨wo.heap.size, 1, none⟩ = some (.int .i64 s) := (by rw [cell_of_row _ _ _ _ _ _ (heap_alloc_new wo _)]; rfl); have hv2 : (wo.alloc (.cells #[.int .i64 l, .int .i64 s, .slice A n c] 27)).cell? ⟨wo.heap.size, 2, none⟩ = some (.slice A n c) := (by rw [cell_of_row _ _ _ _ _ _ (heap_alloc_new wo _)]; rfl); generalize wo.alloc (.cells #[.int .i64 l, .int .i64 s, .slice A n c] 27) = w at hWV hV0 hv0 hv1 hv2 ⊢; have hr := h.below hWV)
    have hB : Below w.heap.size w w := Below.refl _ _
    go_wp2_with (go_at_call 49; refine (CG.out _ hr).mono ?_; rintro e w' ⟨rfl, hb⟩; have hB : Below w.heap.size w w' := Below.thenn (by repeat (first | exact Below.refl _ _ | assumption | apply Below.drew | apply below_drewN | (refine Below.alloc ?_ (by first | omega | (simp; done) | (simp; omega)) _) | (refine Below.setCell ?_ (by first | omega | (simp; done) | (simp; omega)) _))) hb (by first | omega | (simp; done) | (simp; omega)); have hz : w.heap.size ≤ w'.heap.size := hB.size; (try (have hz1 : w.heap.size + 1 ≤ w'.heap.size := (by have h := hb.size; (try simp at h); omega))); obtain ⟨hc, hf⟩ := bcell hb; clear hb)
    go_ret2
    exact ⟨rfl, Below.thenn hWV hB hWV.size⟩
  rw [hg] at cg
  have CG := Lib.hid cg
  have hb := circOk_iff.1 hg
  have l0 := hb.1.1
  have l1 := hb.1.2
  have s0 := hb.2.1.1
  have s1 := hb.2.1.2
  have hn : n ≤ 12 := by have := hb.2.2.2; have := hl.out; omega
  have HG := Lib.hid hg
  clear cg hb
  rcases hp : inr place 0 (l - 1) with _ | _
  · rw [show passV l s zs place time = 0 by simp [passV, passOk, hp], show passOk l s zs place time = false by simp [passOk, hp]]
    clear hg
    go_enter Try.func23, Try.ntmps23
    (go_wp2_with fail; have hWV : Below wo.heap.size wo (wo.alloc (.cells #[.int .i64 l, .int .i64 s, .slice A n c] 27)) := (Below.refl _ _).alloc (Nat.le_refl _) _; have hV0 : wo.heap.size < (wo.alloc (.cells #[.int .i64 l, .int .i64 s, .slice A n c] 27)).heap.size := (by simp); have hv0 : (wo.alloc (.cells #[.int .i64 l, .int .i64 s, .slice A n c] 27)).cell? ⟨wo.heap.size, 0, none⟩ = some (.int .i64 l) := (by rw [cell_of_row _ _ _ _ _ _ (heap_alloc_new wo _)]; rfl); have hv1 : (wo.alloc (.cells #[.int .i64 l, .int .i64 s, .slice A n c] 27)).cell? ⟨wo.heap.size, 1, none⟩ = some (.int .i64 s) := (by rw [cell_of_row _ _ _ _ _ _ (heap_alloc_new wo _)]; rfl); have hv2 : (wo.alloc (.cells #[.int .i64 l, .int .i64 s, .slice A n c] 27)).cell? ⟨wo.heap.size, 2, none⟩ = some (.slice A n c) := (by rw [cell_of_row _ _ _ _ _ _ (heap_alloc_new wo _)]; rfl); generalize wo.alloc (.cells #[.int .i64 l, .int .i64 s, .slice A n c] 27) = w at hWV hV0 hv0 hv1 hv2 ⊢; have hr := h.below hWV)
    have hB : Below w.heap.size w w := Below.refl _ _
    go_wp2_with (first | (go_at_call 49; refine (CG.out _ hr).mono ?_; rintro e w' ⟨rfl, hb⟩; have hB : Below w.heap.size w w' := Below.thenn (by repeat (first | exact Below.refl _ _ | assumption | apply Below.drew | apply below_drewN | (refine Below.alloc ?_ (by first | omega | (simp; done) | (simp; omega)) _) | (refine Below.setCell ?_ (by first | omega | (simp; done) | (simp; omega)) _))) hb (by first | omega | (simp; done) | (simp; omega)); have hz : w.heap.size ≤ w'.heap.size := hB.size; (try (have hz1 : w.heap.size + 1 ≤ w'.heap.size := (by have h := hb.size; (try simp at h); omega))); obtain ⟨hc, hf⟩ := bcell hb; clear hb) | (go_at_call 52; refine (spec_l1In _ _ _ _).mono ?_; rintro e w' ⟨rfl, rfl⟩))
    go_ret2
    exact ⟨rfl, Below.thenn hWV hB hWV.size⟩
  rcases ht : inr time 0 100000 with _ | _
  · rw [show passV l s zs place time = 0 by simp [passV, passOk, ht], show passOk l s zs place time = false by simp [passOk, ht]]
    clear hg
    go_enter Try.func23, Try.ntmps23
    (go_wp2_with fail; have hWV : Below wo.heap.size wo (wo.alloc (.cells #[.int .i64 l, .int .i64 s, .slice A n c] 27)) := (Below.refl _ _).alloc (Nat.le_refl _) _; have hV0 : wo.heap.size < (wo.alloc (.cells #[.int .i64 l, .int .i64 s, .slice A n c] 27)).heap.size := (by simp); have hv0 : (wo.alloc (.cells #[.int .i64 l, .int .i64 s, .slice A n c] 27)).cell? ⟨wo.heap.size, 0, none⟩ = some (.int .i64 l) := (by rw [cell_of_row _ _ _ _ _ _ (heap_alloc_new wo _)]; rfl); have hv1 : (wo.alloc (.cells #[.int .i64 l, .int .i64 s, .slice A n c] 27)).cell? ⟨wo.heap.size, 1, none⟩ = some (.int .i64 s) := (by rw [cell_of_row _ _ _ _ _ _ (heap_alloc_new wo _)]; rfl); have hv2 : (wo.alloc (.cells #[.int .i64 l, .int .i64 s, .slice A n c] 27)).cell? ⟨wo.heap.size, 2, none⟩ = some (.slice A n c) := (by rw [cell_of_row _ _ _ _ _ _ (heap_alloc_new wo _)]; rfl); generalize wo.alloc (.cells #[.int .i64 l, .int .i64 s, .slice A n c] 27) = w at hWV hV0 hv0 hv1 hv2 ⊢; have hr := h.below hWV)
    have hB : Below w.heap.size w w := Below.refl _ _
    go_wp2_with (first | (go_at_call 49; refine (CG.out _ hr).mono ?_; rintro e w' ⟨rfl, hb⟩; have hB : Below w.heap.size w w' := Below.thenn (by repeat (first | exact Below.refl _ _ | assumption | apply Below.drew | apply below_drewN | (refine Below.alloc ?_ (by first | omega | (simp; done) | (simp; omega)) _) | (refine Below.setCell ?_ (by first | omega | (simp; done) | (simp; omega)) _))) hb (by first | omega | (simp; done) | (simp; omega)); have hz : w.heap.size ≤ w'.heap.size := hB.size; (try (have hz1 : w.heap.size + 1 ≤ w'.heap.size := (by have h := hb.size; (try simp at h); omega))); obtain ⟨hc, hf⟩ := bcell hb; clear hb) | (go_at_call 52; refine (spec_l1In _ _ _ _).mono ?_; rintro e w' ⟨rfl, rfl⟩) | (go_at_call 53; refine (spec_l8Time _ _).mono ?_; rintro e w' ⟨rfl, rfl⟩))
    go_ret2
    exact ⟨rfl, Below.thenn hWV hB hWV.size⟩
  rw [show passV l s zs place time = sumZ (passF l s place time) zs by simp [passV, passOk, hg, hp, ht], show passOk l s zs place time = true by simp [passOk, hg, hp, ht]]
  have hp0 := (inr_iff0.1 hp).1
  have hp1 := (inr_iff0.1 hp).2
  have ht0 := (inr_iff0.1 ht).1
  have ht1 := (inr_iff0.1 ht).2
  have hst0 : 0 ≤ s * time := Int.mul_nonneg (by omega) ht0
  have hst1 : s * time ≤ 10000000 := by
    have h1 := Int.mul_le_mul_of_nonneg_right (a := s) (b := 100) (c := time) s1 ht0
    omega
  have wst : IntKind.i64.wrap (s * time) = s * time := IntWalk.i64_in _ (by omega)
  have HST : Hid (True) := trivial
  clear hg
  go_enter Try.func23, Try.ntmps23
  (go_wp2_with fail; have hWV : Below wo.heap.size wo (wo.alloc (.cells #[.int .i64 l, .int .i64 s, .slice A n c] 27)) := (Below.refl _ _).alloc (Nat.le_refl _) _; have hV0 : wo.heap.size < (wo.alloc (.cells #[.int .i64 l, .int .i64 s, .slice A n c] 27)).heap.size := (by simp); have hv0 : (wo.alloc (.cells #[.int .i64 l, .int .i64 s, .slice A n c] 27)).cell? ⟨wo.heap.size, 0, none⟩ = some (.int .i64 l) := (by rw [cell_of_row _ _ _ _ _ _ (heap_alloc_new wo _)]; rfl); have hv1 : (wo.alloc (.cells #[.int .i64 l, .int .i64 s, .slice A n c] 27)).cell? ⟨wo.heap.size, 1, none⟩ = some (.int .i64 s) := (by rw [cell_of_row _ _ _ _ _ _ (heap_alloc_new wo _)]; rfl); have hv2 : (wo.alloc (.cells #[.int .i64 l, .int .i64 s, .slice A n c] 27)).cell? ⟨wo.heap.size, 2, none⟩ = some (.slice A n c) := (by rw [cell_of_row _ _ _ _ _ _ (heap_alloc_new wo _)]; rfl); generalize wo.alloc (.cells #[.int .i64 l, .int .i64 s, .slice A n c] 27) = w at hWV hV0 hv0 hv1 hv2 ⊢; have hr := h.below hWV)
  have hB : Below w.heap.size w w := Below.refl _ _
  go_wp2_with (first | (go_at_call 49; refine (CG.out _ hr).mono ?_; rintro e w' ⟨rfl, hb⟩; have hB : Below w.heap.size w w' := Below.thenn (by repeat (first | exact Below.refl _ _ | assumption | apply Below.drew | apply below_drewN | (refine Below.alloc ?_ (by first | omega | (simp; done) | (simp; omega)) _) | (refine Below.setCell ?_ (by first | omega | (simp; done) | (simp; omega)) _))) hb (by first | omega | (simp; done) | (simp; omega)); have hz : w.heap.size ≤ w'.heap.size := hB.size; (try (have hz1 : w.heap.size + 1 ≤ w'.heap.size := (by have h := hb.size; (try simp at h); omega))); obtain ⟨hc, hf⟩ := bcell hb; clear hb) | (go_at_call 52; refine (spec_l1In _ _ _ _).mono ?_; rintro e w' ⟨rfl, rfl⟩) | (go_at_call 53; refine (spec_l8Time _ _).mono ?_; rintro e w' ⟨rfl, rfl⟩))
  go_loopg [8, 9] n (fun g q i wr => ∃ (k : Nat) (z : Int), k ≤ n ∧ n ≤ k + g ∧ i = .int .i64 k ∧ q = .int .i64 z ∧ 0 ≤ z ∧ z ≤ k * 10000001 ∧ Below w.heap.size w wr ∧ w.heap.size ≤ wr.heap.size ∧ Hid (z = sumZ (passF l s place time) (zs.take k)))
  case atStart => exact ⟨0, 0, by omega, by omega, rfl, rfl, by omega, by omega, hB, hz, (show (0 : Int) = sumZ _ _ by rw [sumZ_zero])⟩
  case round =>
    clear hB hz hc hf
    obtain ⟨k, z, hk1, hk2, rfl, rfl, hz0, hz1, hBr, hzr, ha⟩ := hrel
    (have a0 := (hBr.cell (p := ⟨wo.heap.size, 0, none⟩) hV0).trans hv0; have a1 := (hBr.cell (p := ⟨wo.heap.size, 1, none⟩) hV0).trans hv1; have a2 := (hBr.cell (p := ⟨wo.heap.size, 2, none⟩) hV0).trans hv2)
    have hor : wo.heap.size < wr.heap.size := by omega
    by_cases hlt : k < n
    · obtain ⟨b, off, x, rfl, hx, hcx⟩ := hr.at1 hlt
      have hblt : b < w.heap.size := World.block_lt_of_cell? _ _ hcx
      have c0 : wr.cell? ⟨b, off + k, none⟩ = some (.int .i64 x) := (hBr.cell (p := ⟨b, _, none⟩) hblt).trans hcx
      have hbr : b < wr.heap.size := by omega
      have hxb := circ_at HG.out hx
      have hx0 := hxb.1
      have hx1 := hxb.2
      have hwb := wayZ_bd (place := place) (x := x) l0 l1
      have HR := Lib.hid hx
      have CW := Lib.hid (fun w' (hbb : Below w.heap.size w w') => spec_l8Way l s (some ⟨b, off, none⟩) n c k zs x place w' (hr.below hbb) hx hm l0 l1 hx0 hx1 hp0 hp1)
      have HF : Hid (passF l s place time x = if wayZ l place x ≤ s * time then (s * time - wayZ l place x) / (10 * l) + 1 else 0) := rfl
      generalize wayZ l place x = W at CW hwb HF
      have hwb0 := hwb.1
      have hwb1 := hwb.2
      have hq0 : W ≤ s * time → 0 ≤ (s * time - W) / (10 * l) := fun h => Int.ediv_nonneg (by omega) (by omega)
      have hq1 : W ≤ s * time → (s * time - W) / (10 * l) ≤ s * time - W := fun h => Int.ediv_le_self _ (by omega)
      clear hx hcx hxb hwb
      by_cases hle : W ≤ s * time
      · have hq2 := hq0 hle
        have hq3 := hq1 hle
        have hQ : (s * time - W).tdiv (10 * l) = (s * time - W) / (10 * l) := Int.tdiv_eq_ediv_of_nonneg (by omega)
        have HF2 : Hid (passF l s place time x = (s * time - W) / (10 * l) + 1) := (show _ = _ by rw [HF.out, if_pos hle])
        clear hq0 hq1 HF
        go_wp2_with (go_at_call 54; refine (CW.out _ (by repeat (first | exact Below.refl _ _ | assumption | apply Below.drew | apply below_drewN | (refine Below.alloc ?_ (by first | omega | (simp; done) | (simp; omega)) _) | (refine Below.setCell ?_ (by first | omega | (simp; done) | (simp; omega)) _)))).mono ?_; rintro e w' ⟨rfl, hb⟩; have hB : Below w.heap.size w w' := Below.thenn (by repeat (first | exact Below.refl _ _ | assumption | apply Below.drew | apply below_drewN | (refine Below.alloc ?_ (by first | omega | (simp; done) | (simp; omega)) _) | (refine Below.setCell ?_ (by first | omega | (simp; done) | (simp; omega)) _))) hb (by first | omega | (simp; done) | (simp; omega)); have hz : w.heap.size ≤ w'.heap.size := hB.size; (try (have hz1 : w.heap.size + 1 ≤ w'.heap.size := (by have h := hb.size; (try simp at h); omega))); obtain ⟨hc, hf⟩ := bcell hb; clear hb)
        all_goals go_roundg (n - (k + 1))
        all_goals first | omega | exact ⟨k + 1, _, by omega, by omega, by go_num, rfl, by omega, by omega, (by repeat (first | exact Below.refl _ _ | assumption | apply Below.drew | apply below_drewN | (refine Below.alloc ?_ (by first | omega | (simp; done) | (simp; omega)) _) | (refine Below.setCell ?_ (by first | omega | (simp; done) | (simp; omega)) _))), by first | omega | (simp at *; omega), (show _ = sumZ _ _ by rw [sumZ_next HR.out, ← ha.out, HF2.out]; try omega)⟩
      · have HF2 : Hid (passF l s place time x = 0) := (show _ = _ by rw [HF.out, if_neg hle])
        clear hq0 hq1 HF
        go_wp2_with (go_at_call 54; refine (CW.out _ (by repeat (first | exact Below.refl _ _ | assumption | apply Below.drew | apply below_drewN | (refine Below.alloc ?_ (by first | omega | (simp; done) | (simp; omega)) _) | (refine Below.setCell ?_ (by first | omega | (simp; done) | (simp; omega)) _)))).mono ?_; rintro e w' ⟨rfl, hb⟩; have hB : Below w.heap.size w w' := Below.thenn (by repeat (first | exact Below.refl _ _ | assumption | apply Below.drew | apply below_drewN | (refine Below.alloc ?_ (by first | omega | (simp; done) | (simp; omega)) _) | (refine Below.setCell ?_ (by first | omega | (simp; done) | (simp; omega)) _))) hb (by first | omega | (simp; done) | (simp; omega)); have hz : w.heap.size ≤ w'.heap.size := hB.size; (try (have hz1 : w.heap.size + 1 ≤ w'.heap.size := (by have h := hb.size; (try simp at h); omega))); obtain ⟨hc, hf⟩ := bcell hb; clear hb)
        all_goals go_roundg (n - (k + 1))
        all_goals first | omega | exact ⟨k + 1, z, by omega, by omega, by go_num, rfl, by omega, by omega, (by repeat (first | exact Below.refl _ _ | assumption | apply Below.drew | apply below_drewN | (refine Below.alloc ?_ (by first | omega | (simp; done) | (simp; omega)) _) | (refine Below.setCell ?_ (by first | omega | (simp; done) | (simp; omega)) _))), by first | omega | (simp at *; omega), (show _ = sumZ _ _ by rw [sumZ_next HR.out, ← ha.out, HF2.out, Int.add_zero])⟩
    · go_wp2_with fail
      go_ret2
      exact ⟨ret_ib (by rw [ha.out]; exact sumZ_end hl.out (by omega)) rfl, Below.thenn hWV hBr hWV.size⟩

set_option maxHeartbeats 2000000 in
theorem impl_PassesBy (l s : Int) (A : Option Addr) (n c : Nat) (zs : List Int) (place time : Int) (wo : World) (h : Rd wo 1 A n (IV zs)) (hm : n ≤ 1048577) :
    Calls Try.prog 24 #[.agg #[.int .i64 l, .int .i64 s, .slice A n c], .int .i64 place, .int .i64 time] wo (Ret wo (.tuple #[.int .i64 (passV l s zs place time), .bool (passOk l s zs place time)])) := by
  have hl := Lib.hid h.len
  have cg := fun w' (h' : Rd w' 1 A n (IV zs)) => impl_IsCircle l s A n c zs w' h' hm
  rcases hg : circOk l s zs with _ | _
  · rw [hg] at cg
    have CG := Lib.hid cg
    rw [show passV l s zs place time = 0 by simp [passV, passOk, hg], show passOk l s zs place time = false by simp [passOk, hg]]
    clear cg hg
    go_enter Try.func24, Try.ntmps24
    (go_wp2_with fail; have hWV : Below wo.heap.size wo (wo.alloc (.cells #[.int .i64 l, .int .i64 s, .slice A n c] 27)) := (Below.refl _ _).alloc (Nat.le_refl _) _; have hV0 : wo.heap.size < (wo.alloc (.cells #[.int .i64 l, .int .i64 s, .slice A n c] 27)).heap.size := (by simp); have hv0 : (wo.alloc (.cells #[.int .i64 l, .int .i64 s, .slice A n c] 27)).cell? ⟨wo.heap.size, 0, none⟩ = some (.int .i64 l) := (by rw [cell_of_row _ _ _ _ _ _ (heap_alloc_new wo _)]; rfl); have hv1 : (wo.alloc (.cells #[.int .i64 l, .int .i64 s, .slice A n c] 27)).cell? ⟨wo.heap.size, 1, none⟩ = some (.int .i64 s) := (by rw [cell_of_row _ _ _ _ _ _ (heap_alloc_new wo _)]; rfl); have hv2 : (wo.alloc (.cells #[.int .i64 l, .int .i64 s, .slice A n c] 27)).cell? ⟨wo.heap.size, 2, none⟩ = some (.slice A n c) := (by rw [cell_of_row _ _ _ _ _ _ (heap_alloc_new wo _)]; rfl); generalize wo.alloc (.cells #[.int .i64 l, .int .i64 s, .slice A n c] 27) = w at hWV hV0 hv0 hv1 hv2 ⊢; have hr := h.below hWV)
    have hB : Below w.heap.size w w := Below.refl _ _
    go_wp2_with (go_at_call 17; refine (CG.out _ hr).mono ?_; rintro e w' ⟨rfl, hb⟩; have hB : Below w.heap.size w w' := Below.thenn (by repeat (first | exact Below.refl _ _ | assumption | apply Below.drew | apply below_drewN | (refine Below.alloc ?_ (by first | omega | (simp; done) | (simp; omega)) _) | (refine Below.setCell ?_ (by first | omega | (simp; done) | (simp; omega)) _))) hb (by first | omega | (simp; done) | (simp; omega)); have hz : w.heap.size ≤ w'.heap.size := hB.size; (try (have hz1 : w.heap.size + 1 ≤ w'.heap.size := (by have h := hb.size; (try simp at h); omega))); obtain ⟨hc, hf⟩ := bcell hb; clear hb)
    go_ret2
    exact ⟨rfl, Below.thenn hWV hB hWV.size⟩
  rw [hg] at cg
  have CG := Lib.hid cg
  have hb := circOk_iff.1 hg
  have l0 := hb.1.1
  have l1 := hb.1.2
  have s0 := hb.2.1.1
  have s1 := hb.2.1.2
  have hn : n ≤ 12 := by have := hb.2.2.2; have := hl.out; omega
  have HG := Lib.hid hg
  clear cg hb
  rcases hp : inr place 0 (l - 1) with _ | _
  · rw [show passV l s zs place time = 0 by simp [passV, passOk, hp], show passOk l s zs place time = false by simp [passOk, hp]]
    clear hg
    go_enter Try.func24, Try.ntmps24
    (go_wp2_with fail; have hWV : Below wo.heap.size wo (wo.alloc (.cells #[.int .i64 l, .int .i64 s, .slice A n c] 27)) := (Below.refl _ _).alloc (Nat.le_refl _) _; have hV0 : wo.heap.size < (wo.alloc (.cells #[.int .i64 l, .int .i64 s, .slice A n c] 27)).heap.size := (by simp); have hv0 : (wo.alloc (.cells #[.int .i64 l, .int .i64 s, .slice A n c] 27)).cell? ⟨wo.heap.size, 0, none⟩ = some (.int .i64 l) := (by rw [cell_of_row _ _ _ _ _ _ (heap_alloc_new wo _)]; rfl); have hv1 : (wo.alloc (.cells #[.int .i64 l, .int .i64 s, .slice A n c] 27)).cell? ⟨wo.heap.size, 1, none⟩ = some (.int .i64 s) := (by rw [cell_of_row _ _ _ _ _ _ (heap_alloc_new wo _)]; rfl); have hv2 : (wo.alloc (.cells #[.int .i64 l, .int .i64 s, .slice A n c] 27)).cell? ⟨wo.heap.size, 2, none⟩ = some (.slice A n c) := (by rw [cell_of_row _ _ _ _ _ _ (heap_alloc_new wo _)]; rfl); generalize wo.alloc (.cells #[.int .i64 l, .int .i64 s, .slice A n c] 27) = w at hWV hV0 hv0 hv1 hv2 ⊢; have hr := h.below hWV)
    have hB : Below w.heap.size w w := Below.refl _ _
    go_wp2_with (first | (go_at_call 17; refine (CG.out _ hr).mono ?_; rintro e w' ⟨rfl, hb⟩; have hB : Below w.heap.size w w' := Below.thenn (by repeat (first | exact Below.refl _ _ | assumption | apply Below.drew | apply below_drewN | (refine Below.alloc ?_ (by first | omega | (simp; done) | (simp; omega)) _) | (refine Below.setCell ?_ (by first | omega | (simp; done) | (simp; omega)) _))) hb (by first | omega | (simp; done) | (simp; omega)); have hz : w.heap.size ≤ w'.heap.size := hB.size; (try (have hz1 : w.heap.size + 1 ≤ w'.heap.size := (by have h := hb.size; (try simp at h); omega))); obtain ⟨hc, hf⟩ := bcell hb; clear hb) | (go_at_call 51; refine (impl_within _ _ _ _).mono ?_; rintro e w' ⟨rfl, rfl⟩))
    go_ret2
    exact ⟨rfl, Below.thenn hWV hB hWV.size⟩
  rcases ht : inr time 0 100000 with _ | _
  · rw [show passV l s zs place time = 0 by simp [passV, passOk, ht], show passOk l s zs place time = false by simp [passOk, ht]]
    clear hg
    go_enter Try.func24, Try.ntmps24
    (go_wp2_with fail; have hWV : Below wo.heap.size wo (wo.alloc (.cells #[.int .i64 l, .int .i64 s, .slice A n c] 27)) := (Below.refl _ _).alloc (Nat.le_refl _) _; have hV0 : wo.heap.size < (wo.alloc (.cells #[.int .i64 l, .int .i64 s, .slice A n c] 27)).heap.size := (by simp); have hv0 : (wo.alloc (.cells #[.int .i64 l, .int .i64 s, .slice A n c] 27)).cell? ⟨wo.heap.size, 0, none⟩ = some (.int .i64 l) := (by rw [cell_of_row _ _ _ _ _ _ (heap_alloc_new wo _)]; rfl); have hv1 : (wo.alloc (.cells #[.int .i64 l, .int .i64 s, .slice A n c] 27)).cell? ⟨wo.heap.size, 1, none⟩ = some (.int .i64 s) := (by rw [cell_of_row _ _ _ _ _ _ (heap_alloc_new wo _)]; rfl); have hv2 : (wo.alloc (.cells #[.int .i64 l, .int .i64 s, .slice A n c] 27)).cell? ⟨wo.heap.size, 2, none⟩ = some (.slice A n c) := (by rw [cell_of_row _ _ _ _ _ _ (heap_alloc_new wo _)]; rfl); generalize wo.alloc (.cells #[.int .i64 l, .int .i64 s, .slice A n c] 27) = w at hWV hV0 hv0 hv1 hv2 ⊢; have hr := h.below hWV)
    have hB : Below w.heap.size w w := Below.refl _ _
    go_wp2_with (first | (go_at_call 17; refine (CG.out _ hr).mono ?_; rintro e w' ⟨rfl, hb⟩; have hB : Below w.heap.size w w' := Below.thenn (by repeat (first | exact Below.refl _ _ | assumption | apply Below.drew | apply below_drewN | (refine Below.alloc ?_ (by first | omega | (simp; done) | (simp; omega)) _) | (refine Below.setCell ?_ (by first | omega | (simp; done) | (simp; omega)) _))) hb (by first | omega | (simp; done) | (simp; omega)); have hz : w.heap.size ≤ w'.heap.size := hB.size; (try (have hz1 : w.heap.size + 1 ≤ w'.heap.size := (by have h := hb.size; (try simp at h); omega))); obtain ⟨hc, hf⟩ := bcell hb; clear hb) | (go_at_call 51; refine (impl_within _ _ _ _).mono ?_; rintro e w' ⟨rfl, rfl⟩) | (go_at_call 55; refine (impl_isTime _ _).mono ?_; rintro e w' ⟨rfl, rfl⟩))
    go_ret2
    exact ⟨rfl, Below.thenn hWV hB hWV.size⟩
  rw [show passV l s zs place time = sumZ (passF l s place time) zs by simp [passV, passOk, hg, hp, ht], show passOk l s zs place time = true by simp [passOk, hg, hp, ht]]
  have hp0 := (inr_iff0.1 hp).1
  have hp1 := (inr_iff0.1 hp).2
  have ht0 := (inr_iff0.1 ht).1
  have ht1 := (inr_iff0.1 ht).2
  have hst0 : 0 ≤ s * time := Int.mul_nonneg (by omega) ht0
  have hst1 : s * time ≤ 10000000 := by
    have h1 := Int.mul_le_mul_of_nonneg_right (a := s) (b := 100) (c := time) s1 ht0
    omega
  have wst : IntKind.i64.wrap (s * time) = s * time := IntWalk.i64_in _ (by omega)
  have HST : Hid (True) := trivial
  clear hg
  go_enter Try.func24, Try.ntmps24
  (go_wp2_with fail; have hWV : Below wo.heap.size wo (wo.alloc (.cells #[.int .i64 l, .int .i64 s, .slice A n c] 27)) := (Below.refl _ _).alloc (Nat.le_refl _) _; have hV0 : wo.heap.size < (wo.alloc (.cells #[.int .i64 l, .int .i64 s, .slice A n c] 27)).heap.size := (by simp); have hv0 : (wo.alloc (.cells #[.int .i64 l, .int .i64 s, .slice A n c] 27)).cell? ⟨wo.heap.size, 0, none⟩ = some (.int .i64 l) := (by rw [cell_of_row _ _ _ _ _ _ (heap_alloc_new wo _)]; rfl); have hv1 : (wo.alloc (.cells #[.int .i64 l, .int .i64 s, .slice A n c] 27)).cell? ⟨wo.heap.size, 1, none⟩ = some (.int .i64 s) := (by rw [cell_of_row _ _ _ _ _ _ (heap_alloc_new wo _)]; rfl); have hv2 : (wo.alloc (.cells #[.int .i64 l, .int .i64 s, .slice A n c] 27)).cell? ⟨wo.heap.size, 2, none⟩ = some (.slice A n c) := (by rw [cell_of_row _ _ _ _ _ _ (heap_alloc_new wo _)]; rfl); generalize wo.alloc (.cells #[.int .i64 l, .int .i64 s, .slice A n c] 27) = w at hWV hV0 hv0 hv1 hv2 ⊢; have hr := h.below hWV)
  have hB : Below w.heap.size w w := Below.refl _ _
  go_wp2_with (first | (go_at_call 17; refine (CG.out _ hr).mono ?_; rintro e w' ⟨rfl, hb⟩; have hB : Below w.heap.size w w' := Below.thenn (by repeat (first | exact Below.refl _ _ | assumption | apply Below.drew | apply below_drewN | (refine Below.alloc ?_ (by first | omega | (simp; done) | (simp; omega)) _) | (refine Below.setCell ?_ (by first | omega | (simp; done) | (simp; omega)) _))) hb (by first | omega | (simp; done) | (simp; omega)); have hz : w.heap.size ≤ w'.heap.size := hB.size; (try (have hz1 : w.heap.size + 1 ≤ w'.heap.size := (by have h := hb.size; (try simp at h); omega))); obtain ⟨hc, hf⟩ := bcell hb; clear hb) | (go_at_call 51; refine (impl_within _ _ _ _).mono ?_; rintro e w' ⟨rfl, rfl⟩) | (go_at_call 55; refine (impl_isTime _ _).mono ?_; rintro e w' ⟨rfl, rfl⟩))
  have hBr := hB
  (have a0 := (hBr.cell (p := ⟨wo.heap.size, 0, none⟩) hV0).trans hv0; have a1 := (hBr.cell (p := ⟨wo.heap.size, 1, none⟩) hV0).trans hv1; have a2 := (hBr.cell (p := ⟨wo.heap.size, 2, none⟩) hV0).trans hv2)
  have hor : wo.heap.size < w'.heap.size := by omega
  clear hc hf
  (refine wp_region_ext (by kernel_rfl) (by kernel_rfl) ?_; have hxe := ext_cells; (repeat (go_big_quiet_step (fail))); refine wpQuiet_nil ?_; intro w' hw'; obtain ⟨nx, hw''⟩ := hw'; have hbx := ext_out hw''; clear hw'' nx hxe; have hB : Below w.heap.size w w' := Below.thenn (by repeat (first | exact Below.refl _ _ | assumption | apply Below.drew | apply below_drewN | (refine Below.alloc ?_ (by first | omega | (simp; done) | (simp; omega)) _) | (refine Below.setCell ?_ (by first | omega | (simp; done) | (simp; omega)) _))) hbx (by first | omega | (simp; done) | (simp; omega)); have hz : w.heap.size ≤ w'.heap.size := hB.size; obtain ⟨hc, hf⟩ := bcell hbx; clear hbx)
  go_wp2_with fail
  clear hBr a0 a1 a2 hor
  go_loopg [8, 36] n (fun g q i wr => ∃ (k : Nat) (z : Int), k ≤ n ∧ n ≤ k + g ∧ i = .int .i64 k ∧ q = .int .i64 z ∧ 0 ≤ z ∧ z ≤ k * 10000001 ∧ Below w.heap.size w wr ∧ w.heap.size ≤ wr.heap.size ∧ Hid (z = sumZ (passF l s place time) (zs.take k)))
  case atStart => exact ⟨0, 0, by omega, by omega, rfl, rfl, by omega, by omega, hB, hz, (show (0 : Int) = sumZ _ _ by rw [sumZ_zero])⟩
  case round =>
    clear hB hz hc hf
    obtain ⟨k, z, hk1, hk2, rfl, rfl, hz0, hz1, hBr, hzr, ha⟩ := hrel
    (have a0 := (hBr.cell (p := ⟨wo.heap.size, 0, none⟩) hV0).trans hv0; have a1 := (hBr.cell (p := ⟨wo.heap.size, 1, none⟩) hV0).trans hv1; have a2 := (hBr.cell (p := ⟨wo.heap.size, 2, none⟩) hV0).trans hv2)
    have hor : wo.heap.size < wr.heap.size := by omega
    by_cases hlt : k < n
    · obtain ⟨b, off, x, rfl, hx, hcx⟩ := hr.at1 hlt
      have hblt : b < w.heap.size := World.block_lt_of_cell? _ _ hcx
      have c0 : wr.cell? ⟨b, off + k, none⟩ = some (.int .i64 x) := (hBr.cell (p := ⟨b, _, none⟩) hblt).trans hcx
      have hbr : b < wr.heap.size := by omega
      have hxb := circ_at HG.out hx
      have hx0 := hxb.1
      have hx1 := hxb.2
      have hwb := wayZ_bd (place := place) (x := x) l0 l1
      have HR := Lib.hid hx
      have CW := Lib.hid (fun w' (hbb : Below w.heap.size w w') => impl_ahead l s (some ⟨b, off, none⟩) n c x place w' l0 l1 hx0 hx1 hp0 hp1)
      have HF : Hid (passF l s place time x = if wayZ l place x ≤ s * time then (s * time - wayZ l place x) / (10 * l) + 1 else 0) := rfl
      generalize wayZ l place x = W at CW hwb HF
      have hwb0 := hwb.1
      have hwb1 := hwb.2
      have hq0 : W ≤ s * time → 0 ≤ (s * time - W) / (10 * l) := fun h => Int.ediv_nonneg (by omega) (by omega)
      have hq1 : W ≤ s * time → (s * time - W) / (10 * l) ≤ s * time - W := fun h => Int.ediv_le_self _ (by omega)
      clear hx hcx hxb hwb
      by_cases hle : W ≤ s * time
      · have hq2 := hq0 hle
        have hq3 := hq1 hle
        have hQ : (s * time - W).tdiv (10 * l) = (s * time - W) / (10 * l) := Int.tdiv_eq_ediv_of_nonneg (by omega)
        have HF2 : Hid (passF l s place time x = (s * time - W) / (10 * l) + 1) := (show _ = _ by rw [HF.out, if_pos hle])
        clear hq0 hq1 HF
        go_wp2_with (go_at_call 56; refine (CW.out _ (by repeat (first | exact Below.refl _ _ | assumption | apply Below.drew | apply below_drewN | (refine Below.alloc ?_ (by first | omega | (simp; done) | (simp; omega)) _) | (refine Below.setCell ?_ (by first | omega | (simp; done) | (simp; omega)) _)))).mono ?_; rintro e w' ⟨rfl, hb⟩; have hB : Below w.heap.size w w' := Below.thenn (by repeat (first | exact Below.refl _ _ | assumption | apply Below.drew | apply below_drewN | (refine Below.alloc ?_ (by first | omega | (simp; done) | (simp; omega)) _) | (refine Below.setCell ?_ (by first | omega | (simp; done) | (simp; omega)) _))) hb (by first | omega | (simp; done) | (simp; omega)); have hz : w.heap.size ≤ w'.heap.size := hB.size; (try (have hz1 : w.heap.size + 1 ≤ w'.heap.size := (by have h := hb.size; (try simp at h); omega))); obtain ⟨hc, hf⟩ := bcell hb; clear hb)
        all_goals go_roundg (n - (k + 1))
        all_goals first | omega | exact ⟨k + 1, _, by omega, by omega, by go_num, rfl, by omega, by omega, (by repeat (first | exact Below.refl _ _ | assumption | apply Below.drew | apply below_drewN | (refine Below.alloc ?_ (by first | omega | (simp; done) | (simp; omega)) _) | (refine Below.setCell ?_ (by first | omega | (simp; done) | (simp; omega)) _))), by first | omega | (simp at *; omega), (show _ = sumZ _ _ by rw [sumZ_next HR.out, ← ha.out, HF2.out]; try omega)⟩
      · have HF2 : Hid (passF l s place time x = 0) := (show _ = _ by rw [HF.out, if_neg hle])
        clear hq0 hq1 HF
        go_wp2_with (go_at_call 56; refine (CW.out _ (by repeat (first | exact Below.refl _ _ | assumption | apply Below.drew | apply below_drewN | (refine Below.alloc ?_ (by first | omega | (simp; done) | (simp; omega)) _) | (refine Below.setCell ?_ (by first | omega | (simp; done) | (simp; omega)) _)))).mono ?_; rintro e w' ⟨rfl, hb⟩; have hB : Below w.heap.size w w' := Below.thenn (by repeat (first | exact Below.refl _ _ | assumption | apply Below.drew | apply below_drewN | (refine Below.alloc ?_ (by first | omega | (simp; done) | (simp; omega)) _) | (refine Below.setCell ?_ (by first | omega | (simp; done) | (simp; omega)) _))) hb (by first | omega | (simp; done) | (simp; omega)); have hz : w.heap.size ≤ w'.heap.size := hB.size; (try (have hz1 : w.heap.size + 1 ≤ w'.heap.size := (by have h := hb.size; (try simp at h); omega))); obtain ⟨hc, hf⟩ := bcell hb; clear hb)
        all_goals go_roundg (n - (k + 1))
        all_goals first | omega | exact ⟨k + 1, z, by omega, by omega, by go_num, rfl, by omega, by omega, (by repeat (first | exact Below.refl _ _ | assumption | apply Below.drew | apply below_drewN | (refine Below.alloc ?_ (by first | omega | (simp; done) | (simp; omega)) _) | (refine Below.setCell ?_ (by first | omega | (simp; done) | (simp; omega)) _))), by first | omega | (simp at *; omega), (show _ = sumZ _ _ by rw [sumZ_next HR.out, ← ha.out, HF2.out, Int.add_zero])⟩
    · go_wp2_with fail
      go_ret2
      exact ⟨ret_ib (by rw [ha.out]; exact sumZ_end hl.out (by omega)) rfl, Below.thenn hWV hBr hWV.size⟩
end Go.Proofs.Ytidjgbonlejhhaa
