/- The circle: the next pass. -/
import Derived.Test.YtidjgbonlejhhaaCircD
import Derived.Test.YtidjgbonlejhhaaNextP
namespace Go.Proofs.Ytidjgbonlejhhaa
open Go.RowKit
set_option linter.unusedVariables false
set_option linter.unusedSimpArgs false

def nextWs (l s : Int) (zs : List Int) (place time : Int) : List Int := zs.map fun x => nextW (10 * l) (s * time) (wayZ l place x)
def nextOk (l s : Int) (zs : List Int) (place time : Int) : Bool := circOk l s zs && (inr place 0 (l - 1) && (inr time 0 100000 && decide (zs.length ≠ 0)))
def nextB (l s : Int) (zs : List Int) (place time : Int) : Int := if nextOk l s zs place time then (nbest (nextWs l s zs place time) zs.length).1 else 0
def nextT (l s : Int) (zs : List Int) (place time : Int) : Int := if nextOk l s zs place time then ((nbest (nextWs l s zs place time) zs.length).2 + s - 1) / s else 0
theorem nextWs_at {l s place time x : Int} {zs : List Int} {k : Nat} (h : zs[k]? = some x) : (nextWs l s zs place time).getD k 0 = nextW (10 * l) (s * time) (wayZ l place x) := by simp [nextWs, List.getD, h]
theorem nextWs_bd {l s place time : Int} {zs : List Int} (h0 : 10 ≤ l) (h1 : l ≤ 4000) (h2 : s * time ≤ 10000000) (k : Nat) : 0 ≤ (nextWs l s zs place time).getD k 0 ∧ (nextWs l s zs place time).getD k 0 ≤ 10040000 := by
  rcases hx : zs[k]? with _ | x
  · simp [nextWs, List.getD, hx]
  · rw [nextWs_at hx]
    have hw := wayZ_bd (place := place) (x := x) h0 h1
    have := nextW_bd (R := 10 * l) (T := s * time) (y := wayZ l place x) (by omega) hw.1
    omega

set_option maxHeartbeats 3000000 in
theorem spec_NextPass (l s : Int) (A : Option Addr) (n c : Nat) (zs : List Int) (place time : Int) (wo : World) (h : Rd wo 1 A n (IV zs)) (hm : n ≤ 1048577) :
    Calls Try.prog 32 #[.agg #[.int .i64 l, .int .i64 s, .slice A n c], .int .i64 place, .int .i64 time] wo (Ret wo (.tuple #[.int .i64 (nextB l s zs place time), .int .i64 (nextT l s zs place time), .bool (nextOk l s zs place time)])) := by
  have hl := Lib.hid h.len
  have cg := fun w' (h' : Rd w' 1 A n (IV zs)) => spec_l8Good l s A n c zs w' h' hm
  rcases hg : circOk l s zs with _ | _
  all_goals rw [hg] at cg
  all_goals have CG := Lib.hid cg
  all_goals clear cg
  · rw [show nextB l s zs place time = 0 by simp [nextB, nextOk, hg], show nextT l s zs place time = 0 by simp [nextT, nextOk, hg], show nextOk l s zs place time = false by simp [nextOk, hg]]
    go_enter Try.func32, Try.ntmps32
    (go_wp2_with fail; have hWV : Below wo.heap.size wo (wo.alloc (.cells #[.int .i64 l, .int .i64 s, .slice A n c] 27)) := (Below.refl _ _).alloc (Nat.le_refl _) _; have hV0 : wo.heap.size < (wo.alloc (.cells #[.int .i64 l, .int .i64 s, .slice A n c] 27)).heap.size := (by simp); have hv0 : (wo.alloc (.cells #[.int .i64 l, .int .i64 s, .slice A n c] 27)).cell? ⟨wo.heap.size, 0, none⟩ = some (.int .i64 l) := (by rw [cell_of_row _ _ _ _ _ _ (heap_alloc_new wo _)]; rfl); have hv1 : (wo.alloc (.cells #[.int .i64 l, .int .i64 s, .slice A n c] 27)).cell? ⟨wo.heap.size, 1, none⟩ = some (.int .i64 s) := (by rw [cell_of_row _ _ _ _ _ _ (heap_alloc_new wo _)]; rfl); have hv2 : (wo.alloc (.cells #[.int .i64 l, .int .i64 s, .slice A n c] 27)).cell? ⟨wo.heap.size, 2, none⟩ = some (.slice A n c) := (by rw [cell_of_row _ _ _ _ _ _ (heap_alloc_new wo _)]; rfl); generalize wo.alloc (.cells #[.int .i64 l, .int .i64 s, .slice A n c] 27) = w at hWV hV0 hv0 hv1 hv2 ⊢; have hr := h.below hWV)
    have hB : Below w.heap.size w w := Below.refl _ _
    go_wp2_with (first | (go_at_call 49; refine (CG.out _ hr).mono ?_; rintro e w' ⟨rfl, hb⟩; have hB : Below w.heap.size w w' := Below.thenn (by repeat (first | exact Below.refl _ _ | assumption | apply Below.drew | apply below_drewN | (refine Below.alloc ?_ (by first | omega | (simp; done) | (simp; omega)) _) | (refine Below.setCell ?_ (by first | omega | (simp; done) | (simp; omega)) _))) hb (by first | omega | (simp; done) | (simp; omega)); have hz : w.heap.size ≤ w'.heap.size := hB.size; (try (have hz1 : w.heap.size + 1 ≤ w'.heap.size := (by have h := hb.size; (try simp at h); omega))); obtain ⟨hc, hf⟩ := bcell hb; clear hb))
    go_ret3
    exact ⟨rfl, Below.thenn hWV hB hWV.size⟩
  have hb := circOk_iff.1 hg
  have l0 := hb.1.1
  have l1 := hb.1.2
  have s0 := hb.2.1.1
  have s1 := hb.2.1.2
  have hn : n ≤ 12 := by have := hb.2.2.2; have := hl.out; omega
  have HG := Lib.hid hg
  clear hb
  rcases hp : inr place 0 (l - 1) with _ | _
  · rw [show nextB l s zs place time = 0 by simp [nextB, nextOk, hp], show nextT l s zs place time = 0 by simp [nextT, nextOk, hp], show nextOk l s zs place time = false by simp [nextOk, hp]]
    go_enter Try.func32, Try.ntmps32
    (go_wp2_with fail; have hWV : Below wo.heap.size wo (wo.alloc (.cells #[.int .i64 l, .int .i64 s, .slice A n c] 27)) := (Below.refl _ _).alloc (Nat.le_refl _) _; have hV0 : wo.heap.size < (wo.alloc (.cells #[.int .i64 l, .int .i64 s, .slice A n c] 27)).heap.size := (by simp); have hv0 : (wo.alloc (.cells #[.int .i64 l, .int .i64 s, .slice A n c] 27)).cell? ⟨wo.heap.size, 0, none⟩ = some (.int .i64 l) := (by rw [cell_of_row _ _ _ _ _ _ (heap_alloc_new wo _)]; rfl); have hv1 : (wo.alloc (.cells #[.int .i64 l, .int .i64 s, .slice A n c] 27)).cell? ⟨wo.heap.size, 1, none⟩ = some (.int .i64 s) := (by rw [cell_of_row _ _ _ _ _ _ (heap_alloc_new wo _)]; rfl); have hv2 : (wo.alloc (.cells #[.int .i64 l, .int .i64 s, .slice A n c] 27)).cell? ⟨wo.heap.size, 2, none⟩ = some (.slice A n c) := (by rw [cell_of_row _ _ _ _ _ _ (heap_alloc_new wo _)]; rfl); generalize wo.alloc (.cells #[.int .i64 l, .int .i64 s, .slice A n c] 27) = w at hWV hV0 hv0 hv1 hv2 ⊢; have hr := h.below hWV)
    have hB : Below w.heap.size w w := Below.refl _ _
    go_wp2_with (first | (go_at_call 49; refine (CG.out _ hr).mono ?_; rintro e w' ⟨rfl, hb⟩; have hB : Below w.heap.size w w' := Below.thenn (by repeat (first | exact Below.refl _ _ | assumption | apply Below.drew | apply below_drewN | (refine Below.alloc ?_ (by first | omega | (simp; done) | (simp; omega)) _) | (refine Below.setCell ?_ (by first | omega | (simp; done) | (simp; omega)) _))) hb (by first | omega | (simp; done) | (simp; omega)); have hz : w.heap.size ≤ w'.heap.size := hB.size; (try (have hz1 : w.heap.size + 1 ≤ w'.heap.size := (by have h := hb.size; (try simp at h); omega))); obtain ⟨hc, hf⟩ := bcell hb; clear hb) | (go_at_call 52; refine (spec_l1In _ _ _ _).mono ?_; rintro e w' ⟨rfl, rfl⟩))
    go_ret3
    exact ⟨rfl, Below.thenn hWV hB hWV.size⟩
  rcases ht : inr time 0 100000 with _ | _
  · rw [show nextB l s zs place time = 0 by simp [nextB, nextOk, ht], show nextT l s zs place time = 0 by simp [nextT, nextOk, ht], show nextOk l s zs place time = false by simp [nextOk, ht]]
    go_enter Try.func32, Try.ntmps32
    (go_wp2_with fail; have hWV : Below wo.heap.size wo (wo.alloc (.cells #[.int .i64 l, .int .i64 s, .slice A n c] 27)) := (Below.refl _ _).alloc (Nat.le_refl _) _; have hV0 : wo.heap.size < (wo.alloc (.cells #[.int .i64 l, .int .i64 s, .slice A n c] 27)).heap.size := (by simp); have hv0 : (wo.alloc (.cells #[.int .i64 l, .int .i64 s, .slice A n c] 27)).cell? ⟨wo.heap.size, 0, none⟩ = some (.int .i64 l) := (by rw [cell_of_row _ _ _ _ _ _ (heap_alloc_new wo _)]; rfl); have hv1 : (wo.alloc (.cells #[.int .i64 l, .int .i64 s, .slice A n c] 27)).cell? ⟨wo.heap.size, 1, none⟩ = some (.int .i64 s) := (by rw [cell_of_row _ _ _ _ _ _ (heap_alloc_new wo _)]; rfl); have hv2 : (wo.alloc (.cells #[.int .i64 l, .int .i64 s, .slice A n c] 27)).cell? ⟨wo.heap.size, 2, none⟩ = some (.slice A n c) := (by rw [cell_of_row _ _ _ _ _ _ (heap_alloc_new wo _)]; rfl); generalize wo.alloc (.cells #[.int .i64 l, .int .i64 s, .slice A n c] 27) = w at hWV hV0 hv0 hv1 hv2 ⊢; have hr := h.below hWV)
    have hB : Below w.heap.size w w := Below.refl _ _
    go_wp2_with (first | (go_at_call 49; refine (CG.out _ hr).mono ?_; rintro e w' ⟨rfl, hb⟩; have hB : Below w.heap.size w w' := Below.thenn (by repeat (first | exact Below.refl _ _ | assumption | apply Below.drew | apply below_drewN | (refine Below.alloc ?_ (by first | omega | (simp; done) | (simp; omega)) _) | (refine Below.setCell ?_ (by first | omega | (simp; done) | (simp; omega)) _))) hb (by first | omega | (simp; done) | (simp; omega)); have hz : w.heap.size ≤ w'.heap.size := hB.size; (try (have hz1 : w.heap.size + 1 ≤ w'.heap.size := (by have h := hb.size; (try simp at h); omega))); obtain ⟨hc, hf⟩ := bcell hb; clear hb) | (go_at_call 52; refine (spec_l1In _ _ _ _).mono ?_; rintro e w' ⟨rfl, rfl⟩) | (go_at_call 53; refine (spec_l8Time _ _).mono ?_; rintro e w' ⟨rfl, rfl⟩))
    go_ret3
    exact ⟨rfl, Below.thenn hWV hB hWV.size⟩
  by_cases h0n : n = 0
  · subst h0n
    rw [show nextB l s zs place time = 0 by simp [nextB, nextOk, hl.out], show nextT l s zs place time = 0 by simp [nextT, nextOk, hl.out], show nextOk l s zs place time = false by simp [nextOk, hl.out]]
    go_enter Try.func32, Try.ntmps32
    (go_wp2_with fail; have hWV : Below wo.heap.size wo (wo.alloc (.cells #[.int .i64 l, .int .i64 s, .slice A 0 c] 27)) := (Below.refl _ _).alloc (Nat.le_refl _) _; have hV0 : wo.heap.size < (wo.alloc (.cells #[.int .i64 l, .int .i64 s, .slice A 0 c] 27)).heap.size := (by simp); have hv0 : (wo.alloc (.cells #[.int .i64 l, .int .i64 s, .slice A 0 c] 27)).cell? ⟨wo.heap.size, 0, none⟩ = some (.int .i64 l) := (by rw [cell_of_row _ _ _ _ _ _ (heap_alloc_new wo _)]; rfl); have hv1 : (wo.alloc (.cells #[.int .i64 l, .int .i64 s, .slice A 0 c] 27)).cell? ⟨wo.heap.size, 1, none⟩ = some (.int .i64 s) := (by rw [cell_of_row _ _ _ _ _ _ (heap_alloc_new wo _)]; rfl); have hv2 : (wo.alloc (.cells #[.int .i64 l, .int .i64 s, .slice A 0 c] 27)).cell? ⟨wo.heap.size, 2, none⟩ = some (.slice A 0 c) := (by rw [cell_of_row _ _ _ _ _ _ (heap_alloc_new wo _)]; rfl); generalize wo.alloc (.cells #[.int .i64 l, .int .i64 s, .slice A 0 c] 27) = w at hWV hV0 hv0 hv1 hv2 ⊢; have hr := h.below hWV)
    have hB : Below w.heap.size w w := Below.refl _ _
    go_wp2_with (first | (go_at_call 49; refine (CG.out _ hr).mono ?_; rintro e w' ⟨rfl, hb⟩; have hB : Below w.heap.size w w' := Below.thenn (by repeat (first | exact Below.refl _ _ | assumption | apply Below.drew | apply below_drewN | (refine Below.alloc ?_ (by first | omega | (simp; done) | (simp; omega)) _) | (refine Below.setCell ?_ (by first | omega | (simp; done) | (simp; omega)) _))) hb (by first | omega | (simp; done) | (simp; omega)); have hz : w.heap.size ≤ w'.heap.size := hB.size; (try (have hz1 : w.heap.size + 1 ≤ w'.heap.size := (by have h := hb.size; (try simp at h); omega))); obtain ⟨hc, hf⟩ := bcell hb; clear hb) | (go_at_call 52; refine (spec_l1In _ _ _ _).mono ?_; rintro e w' ⟨rfl, rfl⟩) | (go_at_call 53; refine (spec_l8Time _ _).mono ?_; rintro e w' ⟨rfl, rfl⟩))
    go_ret3
    exact ⟨rfl, Below.thenn hWV hB hWV.size⟩
  have hok : nextOk l s zs place time = true := by simp [nextOk, hg, hp, ht]; intro e; subst e; have := hl.out; simp at this; omega
  rw [show nextB l s zs place time = (nbest (nextWs l s zs place time) n).1 by simp only [nextB, hok, if_true, hl.out], show nextT l s zs place time = ((nbest (nextWs l s zs place time) n).2 + s - 1) / s by simp only [nextT, hok, if_true, hl.out], hok]
  have hp0 := (inr_iff0.1 hp).1
  have hp1 := (inr_iff0.1 hp).2
  have ht0 := (inr_iff0.1 ht).1
  have ht1 := (inr_iff0.1 ht).2
  have hst0 : 0 ≤ s * time := Int.mul_nonneg (by omega) ht0
  have hst1 : s * time ≤ 10000000 := by
    have h1 := Int.mul_le_mul_of_nonneg_right (a := s) (b := 100) (c := time) s1 ht0
    omega
  have wst : IntKind.i64.wrap (s * time) = s * time := IntWalk.i64_in _ (by omega)
  have hws : ∀ k : Nat, 0 ≤ (nextWs l s zs place time).getD k 0 ∧ (nextWs l s zs place time).getD k 0 ≤ 10040000 := fun k => nextWs_bd l0 l1 hst1 k
  have hNB := Lib.hid (nbest_bd hws (by omega))
  clear hws
  have HN : Hid (∀ k, nbest (nextWs l s zs place time) (k + 1) = if (nbest (nextWs l s zs place time) k).1 < 0 ∨ (nextWs l s zs place time).getD k 0 < (nbest (nextWs l s zs place time) k).2 then ((k : Int), (nextWs l s zs place time).getD k 0) else nbest (nextWs l s zs place time) k) := fun k => rfl
  have HN0 : Hid (nbest (nextWs l s zs place time) 0 = (-1, 0)) := rfl
  have h0b : ((n : Int) == 0) = false := by simp; omega
  clear hg hok
  go_enter Try.func32, Try.ntmps32
  (go_wp2_with fail; have hWV : Below wo.heap.size wo (wo.alloc (.cells #[.int .i64 l, .int .i64 s, .slice A n c] 27)) := (Below.refl _ _).alloc (Nat.le_refl _) _; have hV0 : wo.heap.size < (wo.alloc (.cells #[.int .i64 l, .int .i64 s, .slice A n c] 27)).heap.size := (by simp); have hv0 : (wo.alloc (.cells #[.int .i64 l, .int .i64 s, .slice A n c] 27)).cell? ⟨wo.heap.size, 0, none⟩ = some (.int .i64 l) := (by rw [cell_of_row _ _ _ _ _ _ (heap_alloc_new wo _)]; rfl); have hv1 : (wo.alloc (.cells #[.int .i64 l, .int .i64 s, .slice A n c] 27)).cell? ⟨wo.heap.size, 1, none⟩ = some (.int .i64 s) := (by rw [cell_of_row _ _ _ _ _ _ (heap_alloc_new wo _)]; rfl); have hv2 : (wo.alloc (.cells #[.int .i64 l, .int .i64 s, .slice A n c] 27)).cell? ⟨wo.heap.size, 2, none⟩ = some (.slice A n c) := (by rw [cell_of_row _ _ _ _ _ _ (heap_alloc_new wo _)]; rfl); generalize wo.alloc (.cells #[.int .i64 l, .int .i64 s, .slice A n c] 27) = w at hWV hV0 hv0 hv1 hv2 ⊢; have hr := h.below hWV)
  have hB : Below w.heap.size w w := Below.refl _ _
  go_wp2_with (first | (go_at_call 49; refine (CG.out _ hr).mono ?_; rintro e w' ⟨rfl, hb⟩; have hB : Below w.heap.size w w' := Below.thenn (by repeat (first | exact Below.refl _ _ | assumption | apply Below.drew | apply below_drewN | (refine Below.alloc ?_ (by first | omega | (simp; done) | (simp; omega)) _) | (refine Below.setCell ?_ (by first | omega | (simp; done) | (simp; omega)) _))) hb (by first | omega | (simp; done) | (simp; omega)); have hz : w.heap.size ≤ w'.heap.size := hB.size; (try (have hz1 : w.heap.size + 1 ≤ w'.heap.size := (by have h := hb.size; (try simp at h); omega))); obtain ⟨hc, hf⟩ := bcell hb; clear hb) | (go_at_call 52; refine (spec_l1In _ _ _ _).mono ?_; rintro e w' ⟨rfl, rfl⟩) | (go_at_call 53; refine (spec_l8Time _ _).mono ?_; rintro e w' ⟨rfl, rfl⟩))
  go_loopg [9, 10, 11] n (fun g q r i wr => ∃ (k : Nat) (z y : Int), k ≤ n ∧ n ≤ k + g ∧ i = .int .i64 k ∧ q = .int .i64 z ∧ r = .int .i64 y ∧ -1 ≤ z ∧ z ≤ k ∧ 0 ≤ y ∧ y ≤ 10040000 ∧ Below w.heap.size w wr ∧ w.heap.size ≤ wr.heap.size ∧ Hid ((z, y) = nbest (nextWs l s zs place time) k))
  case atStart => exact ⟨0, -1, 0, by omega, by omega, rfl, rfl, rfl, by omega, by omega, by omega, by omega, hB, hz, HN0.out.symm⟩
  case round =>
    clear hB hz hc hf
    obtain ⟨k, z, y, hk1, hk2, rfl, rfl, rfl, hz0, hz1, hy0, hy1, hBr, hzr, ha⟩ := hrel
    (have a0 := (hBr.cell (p := ⟨wo.heap.size, 0, none⟩) hV0).trans hv0; have a1 := (hBr.cell (p := ⟨wo.heap.size, 1, none⟩) hV0).trans hv1; have a2 := (hBr.cell (p := ⟨wo.heap.size, 2, none⟩) hV0).trans hv2)
    have hor : wo.heap.size < wr.heap.size := by omega
    by_cases hlt : k < n
    · obtain ⟨b, off, x, rfl, hx, hcx⟩ := hr.at1 hlt
      have hblt : b < w.heap.size := World.block_lt_of_cell? _ _ hcx
      have c0 : wr.cell? ⟨b, off + k, none⟩ = some (.int .i64 x) := (hBr.cell (p := ⟨b, _, none⟩) hblt).trans hcx
      have hbr : b < wr.heap.size := by omega
      have hxb := circ_at HG.out hx
      have hx0 := hxb.1
      have hx1 := hxb.2
      have hwb := wayZ_bd (place := place) (x := x) l0 l1
      have HW := Lib.hid (nextWs_at (l := l) (s := s) (place := place) (time := time) hx)
      have CW := Lib.hid (fun w' (hbb : Below w.heap.size w w') => spec_l8Way l s (some ⟨b, off, none⟩) n c k zs x place w' (hr.below hbb) hx hm l0 l1 hx0 hx1 hp0 hp1)
      have HNk := Lib.hid (hNB.out k)
      have HN1 := Lib.hid (hNB.out (k + 1))
      have HS := Lib.hid (HN.out k)
      generalize wayZ l place x = W at CW hwb HW
      have hwb0 := hwb.1
      have hwb1 := hwb.2
      clear hx hcx hxb hwb
      go_wp2_with (go_at_call 54; refine (CW.out _ (by repeat (first | exact Below.refl _ _ | assumption | apply Below.drew | apply below_drewN | (refine Below.alloc ?_ (by first | omega | (simp; done) | (simp; omega)) _) | (refine Below.setCell ?_ (by first | omega | (simp; done) | (simp; omega)) _)))).mono ?_; rintro e w' ⟨rfl, hb⟩; have hB : Below w.heap.size w w' := Below.thenn (by repeat (first | exact Below.refl _ _ | assumption | apply Below.drew | apply below_drewN | (refine Below.alloc ?_ (by first | omega | (simp; done) | (simp; omega)) _) | (refine Below.setCell ?_ (by first | omega | (simp; done) | (simp; omega)) _))) hb (by first | omega | (simp; done) | (simp; omega)); have hz : w.heap.size ≤ w'.heap.size := hB.size; (try (have hz1 : w.heap.size + 1 ≤ w'.heap.size := (by have h := hb.size; (try simp at h); omega))); obtain ⟨hc, hf⟩ := bcell hb; clear hb)
      clear hc hf
      go_loopg [12] (s * time - W).toNat (fun g q wr => ∃ (v : Int), q = .int .i64 v ∧ 0 ≤ v ∧ v ≤ 10040000 ∧ s * time - v ≤ g ∧ Below w.heap.size w wr ∧ w.heap.size ≤ wr.heap.size ∧ Hid (nextW (10 * l) (s * time) v = nextW (10 * l) (s * time) W))
      case atStart => exact ⟨W, rfl, by omega, by omega, by omega, hB, hz, rfl⟩
      case round =>
        clear hB hz a0 a1 a2 hBr
        obtain ⟨v, rfl, hvv0, hvv1, hvg, hBr, hzv, hv⟩ := hrel
        (have a0 := (hBr.cell (p := ⟨wo.heap.size, 0, none⟩) hV0).trans hv0; have a1 := (hBr.cell (p := ⟨wo.heap.size, 1, none⟩) hV0).trans hv1; have a2 := (hBr.cell (p := ⟨wo.heap.size, 2, none⟩) hV0).trans hv2)
        have hor2 : wo.heap.size < wr.heap.size := by omega
        by_cases hvt : v < s * time
        · have HST := Lib.hid (nextW_step (R := 10 * l) (T := s * time) (y := v) (by omega) hvt rfl)
          have hq0 : 0 ≤ (s * time - v) / (10 * l) := Int.ediv_nonneg (by omega) (by omega)
          have hq1 : 10 * l * ((s * time - v) / (10 * l)) ≤ s * time - v := Int.mul_ediv_self_le (by omega)
          have hQ : (s * time - v).tdiv (10 * l) = (s * time - v) / (10 * l) := Int.tdiv_eq_ediv_of_nonneg (by omega)
          generalize (s * time - v) / (10 * l) = Q at hq0 hq1 hQ HST
          have hM : 0 ≤ 10 * l * max 1 Q ∧ 10 * l * max 1 Q ≤ 10000000 + 40000 - v ∧ 10 ≤ 10 * l * max 1 Q := by
            rcases Int.lt_or_le Q 1 with h1 | h1
            · rw [show max 1 Q = 1 by omega]; omega
            · rw [show max 1 Q = Q by omega]
              have := Int.mul_le_mul_of_nonneg_left (a := 1) (b := Q) (c := 10 * l) h1 (by omega)
              omega
          have hm0 := hM.1
          have hm1 := hM.2.1
          have hm2 := hM.2.2
          have w3 : IntKind.i64.wrap (10 * l) = 10 * l := IntWalk.i64_in _ (by omega)
          have w4 : IntKind.i64.wrap (s * time - v) = s * time - v := IntWalk.i64_in _ (by omega)
          have w5 : IntKind.i64.wrap Q = Q := IntWalk.i64_in _ (by have : Q ≤ 10 * l * max 1 Q := (by rcases Int.lt_or_le Q 1 with h1 | h1 <;> (try rw [show max 1 Q = Q by omega]) <;> (try omega) <;> (have := Int.mul_le_mul_of_nonneg_right (a := 1) (b := 10 * l) (c := Q) (by omega) hq0; omega)); omega)
          have w6 : IntKind.i64.wrap (10 * l * max 1 Q) = 10 * l * max 1 Q := IntWalk.i64_in _ (by omega)
          have w7 : IntKind.i64.wrap (v + 10 * l * max 1 Q) = v + 10 * l * max 1 Q := IntWalk.i64_in _ (by omega)
          have hl1 : ¬ (10 * l = 0) := by omega
          have hl0 : ¬ (l = 0) := by omega
          clear hM hq1
          have CM := Lib.hid (fun w => spec_l1Most 1 Q w)
          have HVV : Hid (v + 10 * l * max 1 Q ≤ 10040000 ∧ s * time - (v + 10 * l * max 1 Q) < s * time - v) := ⟨by omega, by omega⟩
          generalize max 1 Q = M at CM HST w6 w7 HVV hm0 hm1 hm2
          go_wp2_with fail
          (refine wp_region_ext (by kernel_rfl) (by kernel_rfl) ?_; have hxe := ext_cells; (repeat (go_big_quiet_step ((go_at_call 59; exact ext_pure (CM.out _))))); refine wpQuiet_nil ?_; intro w' hw'; obtain ⟨nx, hw''⟩ := hw'; have hbx := ext_out hw''; clear hw'' nx hxe; have hB : Below w.heap.size w w' := Below.thenn (by repeat (first | exact Below.refl _ _ | assumption | apply Below.drew | apply below_drewN | (refine Below.alloc ?_ (by first | omega | (simp; done) | (simp; omega)) _) | (refine Below.setCell ?_ (by first | omega | (simp; done) | (simp; omega)) _))) hbx (by first | omega | (simp; done) | (simp; omega)); have hz : w.heap.size ≤ w'.heap.size := hB.size; obtain ⟨hc, hf⟩ := bcell hbx; clear hbx)
          go_wp2_with fail
          have h1 := HVV.out
          go_roundg ((s * time - (v + 10 * l * M)).toNat)
          case measure => omega
          case rel => exact ⟨_, rfl, by omega, by omega, by omega, (by repeat (first | exact Below.refl _ _ | assumption | apply Below.drew | apply below_drewN | (refine Below.alloc ?_ (by first | omega | (simp; done) | (simp; omega)) _) | (refine Below.setCell ?_ (by first | omega | (simp; done) | (simp; omega)) _))), by first | omega | (simp at *; omega), HST.out.trans hv.out⟩
        · have HV : Hid (v = (nextWs l s zs place time).getD k 0) := by
            show _ = _
            rw [HW.out, ← hv.out]
            unfold nextW
            rw [if_neg hvt]
          have hBo : Below w.heap.size w wr := hBr
          by_cases hb1 : z < 0
          · have HP : Hid (((k : Int), v) = nbest (nextWs l s zs place time) (k + 1)) := (show _ = _ by rw [HS.out, ← ha.out, if_pos (.inl hb1), ← HV.out])
            go_wp2_with fail
            all_goals go_roundg (n - (k + 1))
            all_goals first | omega | exact ⟨k + 1, k, v, by omega, by omega, by go_num, rfl, rfl, by omega, by omega, by omega, by omega, hBo, hzv, HP⟩
          · by_cases hb2 : v < y
            · have HP : Hid (((k : Int), v) = nbest (nextWs l s zs place time) (k + 1)) := (show _ = _ by rw [HS.out, ← ha.out, ← HV.out, if_pos (.inr hb2)])
              go_wp2_with fail
              all_goals go_roundg (n - (k + 1))
              all_goals first | omega | exact ⟨k + 1, k, v, by omega, by omega, by go_num, rfl, rfl, by omega, by omega, by omega, by omega, hBo, hzv, HP⟩
            · have HP : Hid ((z, y) = nbest (nextWs l s zs place time) (k + 1)) := (show _ = _ by rw [HS.out, ← ha.out, ← HV.out, if_neg (by simp; omega)])
              go_wp2_with fail
              all_goals go_roundg (n - (k + 1))
              all_goals first | omega | exact ⟨k + 1, z, y, by omega, by omega, by go_num, rfl, rfl, by omega, by omega, by omega, by omega, hBo, hzv, HP⟩
    · have hk : k = n := by omega
      subst hk
      have hys : 0 ≤ (y + s - 1) / s := Int.ediv_nonneg (by omega) (by omega)
      have hys2 : (y + s - 1) / s ≤ y + s - 1 := Int.ediv_le_self _ (by omega)
      have hQ : (y + s - 1).tdiv s = (y + s - 1) / s := Int.tdiv_eq_ediv_of_nonneg (by omega)
      have w3 : IntKind.i64.wrap (y + s) = y + s := IntWalk.i64_in _ (by omega)
      have w4 : IntKind.i64.wrap (y + s - 1) = y + s - 1 := IntWalk.i64_in _ (by omega)
      have w5 : IntKind.i64.wrap ((y + s - 1) / s) = (y + s - 1) / s := IntWalk.i64_in _ (by omega)
      have hl0 : ¬ (s = 0) := by omega
      clear hys hys2
      go_wp2_with fail
      (refine wp_region_ext (by kernel_rfl) (by kernel_rfl) ?_; have hxe := ext_cells; (repeat (go_big_quiet_step (fail))); refine wpQuiet_nil ?_; intro w' hw'; obtain ⟨nx, hw''⟩ := hw'; have hbx := ext_out hw''; clear hw'' nx hxe; have hB : Below w.heap.size w w' := Below.thenn (by repeat (first | exact Below.refl _ _ | assumption | apply Below.drew | apply below_drewN | (refine Below.alloc ?_ (by first | omega | (simp; done) | (simp; omega)) _) | (refine Below.setCell ?_ (by first | omega | (simp; done) | (simp; omega)) _))) hbx (by first | omega | (simp; done) | (simp; omega)); have hz : w.heap.size ≤ w'.heap.size := hB.size; obtain ⟨hc, hf⟩ := bcell hbx; clear hbx)
      go_wp2_with fail
      go_ret3
      rw [← ha.out]
      exact ⟨rfl, Below.thenn hWV hB hWV.size⟩
end Go.Proofs.Ytidjgbonlejhhaa
