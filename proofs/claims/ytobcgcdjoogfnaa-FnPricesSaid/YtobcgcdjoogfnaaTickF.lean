/- The tickets: those still up. -/
import Derived.Test.YtobcgcdjoogfnaaTickE
namespace Go.Proofs.Ytobcgcdjoogfnaa
open Go.RowKit
set_option linter.unusedVariables false
set_option linter.unusedSimpArgs false

theorem spec_AreTickets (A : Option Addr) (n c : Nat) (rows : List (List Int)) (w : World) (h : RdR w 5 A n rows) (hm : n ≤ 1048577) :
    Calls Try.prog 29 #[.slice A n c] w (Ret w (.bool (good rows))) := by
  have CI := Lib.hid (fun w' (h' : RdR w' 5 A n rows) => spec_l11Good A n c rows w' h' hm)
  generalize good rows = z at CI ⊢
  go_enter Try.func29, Try.ntmps29
  go_wp2_with (go_at_call 69; refine (CI.out _ h).mono ?_; rintro e w' ⟨rfl, hb⟩; have hB : Below w.heap.size w w' := Below.thenn (by repeat (first | exact Below.refl _ _ | assumption | apply Below.drew | apply below_drewN | (refine Below.alloc ?_ (by first | omega | (simp; done) | (simp; omega)) _) | (refine Below.setCell ?_ (by first | omega | (simp; done) | (simp; omega)) _))) hb (by first | omega | (simp; done) | (simp; omega)); have hz : w.heap.size ≤ w'.heap.size := hB.size; (try (have hz1 : w.heap.size + 1 ≤ w'.heap.size := (by have h := hb.size; (try simp at h); omega))); obtain ⟨hc, hf⟩ := bcell hb; clear hb)
  go_ret
  exact ⟨rfl, (by repeat (first | exact Below.refl _ _ | assumption | apply Below.drew | apply below_drewN | (refine Below.alloc ?_ (by first | omega | (simp; done) | (simp; omega)) _) | (refine Below.setCell ?_ (by first | omega | (simp; done) | (simp; omega)) _)))⟩

/-- A sum over rows. -/
def sumR (f : List Int → Int) (rows : List (List Int)) : Int := (rows.map f).sum
theorem sumR_next {f : List Int → Int} {rows : List (List Int)} {k : Nat} {r : List Int} (h : rows[k]? = some r) : sumR f (rows.take (k + 1)) = sumR f (rows.take k) + f r := by
  unfold sumR; rw [take_next h]; simp
theorem sumR_zero (f : List Int → Int) (rows : List (List Int)) : sumR f (rows.take 0) = 0 := by simp [sumR]
theorem sumR_end {f : List Int → Int} {rows : List (List Int)} {n k : Nat} (h : rows.length = n) (hk : n ≤ k) : sumR f (rows.take k) = sumR f rows := by rw [List.take_of_length_le (by omega)]

def stillF (r : List Int) : Int := max (fld r 3 - fld r 4) 0
def stillV (rows : List (List Int)) : Int := if good rows then sumR stillF rows else 0
theorem goodR {rows : List (List Int)} (h : good rows = true) {k : Nat} {x0 x1 x2 x3 x4 : Int} (hr : rows[k]? = some [x0, x1, x2, x3, x4]) :
    (1 ≤ x0 ∧ x0 ≤ 9999 ∧ 0 ≤ x1 ∧ x1 ≤ 3 ∧ 0 ≤ x2 ∧ x2 ≤ 999 ∧ 0 ≤ x3 ∧ x3 ≤ 50 ∧ 0 ≤ x4 ∧ x4 ≤ 50) ∧ 0 ≤ kU x1 x3 x4 ∧ 0 ≤ kD x1 x3 x4 := tickOk_iff.1 (show tickOk x0 x1 x2 x3 x4 = true from goodL_at h hr)
theorem goodN {rows : List (List Int)} (h : good rows = true) : rows.length ≤ 12 := (goodL_iff.1 h).2

set_option maxHeartbeats 1000000 in
theorem spec_StillUp (A : Option Addr) (n c : Nat) (rows : List (List Int)) (w : World) (h : RdR w 5 A n rows) (hm : n ≤ 1048577) :
    Calls Try.prog 33 #[.slice A n c] w (Ret w (.tuple #[.int .i64 (stillV rows), .bool (good rows)])) := by
  have hl := Lib.hid h.2.2
  have cg := fun w' (h' : RdR w' 5 A n rows) => spec_l11Good A n c rows w' h' hm
  rcases hg : good rows with _ | _
  · rw [hg] at cg
    have CG := Lib.hid cg
    rw [show stillV rows = 0 by simp [stillV, hg]]
    clear cg hg
    go_enter Try.func33, Try.ntmps33
    go_wp2_with (go_at_call 69; refine (CG.out _ h).mono ?_; rintro e w' ⟨rfl, hb⟩; have hB : Below w.heap.size w w' := Below.thenn (by repeat (first | exact Below.refl _ _ | assumption | apply Below.drew | apply below_drewN | (refine Below.alloc ?_ (by first | omega | (simp; done) | (simp; omega)) _) | (refine Below.setCell ?_ (by first | omega | (simp; done) | (simp; omega)) _))) hb (by first | omega | (simp; done) | (simp; omega)); have hz : w.heap.size ≤ w'.heap.size := hB.size; (try (have hz1 : w.heap.size + 1 ≤ w'.heap.size := (by have h := hb.size; (try simp at h); omega))); obtain ⟨hc, hf⟩ := bcell hb; clear hb)
    go_ret2
    exact ⟨rfl, (by repeat (first | exact Below.refl _ _ | assumption | apply Below.drew | apply below_drewN | (refine Below.alloc ?_ (by first | omega | (simp; done) | (simp; omega)) _) | (refine Below.setCell ?_ (by first | omega | (simp; done) | (simp; omega)) _)))⟩
  · rw [hg] at cg
    have CG := Lib.hid cg
    rw [show stillV rows = sumR stillF rows by simp [stillV, hg]]
    have hn : n ≤ 12 := by have := goodN hg; have := hl.out; omega
    have HG := Lib.hid hg
    clear cg hg
    go_enter Try.func33, Try.ntmps33
    go_wp2_with (go_at_call 69; refine (CG.out _ h).mono ?_; rintro e w' ⟨rfl, hb⟩; have hB : Below w.heap.size w w' := Below.thenn (by repeat (first | exact Below.refl _ _ | assumption | apply Below.drew | apply below_drewN | (refine Below.alloc ?_ (by first | omega | (simp; done) | (simp; omega)) _) | (refine Below.setCell ?_ (by first | omega | (simp; done) | (simp; omega)) _))) hb (by first | omega | (simp; done) | (simp; omega)); have hz : w.heap.size ≤ w'.heap.size := hB.size; (try (have hz1 : w.heap.size + 1 ≤ w'.heap.size := (by have h := hb.size; (try simp at h); omega))); obtain ⟨hc, hf⟩ := bcell hb; clear hb)
    go_loopg [4, 5] n (fun g s i wr => ∃ (k : Nat) (z : Int), k ≤ n ∧ n ≤ k + g ∧ i = .int .i64 k ∧ s = .int .i64 z ∧ 0 ≤ z ∧ z ≤ k * 50 ∧ Below w.heap.size w wr ∧ w.heap.size ≤ wr.heap.size ∧ Hid (z = sumR stillF (rows.take k)))
    case atStart => exact ⟨0, 0, by omega, by omega, rfl, rfl, by omega, by omega, hB, hz, (show (0 : Int) = sumR _ _ by rw [sumR_zero])⟩
    case round =>
      clear hB hz hc hf
      obtain ⟨k, z, hk1, hk2, rfl, rfl, hz0, hz1, hBr, hzr, ha⟩ := hrel
      by_cases hlt : k < n
      · obtain ⟨b, off, x0, x1, x2, x3, x4, rfl, hr, hblt, c0, c1, c2, c3, c4⟩ := h.row5 hlt
        rw [← hBr.cell (p := ⟨b, _, none⟩) hblt] at c0 c1 c2 c3 c4
        have hbr : b < wr.heap.size := by omega
        have hd := (goodR HG.out hr).1
        have q0 : 0 ≤ x3 := by omega
        have q1 : x3 ≤ 50 := by omega
        have q2 : 0 ≤ x4 := by omega
        have q3 : x4 ≤ 50 := by omega
        have w1 : IntKind.i64.wrap (x3 - x4) = x3 - x4 := IntWalk.i64_in _ (by omega)
        have HR := Lib.hid hr
        clear hr hd
        go_wp2_with fail
        (refine wp_region_ext (by kernel_rfl) (by kernel_rfl) ?_; have hxe := ext_cells; (repeat (go_big_quiet_step ((go_at_call 67; exact ext_pure (spec_l1Most _ _ _))))); refine wpQuiet_nil ?_; intro w' hw'; obtain ⟨nx, hw''⟩ := hw'; have hbx := ext_out hw''; clear hw'' nx hxe; have hB : Below w.heap.size w w' := Below.thenn (by repeat (first | exact Below.refl _ _ | assumption | apply Below.drew | apply below_drewN | (refine Below.alloc ?_ (by first | omega | (simp; done) | (simp; omega)) _) | (refine Below.setCell ?_ (by first | omega | (simp; done) | (simp; omega)) _))) hbx (by first | omega | (simp; done) | (simp; omega)); have hz : w.heap.size ≤ w'.heap.size := hB.size; obtain ⟨hc, hf⟩ := bcell hbx; clear hbx)
        go_wp2_with fail
        all_goals go_roundg (n - (k + 1))
        all_goals first | omega | exact ⟨k + 1, _, by omega, by omega, by go_num, rfl, by omega, by omega, (by repeat (first | exact Below.refl _ _ | assumption | apply Below.drew | apply below_drewN | (refine Below.alloc ?_ (by first | omega | (simp; done) | (simp; omega)) _) | (refine Below.setCell ?_ (by first | omega | (simp; done) | (simp; omega)) _))), by first | omega | (simp at *; omega), (show _ = sumR stillF _ by rw [sumR_next HR.out, ← ha.out]; simp [stillF, fld]; try omega)⟩
      · go_wp2_with fail
        go_ret2
        exact ⟨ret_ib (by rw [ha.out]; exact sumR_end hl.out (by omega)) rfl, hBr⟩

set_option maxHeartbeats 1000000 in
theorem impl_StillUp (A : Option Addr) (n c : Nat) (rows : List (List Int)) (w : World) (h : RdR w 5 A n rows) (hm : n ≤ 1048577) :
    Calls Try.prog 34 #[.slice A n c] w (Ret w (.tuple #[.int .i64 (stillV rows), .bool (good rows)])) := by
  have hl := Lib.hid h.2.2
  have cg := fun w' (h' : RdR w' 5 A n rows) => impl_AreTickets A n c rows w' h' hm
  rcases hg : good rows with _ | _
  · rw [hg] at cg
    have CG := Lib.hid cg
    rw [show stillV rows = 0 by simp [stillV, hg]]
    clear cg hg
    go_enter Try.func34, Try.ntmps34
    go_wp2_with (go_at_call 31; refine (CG.out _ h).mono ?_; rintro e w' ⟨rfl, hb⟩; have hB : Below w.heap.size w w' := Below.thenn (by repeat (first | exact Below.refl _ _ | assumption | apply Below.drew | apply below_drewN | (refine Below.alloc ?_ (by first | omega | (simp; done) | (simp; omega)) _) | (refine Below.setCell ?_ (by first | omega | (simp; done) | (simp; omega)) _))) hb (by first | omega | (simp; done) | (simp; omega)); have hz : w.heap.size ≤ w'.heap.size := hB.size; (try (have hz1 : w.heap.size + 1 ≤ w'.heap.size := (by have h := hb.size; (try simp at h); omega))); obtain ⟨hc, hf⟩ := bcell hb; clear hb)
    go_ret2
    exact ⟨rfl, (by repeat (first | exact Below.refl _ _ | assumption | apply Below.drew | apply below_drewN | (refine Below.alloc ?_ (by first | omega | (simp; done) | (simp; omega)) _) | (refine Below.setCell ?_ (by first | omega | (simp; done) | (simp; omega)) _)))⟩
  · rw [hg] at cg
    have CG := Lib.hid cg
    rw [show stillV rows = sumR stillF rows by simp [stillV, hg]]
    have hn : n ≤ 12 := by have := goodN hg; have := hl.out; omega
    have HG := Lib.hid hg
    clear cg hg
    go_enter Try.func34, Try.ntmps34
    go_wp2_with (go_at_call 31; refine (CG.out _ h).mono ?_; rintro e w' ⟨rfl, hb⟩; have hB : Below w.heap.size w w' := Below.thenn (by repeat (first | exact Below.refl _ _ | assumption | apply Below.drew | apply below_drewN | (refine Below.alloc ?_ (by first | omega | (simp; done) | (simp; omega)) _) | (refine Below.setCell ?_ (by first | omega | (simp; done) | (simp; omega)) _))) hb (by first | omega | (simp; done) | (simp; omega)); have hz : w.heap.size ≤ w'.heap.size := hB.size; (try (have hz1 : w.heap.size + 1 ≤ w'.heap.size := (by have h := hb.size; (try simp at h); omega))); obtain ⟨hc, hf⟩ := bcell hb; clear hb)
    go_loopg [4, 12] n (fun g s i wr => ∃ (k : Nat) (z : Int), k ≤ n ∧ n ≤ k + g ∧ i = .int .i64 k ∧ s = .int .i64 z ∧ 0 ≤ z ∧ z ≤ k * 50 ∧ Below w.heap.size w wr ∧ w.heap.size ≤ wr.heap.size ∧ Hid (z = sumR stillF (rows.take k)))
    case atStart => exact ⟨0, 0, by omega, by omega, rfl, rfl, by omega, by omega, hB, hz, (show (0 : Int) = sumR _ _ by rw [sumR_zero])⟩
    case round =>
      clear hB hz hc hf
      obtain ⟨k, z, hk1, hk2, rfl, rfl, hz0, hz1, hBr, hzr, ha⟩ := hrel
      by_cases hlt : k < n
      · obtain ⟨b, off, x0, x1, x2, x3, x4, rfl, hr, hblt, c0, c1, c2, c3, c4⟩ := h.row5 hlt
        rw [← hBr.cell (p := ⟨b, _, none⟩) hblt] at c0 c1 c2 c3 c4
        have hbr : b < wr.heap.size := by omega
        have hd := (goodR HG.out hr).1
        have q0 : 0 ≤ x3 := by omega
        have q1 : x3 ≤ 50 := by omega
        have q2 : 0 ≤ x4 := by omega
        have q3 : x4 ≤ 50 := by omega
        have w1 : IntKind.i64.wrap (x3 - x4) = x3 - x4 := IntWalk.i64_in _ (by omega)
        have HR := Lib.hid hr
        clear hr hd
        go_wp2_with fail
        all_goals go_roundg (n - (k + 1))
        all_goals first | omega | exact ⟨k + 1, _, by omega, by omega, by go_num, rfl, by omega, by omega, (by repeat (first | exact Below.refl _ _ | assumption | apply Below.drew | apply below_drewN | (refine Below.alloc ?_ (by first | omega | (simp; done) | (simp; omega)) _) | (refine Below.setCell ?_ (by first | omega | (simp; done) | (simp; omega)) _))), by first | omega | (simp at *; omega), (show _ = sumR stillF _ by rw [sumR_next HR.out, ← ha.out]; simp [stillF, fld]; try omega)⟩
      · go_wp2_with fail
        go_ret2
        exact ⟨ret_ib (by rw [ha.out]; exact sumR_end hl.out (by omega)) rfl, hBr⟩
end Go.Proofs.Ytobcgcdjoogfnaa
