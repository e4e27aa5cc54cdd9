/- The tickets: the expired ones. -/
import Derived.Test.YtobcgcdjoogfnaaTickF
namespace Go.Proofs.Ytobcgcdjoogfnaa
open Go.RowKit
set_option linter.unusedVariables false
set_option linter.unusedSimpArgs false

def expB (day : Int) (r : List Int) : Bool := decide (lastD (fld r 1) (fld r 2) < day)
def expL (rows : List (List Int)) (day : Int) : List Int := (rows.filter (expB day)).map (fld · 0)
def expOk (rows : List (List Int)) (day : Int) : Bool := good rows && inr day 0 999
def expV (rows : List (List Int)) (day : Int) : List Int := if expOk rows day then expL rows day else []
theorem expL_yes {rows : List (List Int)} {day : Int} {k : Nat} {r : List Int} (h : rows[k]? = some r) (hb : expB day r = true) : expL (rows.take (k + 1)) day = expL (rows.take k) day ++ [fld r 0] := by
  unfold expL; rw [take_next h]; simp [List.filter_append, hb]
theorem expL_no {rows : List (List Int)} {day : Int} {k : Nat} {r : List Int} (h : rows[k]? = some r) (hb : expB day r = false) : expL (rows.take (k + 1)) day = expL (rows.take k) day := by
  unfold expL; rw [take_next h]; simp [List.filter_append, hb]
theorem expL_end {rows : List (List Int)} {day : Int} {n k : Nat} (h : rows.length = n) (hk : n ≤ k) : expL (rows.take k) day = expL rows day := by rw [List.take_of_length_le (by omega)]
theorem expL_zero (rows : List (List Int)) (day : Int) : expL (rows.take 0) day = [] := by simp [expL]
theorem expV_len (rows : List (List Int)) (day : Int) : (expV rows day).length ≤ 1048576 := by
  unfold expV
  split
  · rename_i h
    have h1 : good rows = true := by simp only [expOk, Bool.and_eq_true] at h; exact h.1
    have h2 := goodN h1
    have h3 := List.length_filter_le (expB day) rows
    simp [expL]; omega
  · simp

set_option maxHeartbeats 2000000 in
theorem spec_ExpiredOn (A : Option Addr) (n c : Nat) (rows : List (List Int)) (day : Int) (w : World) (h : RdR w 5 A n rows) (hm : n ≤ 1048577) :
    Calls Try.prog 41 #[.slice A n c, .int .i64 day] w (RetSB w (expV rows day) (expOk rows day)) := by
  have hl := Lib.hid h.2.2
  have cg := fun w' (h' : RdR w' 5 A n rows) => spec_l11Good A n c rows w' h' hm
  rcases hg : good rows with _ | _
  · rw [hg] at cg
    have CG := Lib.hid cg
    rw [show expV rows day = [] by simp [expV, expOk, hg], show expOk rows day = false by simp [expOk, hg]]
    clear cg hg
    go_enter Try.func41, Try.ntmps41
    go_wp2_with (go_at_call 69; refine (CG.out _ (h.below ((Below.refl _ _).alloc (Nat.le_refl _) _))).mono ?_; rintro e w' ⟨rfl, hb⟩; have hB : Below w.heap.size w w' := Below.thenn (by repeat (first | exact Below.refl _ _ | assumption | apply Below.drew | apply below_drewN | (refine Below.alloc ?_ (by first | omega | (simp; done) | (simp; omega)) _) | (refine Below.setCell ?_ (by first | omega | (simp; done) | (simp; omega)) _))) hb (by first | omega | (simp; done) | (simp; omega)); have hz : w.heap.size ≤ w'.heap.size := hB.size; (try (have hz1 : w.heap.size + 1 ≤ w'.heap.size := (by have h := hb.size; (try simp at h); omega))); obtain ⟨hc, hf⟩ := bcell hb; have HO0 := Lib.hid ((Ow.lit0 w w.heap.size (Nat.le_refl _)).below hb); clear hb)
    go_ret2
    exact ⟨some ⟨w.heap.size, 0, none⟩, 0, rfl, HO0.out, hB⟩
  rw [hg] at cg
  have CG := Lib.hid cg
  clear cg
  rcases hd : inr day 0 999 with _ | _
  · rw [show expV rows day = [] by simp [expV, expOk, hd], show expOk rows day = false by simp [expOk, hd]]
    clear hg
    go_enter Try.func41, Try.ntmps41
    go_wp2_with (first | (go_at_call 69; refine (CG.out _ (h.below ((Below.refl _ _).alloc (Nat.le_refl _) _))).mono ?_; rintro e w' ⟨rfl, hb⟩; have hB : Below w.heap.size w w' := Below.thenn (by repeat (first | exact Below.refl _ _ | assumption | apply Below.drew | apply below_drewN | (refine Below.alloc ?_ (by first | omega | (simp; done) | (simp; omega)) _) | (refine Below.setCell ?_ (by first | omega | (simp; done) | (simp; omega)) _))) hb (by first | omega | (simp; done) | (simp; omega)); have hz : w.heap.size ≤ w'.heap.size := hB.size; (try (have hz1 : w.heap.size + 1 ≤ w'.heap.size := (by have h := hb.size; (try simp at h); omega))); obtain ⟨hc, hf⟩ := bcell hb; have HO0 := Lib.hid ((Ow.lit0 w w.heap.size (Nat.le_refl _)).below hb); clear hb) | (go_at_call 60; refine (spec_l11Day _ _).mono ?_; rintro e w' ⟨rfl, rfl⟩))
    go_ret2
    exact ⟨some ⟨w.heap.size, 0, none⟩, 0, rfl, HO0.out, hB⟩
  rw [show expV rows day = expL rows day by simp [expV, expOk, hd, hg], show expOk rows day = true by simp [expOk, hd, hg]]
  have hn : n ≤ 12 := by have := goodN hg; have := hl.out; omega
  have HG := Lib.hid hg
  clear hg
  go_enter Try.func41, Try.ntmps41
  go_wp2_with (first | (go_at_call 69; refine (CG.out _ (h.below ((Below.refl _ _).alloc (Nat.le_refl _) _))).mono ?_; rintro e w' ⟨rfl, hb⟩; have hB : Below w.heap.size w w' := Below.thenn (by repeat (first | exact Below.refl _ _ | assumption | apply Below.drew | apply below_drewN | (refine Below.alloc ?_ (by first | omega | (simp; done) | (simp; omega)) _) | (refine Below.setCell ?_ (by first | omega | (simp; done) | (simp; omega)) _))) hb (by first | omega | (simp; done) | (simp; omega)); have hz : w.heap.size ≤ w'.heap.size := hB.size; (try (have hz1 : w.heap.size + 1 ≤ w'.heap.size := (by have h := hb.size; (try simp at h); omega))); obtain ⟨hc, hf⟩ := bcell hb; have HO0 := Lib.hid ((Ow.lit0 w w.heap.size (Nat.le_refl _)).below hb); clear hb) | (go_at_call 60; refine (spec_l11Day _ _).mono ?_; rintro e w' ⟨rfl, rfl⟩))
  go_loopg [6, 7] n (fun g s i wr => ∃ (k : Nat) (A : Option Addr) (c : Nat) (zs : List Int), k ≤ n ∧ n ≤ k + g ∧ i = .int .i64 k ∧ s = .slice A zs.length c ∧ zs.length ≤ k ∧ Below w.heap.size w wr ∧ w.heap.size ≤ wr.heap.size ∧ Hid (Ow wr w.heap.size (.slice A zs.length c) zs ∧ zs = expL (rows.take k) day))
  case atStart => exact ⟨0, _, _, [], by omega, by omega, rfl, rfl, by simp, (by repeat (first | exact Below.refl _ _ | assumption | apply Below.drew | apply below_drewN | (refine Below.alloc ?_ (by first | omega | (simp; done) | (simp; omega)) _) | (refine Below.setCell ?_ (by first | omega | (simp; done) | (simp; omega)) _))), by first | omega | (simp at *; omega), ⟨HO0.out, (expL_zero _ _).symm⟩⟩
  case round =>
    (try clear HO0)
    obtain ⟨k, A, c, zs, hk1, hk2, rfl, rfl, hzl, hBr, hzr, ha⟩ := hrel
    by_cases hlt : k < n
    · obtain ⟨b, off, x0, x1, x2, x3, x4, rfl, hr, hblt, c0, c1, c2, c3, c4⟩ := h.row5 hlt
      rw [← hBr.cell (p := ⟨b, _, none⟩) hblt] at c0 c1 c2 c3 c4
      have hbr : b < wr.heap.size := by omega
      have hd := (goodR HG.out hr).1
      have HR := Lib.hid hr
      have hlb := lastD_bd x1 x2
      clear hr
      by_cases hq : lastD x1 x2 < day
      · have HQ : Hid (expB day [x0, x1, x2, x3, x4] = true) := (show expB _ _ = _ by simp [expB, fld, hq])
        have CL := Lib.hid (fun w => spec_l11Last x0 x1 x2 x3 x4 w (by omega))
        generalize lastD x1 x2 = L at CL hq hlb
        clear hd hlb
        go_wp2_with (first | (go_at_call 72; refine (CL.out _).mono ?_; rintro e w' ⟨rfl, hb⟩; have hB : Below w.heap.size w w' := Below.thenn (by repeat (first | exact Below.refl _ _ | assumption | apply Below.drew | apply below_drewN | (refine Below.alloc ?_ (by first | omega | (simp; done) | (simp; omega)) _) | (refine Below.setCell ?_ (by first | omega | (simp; done) | (simp; omega)) _))) hb (by first | omega | (simp; done) | (simp; omega)); have hz : w.heap.size ≤ w'.heap.size := hB.size; (try (have hz1 : w.heap.size + 1 ≤ w'.heap.size := (by have h := hb.size; (try simp at h); omega))); obtain ⟨hc, hf⟩ := bcell hb; have HO1 := Lib.hid (ha.out.1.below hb); clear hb) | (at_builtin; refine wp_app_int rfl (.tmp 31) (.tmp 37) rfl _ w.heap.size (.slice A zs.length c) zs x0 rfl HO1.out rfl (by omega) (by first | omega | (simp; done) | (simp; omega)) ?_; intro A1 c1 w1 hown1 hb1))
        go_roundg (n - (k + 1))
        case measure => omega
        case rel => exact ⟨k + 1, A1, c1, zs ++ [x0], by omega, by omega, by go_num, by simp, by simp; omega, (hB.trans hb1), by have := hb1.size; first | omega | (simp at *; omega), ⟨hown1, by rw [expL_yes HR.out HQ.out, ← ha.out.2]; rfl⟩⟩
      · have HQ : Hid (expB day [x0, x1, x2, x3, x4] = false) := (show expB _ _ = _ by simp [expB, fld, hq])
        have CL := Lib.hid (fun w => spec_l11Last x0 x1 x2 x3 x4 w (by omega))
        generalize lastD x1 x2 = L at CL hq hlb
        clear hd hlb
        go_wp2_with (go_at_call 72; refine (CL.out _).mono ?_; rintro e w' ⟨rfl, hb⟩; have hB : Below w.heap.size w w' := Below.thenn (by repeat (first | exact Below.refl _ _ | assumption | apply Below.drew | apply below_drewN | (refine Below.alloc ?_ (by first | omega | (simp; done) | (simp; omega)) _) | (refine Below.setCell ?_ (by first | omega | (simp; done) | (simp; omega)) _))) hb (by first | omega | (simp; done) | (simp; omega)); have hz : w.heap.size ≤ w'.heap.size := hB.size; (try (have hz1 : w.heap.size + 1 ≤ w'.heap.size := (by have h := hb.size; (try simp at h); omega))); obtain ⟨hc, hf⟩ := bcell hb; have HO1 := Lib.hid (ha.out.1.below hb); clear hb)
        go_roundg (n - (k + 1))
        case measure => omega
        case rel => exact ⟨k + 1, A, c, zs, by omega, by omega, by go_num, rfl, by omega, hB, by first | omega | (simp at *; omega), ⟨HO1.out, by rw [expL_no HR.out HQ.out, ← ha.out.2]⟩⟩
    · go_wp2_with fail
      go_ret2
      exact ⟨_, _, ret_ssb (by rw [ha.out.2, expL_end hl.out (by omega)]), by rw [← expL_end (day := day) hl.out (by omega : n ≤ k), ← ha.out.2]; exact ha.out.1, hBr⟩
end Go.Proofs.Ytobcgcdjoogfnaa
