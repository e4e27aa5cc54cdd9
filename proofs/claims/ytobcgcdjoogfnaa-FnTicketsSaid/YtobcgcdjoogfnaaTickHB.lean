/- The tickets: the expired ones, the program's. -/
import Derived.Test.YtobcgcdjoogfnaaTickH
namespace Go.Proofs.Ytobcgcdjoogfnaa
open Go.RowKit
set_option linter.unusedVariables false
set_option linter.unusedSimpArgs false

set_option maxHeartbeats 2000000 in
theorem impl_ExpiredOn (A : Option Addr) (n c : Nat) (rows : List (List Int)) (day : Int) (w : World) (h : RdR w 5 A n rows) (hm : n ≤ 1048577) :
    Calls Try.prog 42 #[.slice A n c, .int .i64 day] w (RetSB w (expV rows day) (expOk rows day)) := by
  have hl := Lib.hid h.2.2
  have cg := fun w' (h' : RdR w' 5 A n rows) => impl_AreTickets A n c rows w' h' hm
  rcases hg : good rows with _ | _
  · rw [hg] at cg
    have CG := Lib.hid cg
    rw [show expV rows day = [] by simp [expV, expOk, hg], show expOk rows day = false by simp [expOk, hg]]
    clear cg hg
    go_enter Try.func42, Try.ntmps42
    go_wp2_with (go_at_call 31; refine (CG.out _ h).mono ?_; rintro e w' ⟨rfl, hb⟩; have hB : Below w.heap.size w w' := Below.thenn (by repeat (first | exact Below.refl _ _ | assumption | apply Below.drew | apply below_drewN | (refine Below.alloc ?_ (by first | omega | (simp; done) | (simp; omega)) _) | (refine Below.setCell ?_ (by first | omega | (simp; done) | (simp; omega)) _))) hb (by first | omega | (simp; done) | (simp; omega)); have hz : w.heap.size ≤ w'.heap.size := hB.size; (try (have hz1 : w.heap.size + 1 ≤ w'.heap.size := (by have h := hb.size; (try simp at h); omega))); obtain ⟨hc, hf⟩ := bcell hb; clear hb)
    go_ret2
    exact ⟨none, 0, rfl, Ow.nil _ _, (by repeat (first | exact Below.refl _ _ | assumption | apply Below.drew | apply below_drewN | (refine Below.alloc ?_ (by first | omega | (simp; done) | (simp; omega)) _) | (refine Below.setCell ?_ (by first | omega | (simp; done) | (simp; omega)) _)))⟩
  rw [hg] at cg
  have CG := Lib.hid cg
  clear cg
  rcases hd : inr day 0 999 with _ | _
  · rw [show expV rows day = [] by simp [expV, expOk, hd], show expOk rows day = false by simp [expOk, hd]]
    clear hg
    go_enter Try.func42, Try.ntmps42
    go_wp2_with (first | (go_at_call 31; refine (CG.out _ h).mono ?_; rintro e w' ⟨rfl, hb⟩; have hB : Below w.heap.size w w' := Below.thenn (by repeat (first | exact Below.refl _ _ | assumption | apply Below.drew | apply below_drewN | (refine Below.alloc ?_ (by first | omega | (simp; done) | (simp; omega)) _) | (refine Below.setCell ?_ (by first | omega | (simp; done) | (simp; omega)) _))) hb (by first | omega | (simp; done) | (simp; omega)); have hz : w.heap.size ≤ w'.heap.size := hB.size; (try (have hz1 : w.heap.size + 1 ≤ w'.heap.size := (by have h := hb.size; (try simp at h); omega))); obtain ⟨hc, hf⟩ := bcell hb; clear hb) | (go_at_call 58; refine (impl_isDay _ _).mono ?_; rintro e w' ⟨rfl, rfl⟩))
    go_ret2
    exact ⟨none, 0, rfl, Ow.nil _ _, (by repeat (first | exact Below.refl _ _ | assumption | apply Below.drew | apply below_drewN | (refine Below.alloc ?_ (by first | omega | (simp; done) | (simp; omega)) _) | (refine Below.setCell ?_ (by first | omega | (simp; done) | (simp; omega)) _)))⟩
  rw [show expV rows day = expL rows day by simp [expV, expOk, hd, hg], show expOk rows day = true by simp [expOk, hd, hg]]
  have hn : n ≤ 12 := by have := goodN hg; have := hl.out; omega
  have HG := Lib.hid hg
  clear hg
  go_enter Try.func42, Try.ntmps42
  go_wp2_with (first | (go_at_call 31; refine (CG.out _ h).mono ?_; rintro e w' ⟨rfl, hb⟩; have hB : Below w.heap.size w w' := Below.thenn (by repeat (first | exact Below.refl _ _ | assumption | apply Below.drew | apply below_drewN | (refine Below.alloc ?_ (by first | omega | (simp; done) | (simp; omega)) _) | (refine Below.setCell ?_ (by first | omega | (simp; done) | (simp; omega)) _))) hb (by first | omega | (simp; done) | (simp; omega)); have hz : w.heap.size ≤ w'.heap.size := hB.size; (try (have hz1 : w.heap.size + 1 ≤ w'.heap.size := (by have h := hb.size; (try simp at h); omega))); obtain ⟨hc, hf⟩ := bcell hb; clear hb) | (go_at_call 58; refine (impl_isDay _ _).mono ?_; rintro e w' ⟨rfl, rfl⟩))
  go_loopg [6, 20] n (fun g s i wr => ∃ (k : Nat) (A : Option Addr) (c : Nat) (zs : List Int), k ≤ n ∧ n ≤ k + g ∧ i = .int .i64 k ∧ s = .slice A zs.length c ∧ zs.length ≤ k ∧ Below w.heap.size w wr ∧ w.heap.size ≤ wr.heap.size ∧ Hid (Ow wr w.heap.size (.slice A zs.length c) zs ∧ zs = expL (rows.take k) day))
  case atStart => exact ⟨0, _, _, [], by omega, by omega, rfl, rfl, by simp, (by repeat (first | exact Below.refl _ _ | assumption | apply Below.drew | apply below_drewN | (refine Below.alloc ?_ (by first | omega | (simp; done) | (simp; omega)) _) | (refine Below.setCell ?_ (by first | omega | (simp; done) | (simp; omega)) _))), by first | omega | (simp at *; omega), ⟨Ow.lit0 _ _ hz, (expL_zero _ _).symm⟩⟩
  case round =>
    clear hB hz hc hf
    obtain ⟨k, A, c, zs, hk1, hk2, rfl, rfl, hzl, hBr, hzr, ha⟩ := hrel
    by_cases hlt : k < n
    · obtain ⟨b, off, x0, x1, x2, x3, x4, rfl, hr, hblt, c0, c1, c2, c3, c4⟩ := h.row5 hlt
      rw [← hBr.cell (p := ⟨b, _, none⟩) hblt] at c0 c1 c2 c3 c4
      have hbr : b < wr.heap.size := by omega
      have hd := (goodR HG.out hr).1
      have HR := Lib.hid hr
      have hlb := lastD_bd x1 x2
      clear hr
      by_cases hq : lastD x1 x2 < day
      · have HQ : Hid (expB day [x0, x1, x2, x3, x4] = true) := (show expB _ _ = _ by simp [expB, fld, hq])
        have CO := Lib.hid (fun w => impl_isOpen x0 x1 x2 x3 x4 day w (by omega))
        rw [show openOn x1 x2 day = false by simp [openOn]; omega] at CO
        have hq2 : x2 ≤ day := by omega
        clear hd hlb hq
        go_wp2_with (first | (go_at_call 62; refine (CO.out _).mono ?_; rintro e w' ⟨rfl, hb⟩; have hB : Below w.heap.size w w' := Below.thenn (by repeat (first | exact Below.refl _ _ | assumption | apply Below.drew | apply below_drewN | (refine Below.alloc ?_ (by first | omega | (simp; done) | (simp; omega)) _) | (refine Below.setCell ?_ (by first | omega | (simp; done) | (simp; omega)) _))) hb (by first | omega | (simp; done) | (simp; omega)); have hz : w.heap.size ≤ w'.heap.size := hB.size; (try (have hz1 : w.heap.size + 1 ≤ w'.heap.size := (by have h := hb.size; (try simp at h); omega))); obtain ⟨hc, hf⟩ := bcell hb; have hBw : Below wr.heap.size wr w' := Below.thenn (by repeat (first | exact Below.refl _ _ | assumption | apply Below.drew | apply below_drewN | (refine Below.alloc ?_ (by first | omega | (simp; done) | (simp; omega)) _) | (refine Below.setCell ?_ (by first | omega | (simp; done) | (simp; omega)) _))) hb (by first | omega | (simp; done) | (simp; omega)); have HO1 := Lib.hid (ha.out.1.below hBw); clear hb) | (at_builtin; refine wp_app_int rfl (.tmp 34) (.tmp 37) rfl _ w.heap.size (.slice A zs.length c) zs x0 rfl HO1.out rfl (by omega) (by first | omega | (simp; done) | (simp; omega)) ?_; intro A1 c1 w1 hown1 hb1))
        go_roundg (n - (k + 1))
        case measure => omega
        case rel => exact ⟨k + 1, A1, c1, zs ++ [x0], by omega, by omega, by go_num, by simp, by simp; omega, (hB.trans hb1), by have := hb1.size; first | omega | (simp at *; omega), ⟨hown1, by rw [expL_yes HR.out HQ.out, ← ha.out.2]; rfl⟩⟩
      · have HQ : Hid (expB day [x0, x1, x2, x3, x4] = false) := (show expB _ _ = _ by simp [expB, fld, hq])
        by_cases hq2 : x2 ≤ day
        · have CO := Lib.hid (fun w => impl_isOpen x0 x1 x2 x3 x4 day w (by omega))
          rw [show openOn x1 x2 day = true by simp [openOn]; omega] at CO
          clear hd hlb hq
          go_wp2_with (first | (go_at_call 62; refine (CO.out _).mono ?_; rintro e w' ⟨rfl, hb⟩; have hB : Below w.heap.size w w' := Below.thenn (by repeat (first | exact Below.refl _ _ | assumption | apply Below.drew | apply below_drewN | (refine Below.alloc ?_ (by first | omega | (simp; done) | (simp; omega)) _) | (refine Below.setCell ?_ (by first | omega | (simp; done) | (simp; omega)) _))) hb (by first | omega | (simp; done) | (simp; omega)); have hz : w.heap.size ≤ w'.heap.size := hB.size; (try (have hz1 : w.heap.size + 1 ≤ w'.heap.size := (by have h := hb.size; (try simp at h); omega))); obtain ⟨hc, hf⟩ := bcell hb; have hBw : Below wr.heap.size wr w' := Below.thenn (by repeat (first | exact Below.refl _ _ | assumption | apply Below.drew | apply below_drewN | (refine Below.alloc ?_ (by first | omega | (simp; done) | (simp; omega)) _) | (refine Below.setCell ?_ (by first | omega | (simp; done) | (simp; omega)) _))) hb (by first | omega | (simp; done) | (simp; omega)); have HO1 := Lib.hid (ha.out.1.below hBw); clear hb))
          go_roundg (n - (k + 1))
          case measure => omega
          case rel => exact ⟨k + 1, A, c, zs, by omega, by omega, by go_num, rfl, by omega, hB, by first | omega | (simp at *; omega), ⟨HO1.out, by rw [expL_no HR.out HQ.out, ← ha.out.2]⟩⟩
        · clear hd hlb hq
          have hBs : Below w.heap.size w wr := hBr
          go_wp2_with fail
          go_roundg (n - (k + 1))
          case measure => omega
          case rel => exact ⟨k + 1, A, c, zs, by omega, by omega, by go_num, rfl, by omega, (by repeat (first | exact Below.refl _ _ | assumption | apply Below.drew | apply below_drewN | (refine Below.alloc ?_ (by first | omega | (simp; done) | (simp; omega)) _) | (refine Below.setCell ?_ (by first | omega | (simp; done) | (simp; omega)) _))), by first | omega | (simp [World.setCell] at *; omega), ⟨ha.out.1.below (by repeat (first | exact Below.refl _ _ | assumption | apply Below.drew | apply below_drewN | (refine Below.alloc ?_ (by first | omega | (simp; done) | (simp; omega)) _) | (refine Below.setCell ?_ (by first | omega | (simp; done) | (simp; omega)) _))), by rw [expL_no HR.out HQ.out, ← ha.out.2]⟩⟩
    · go_wp2_with fail
      go_ret2
      exact ⟨_, _, ret_ssb (by rw [ha.out.2, expL_end hl.out (by omega)]), by rw [← expL_end (day := day) hl.out (by omega : n ≤ k), ← ha.out.2]; exact ha.out.1, hBr⟩
end Go.Proofs.Ytobcgcdjoogfnaa
