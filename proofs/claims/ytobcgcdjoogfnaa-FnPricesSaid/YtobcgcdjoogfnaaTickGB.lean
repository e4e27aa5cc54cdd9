/- The tickets: sales on a day, the program's. -/
import Derived.Test.YtobcgcdjoogfnaaTickG
namespace Go.Proofs.Ytobcgcdjoogfnaa
open Go.RowKit
set_option linter.unusedVariables false
set_option linter.unusedSimpArgs false

set_option maxHeartbeats 2000000 in
theorem impl_SalesOn (p0 p1 p2 p3 : Int) (A : Option Addr) (n c : Nat) (rows : List (List Int)) (day : Int) (w : World) (h : RdR w 5 A n rows) (hm : n ≤ 1048577) :
    Calls Try.prog 36 #[.agg #[.int .i64 p0, .int .i64 p1, .int .i64 p2, .int .i64 p3], .slice A n c, .int .i64 day] w (Ret w (.tuple #[.int .i64 (saleV p0 p1 p2 p3 rows day), .bool (saleOk p0 p1 p2 p3 rows day)])) := by
  have hl := Lib.hid h.2.2
  have cg := fun w' (h' : RdR w' 5 A n rows) => impl_AreTickets A n c rows w' h' hm
  have cp := fun w' => impl_byKind p0 p1 p2 p3 w'
  rcases hp : prOk p0 p1 p2 p3 with _ | _
  · rw [hp] at cp
    have CP := Lib.hid cp
    rw [show saleV p0 p1 p2 p3 rows day = 0 by simp [saleV, saleOk, hp], show saleOk p0 p1 p2 p3 rows day = false by simp [saleOk, hp]]
    clear cp cg hp
    go_enter Try.func36, Try.ntmps36
    go_wp2_with (first | (go_at_call 68; refine (CP.out _).mono ?_; rintro e w2 ⟨A1, c1, rfl, HP1, hb⟩; have hB2 : Below w.heap.size w w2 := Below.thenn (by repeat (first | exact Below.refl _ _ | assumption | apply Below.drew | apply below_drewN | (refine Below.alloc ?_ (by first | omega | (simp; done) | (simp; omega)) _) | (refine Below.setCell ?_ (by first | omega | (simp; done) | (simp; omega)) _))) hb (by first | omega | (simp; done) | (simp; omega)); have hz2 : w.heap.size + 1 ≤ w2.heap.size := (by have h := hb.size; (try simp at h); omega); clear hb))
    go_ret2
    exact ⟨rfl, hB2⟩
  rw [hp] at cp
  have CP := Lib.hid cp
  clear cp
  rcases hg : good rows with _ | _
  · rw [hg] at cg
    have CG := Lib.hid cg
    rw [show saleV p0 p1 p2 p3 rows day = 0 by simp [saleV, saleOk, hg], show saleOk p0 p1 p2 p3 rows day = false by simp [saleOk, hg]]
    clear cg hg hp
    go_enter Try.func36, Try.ntmps36
    go_wp2_with (first | (go_at_call 68; refine (CP.out _).mono ?_; rintro e w2 ⟨A1, c1, rfl, HP1, hb⟩; have hB2 : Below w.heap.size w w2 := Below.thenn (by repeat (first | exact Below.refl _ _ | assumption | apply Below.drew | apply below_drewN | (refine Below.alloc ?_ (by first | omega | (simp; done) | (simp; omega)) _) | (refine Below.setCell ?_ (by first | omega | (simp; done) | (simp; omega)) _))) hb (by first | omega | (simp; done) | (simp; omega)); have hz2 : w.heap.size + 1 ≤ w2.heap.size := (by have h := hb.size; (try simp at h); omega); clear hb) | (go_at_call 31; refine (CG.out _ (h.below hB2)).mono ?_; rintro e w' ⟨rfl, hb⟩; have hB : Below w.heap.size w w' := Below.thenn (by repeat (first | exact Below.refl _ _ | assumption | apply Below.drew | apply below_drewN | (refine Below.alloc ?_ (by first | omega | (simp; done) | (simp; omega)) _) | (refine Below.setCell ?_ (by first | omega | (simp; done) | (simp; omega)) _))) hb (by first | omega | (simp; done) | (simp; omega)); have hz : w.heap.size ≤ w'.heap.size := hB.size; (try (have hz1 : w.heap.size + 1 ≤ w'.heap.size := (by have h := hb.size; (try simp at h); omega))); obtain ⟨hc, hf⟩ := bcell hb; clear hb))
    go_ret2
    exact ⟨rfl, (by repeat (first | exact Below.refl _ _ | assumption | apply Below.drew | apply below_drewN | (refine Below.alloc ?_ (by first | omega | (simp; done) | (simp; omega)) _) | (refine Below.setCell ?_ (by first | omega | (simp; done) | (simp; omega)) _)))⟩
  rw [hg] at cg
  have CG := Lib.hid cg
  clear cg
  rcases hd : inr day 0 999 with _ | _
  · rw [show saleV p0 p1 p2 p3 rows day = 0 by simp [saleV, saleOk, hd], show saleOk p0 p1 p2 p3 rows day = false by simp [saleOk, hd]]
    clear hg hp
    go_enter Try.func36, Try.ntmps36
    go_wp2_with (first | (go_at_call 68; refine (CP.out _).mono ?_; rintro e w2 ⟨A1, c1, rfl, HP1, hb⟩; have hB2 : Below w.heap.size w w2 := Below.thenn (by repeat (first | exact Below.refl _ _ | assumption | apply Below.drew | apply below_drewN | (refine Below.alloc ?_ (by first | omega | (simp; done) | (simp; omega)) _) | (refine Below.setCell ?_ (by first | omega | (simp; done) | (simp; omega)) _))) hb (by first | omega | (simp; done) | (simp; omega)); have hz2 : w.heap.size + 1 ≤ w2.heap.size := (by have h := hb.size; (try simp at h); omega); clear hb) | (go_at_call 31; refine (CG.out _ (h.below hB2)).mono ?_; rintro e w' ⟨rfl, hb⟩; have hB : Below w.heap.size w w' := Below.thenn (by repeat (first | exact Below.refl _ _ | assumption | apply Below.drew | apply below_drewN | (refine Below.alloc ?_ (by first | omega | (simp; done) | (simp; omega)) _) | (refine Below.setCell ?_ (by first | omega | (simp; done) | (simp; omega)) _))) hb (by first | omega | (simp; done) | (simp; omega)); have hz : w.heap.size ≤ w'.heap.size := hB.size; (try (have hz1 : w.heap.size + 1 ≤ w'.heap.size := (by have h := hb.size; (try simp at h); omega))); obtain ⟨hc, hf⟩ := bcell hb; clear hb) | (go_at_call 58; refine (impl_isDay _ _).mono ?_; rintro e w' ⟨rfl, rfl⟩))
    go_ret2
    exact ⟨rfl, (by repeat (first | exact Below.refl _ _ | assumption | apply Below.drew | apply below_drewN | (refine Below.alloc ?_ (by first | omega | (simp; done) | (simp; omega)) _) | (refine Below.setCell ?_ (by first | omega | (simp; done) | (simp; omega)) _)))⟩
  rw [show saleV p0 p1 p2 p3 rows day = sumR (saleF p0 p1 p2 p3 day) rows by simp [saleV, saleOk, hd, hg, hp], show saleOk p0 p1 p2 p3 rows day = true by simp [saleOk, hd, hg, hp]]
  have hn : n ≤ 12 := by have := goodN hg; have := hl.out; omega
  have HG := Lib.hid hg
  have HP := Lib.hid hp
  clear hg hp
  go_enter Try.func36, Try.ntmps36
  go_wp2_with (first | (go_at_call 68; refine (CP.out _).mono ?_; rintro e w2 ⟨A1, c1, rfl, HP1, hb⟩; have hB2 : Below w.heap.size w w2 := Below.thenn (by repeat (first | exact Below.refl _ _ | assumption | apply Below.drew | apply below_drewN | (refine Below.alloc ?_ (by first | omega | (simp; done) | (simp; omega)) _) | (refine Below.setCell ?_ (by first | omega | (simp; done) | (simp; omega)) _))) hb (by first | omega | (simp; done) | (simp; omega)); have hz2 : w.heap.size + 1 ≤ w2.heap.size := (by have h := hb.size; (try simp at h); omega); clear hb) | (go_at_call 31; refine (CG.out _ (h.below hB2)).mono ?_; rintro e w' ⟨rfl, hb⟩; have hB3 : Below w2.heap.size w2 w' := hb; have hz3 : w2.heap.size ≤ w'.heap.size := hb.size; obtain ⟨hc, hf⟩ := bcell hb; clear hb) | (go_at_call 58; refine (impl_isDay _ _).mono ?_; rintro e w' ⟨rfl, rfl⟩))
  clear hc hf
  go_loopg [10, 32] n (fun g s i wr => ∃ (k : Nat) (z : Int), k ≤ n ∧ n ≤ k + g ∧ i = .int .i64 k ∧ s = .int .i64 z ∧ 0 ≤ z ∧ z ≤ k * 50000 ∧ Below w2.heap.size w2 wr ∧ w2.heap.size ≤ wr.heap.size ∧ Hid (z = sumR (saleF p0 p1 p2 p3 day) (rows.take k)))
  case atStart => exact ⟨0, 0, by omega, by omega, rfl, rfl, by omega, by omega, hB3, hz3, (show (0 : Int) = sumR _ _ by rw [sumR_zero])⟩
  case round =>
    clear hB3 hz3
    obtain ⟨k, z, hk1, hk2, rfl, rfl, hz0, hz1, hBr, hzr, ha⟩ := hrel
    by_cases hlt : k < n
    · obtain ⟨b, off, x0, x1, x2, x3, x4, rfl, hr, hblt, c0, c1, c2, c3, c4⟩ := (h.below hB2).row5 hlt
      rw [← hBr.cell (p := ⟨b, _, none⟩) hblt] at c0 c1 c2 c3 c4
      have hbr : b < wr.heap.size := by omega
      obtain ⟨bp, op, hAp, hpc⟩ := (Ow.rd HP1).at_ (k := 0) (by simp)
      subst hAp
      have hP0 := hpc 0 (by simp)
      have hP1 := hpc 1 (by simp)
      have hP2 := hpc 2 (by simp)
      have hP3 := hpc 3 (by simp)
      have hbl : bp < w2.heap.size := World.block_lt_of_cell? _ _ hP0
      rw [← hBr.cell (p := ⟨bp, _, none⟩) hbl] at hP0 hP1 hP2 hP3
      simp only [List.getElem_cons_zero, List.getElem_cons_succ, Nat.add_zero] at hP0 hP1 hP2 hP3
      have hbp : bp < wr.heap.size := by have : bp < w2.heap.size := hbl; omega
      clear hpc hbl
      have hd := (goodR HG.out hr).1
      have hpb := prK_bd (k := x1) HP.out
      have HR := Lib.hid hr
      clear hr
      by_cases hq : x2 = day
      · have hq' : (x2 == day) = true := by simpa using hq
        have HF : Hid (saleF p0 p1 p2 p3 day [x0, x1, x2, x3, x4] = prK p0 p1 p2 p3 x1) := (show saleF _ _ _ _ _ _ = _ by simp [saleF, fld, hq])
        clear hq
        have hx : x1 = 0 ∨ x1 = 1 ∨ x1 = 2 ∨ x1 = 3 := by omega
        clear hd
        rcases hx with rfl | rfl | rfl | rfl
        · simp only [prK, if_true, if_false, show ¬ ((1 : Int) = 0) by decide, show ¬ ((2 : Int) = 0) by decide, show ¬ ((2 : Int) = 1) by decide, show ¬ ((3 : Int) = 0) by decide, show ¬ ((3 : Int) = 1) by decide, show ¬ ((3 : Int) = 2) by decide] at hpb HF
          go_wp2_with fail
          all_goals go_roundg (n - (k + 1))
          all_goals first | omega | exact ⟨k + 1, _, by omega, by omega, by go_num, rfl, by omega, by omega, by (repeat (first | exact hBr | (refine Below.alloc ?_ (by first | omega | (simp; done) | (simp; omega)) _) | (refine Below.setCell ?_ (by first | omega | (simp; done) | (simp; omega)) _))), by first | omega | (simp [World.setCell] at *; omega), (show _ = sumR _ _ by rw [sumR_next HR.out, ← ha.out, HF.out])⟩
        · simp only [prK, if_true, if_false, show ¬ ((1 : Int) = 0) by decide, show ¬ ((2 : Int) = 0) by decide, show ¬ ((2 : Int) = 1) by decide, show ¬ ((3 : Int) = 0) by decide, show ¬ ((3 : Int) = 1) by decide, show ¬ ((3 : Int) = 2) by decide] at hpb HF
          go_wp2_with fail
          all_goals go_roundg (n - (k + 1))
          all_goals first | omega | exact ⟨k + 1, _, by omega, by omega, by go_num, rfl, by omega, by omega, by (repeat (first | exact hBr | (refine Below.alloc ?_ (by first | omega | (simp; done) | (simp; omega)) _) | (refine Below.setCell ?_ (by first | omega | (simp; done) | (simp; omega)) _))), by first | omega | (simp [World.setCell] at *; omega), (show _ = sumR _ _ by rw [sumR_next HR.out, ← ha.out, HF.out])⟩
        · simp only [prK, if_true, if_false, show ¬ ((1 : Int) = 0) by decide, show ¬ ((2 : Int) = 0) by decide, show ¬ ((2 : Int) = 1) by decide, show ¬ ((3 : Int) = 0) by decide, show ¬ ((3 : Int) = 1) by decide, show ¬ ((3 : Int) = 2) by decide] at hpb HF
          go_wp2_with fail
          all_goals go_roundg (n - (k + 1))
          all_goals first | omega | exact ⟨k + 1, _, by omega, by omega, by go_num, rfl, by omega, by omega, by (repeat (first | exact hBr | (refine Below.alloc ?_ (by first | omega | (simp; done) | (simp; omega)) _) | (refine Below.setCell ?_ (by first | omega | (simp; done) | (simp; omega)) _))), by first | omega | (simp [World.setCell] at *; omega), (show _ = sumR _ _ by rw [sumR_next HR.out, ← ha.out, HF.out])⟩
        · simp only [prK, if_true, if_false, show ¬ ((1 : Int) = 0) by decide, show ¬ ((2 : Int) = 0) by decide, show ¬ ((2 : Int) = 1) by decide, show ¬ ((3 : Int) = 0) by decide, show ¬ ((3 : Int) = 1) by decide, show ¬ ((3 : Int) = 2) by decide] at hpb HF
          go_wp2_with fail
          all_goals go_roundg (n - (k + 1))
          all_goals first | omega | exact ⟨k + 1, _, by omega, by omega, by go_num, rfl, by omega, by omega, by (repeat (first | exact hBr | (refine Below.alloc ?_ (by first | omega | (simp; done) | (simp; omega)) _) | (refine Below.setCell ?_ (by first | omega | (simp; done) | (simp; omega)) _))), by first | omega | (simp [World.setCell] at *; omega), (show _ = sumR _ _ by rw [sumR_next HR.out, ← ha.out, HF.out])⟩
      · have hq' : (x2 == day) = false := by simpa using hq
        have HF : Hid (saleF p0 p1 p2 p3 day [x0, x1, x2, x3, x4] = 0) := (show saleF _ _ _ _ _ _ = _ by simp [saleF, fld, hq])
        clear hq hd hpb
        go_wp2_with fail
        all_goals go_roundg (n - (k + 1))
        all_goals first | omega | exact ⟨k + 1, z, by omega, by omega, by go_num, rfl, by omega, by omega, by (repeat (first | exact hBr | (refine Below.alloc ?_ (by first | omega | (simp; done) | (simp; omega)) _) | (refine Below.setCell ?_ (by first | omega | (simp; done) | (simp; omega)) _))), by first | omega | (simp [World.setCell] at *; omega), (show _ = sumR _ _ by rw [sumR_next HR.out, ← ha.out, HF.out, Int.add_zero])⟩
    · go_wp2_with fail
      go_ret2
      exact ⟨ret_ib (by rw [ha.out]; exact sumR_end hl.out (by omega)) rfl, Below.thenn hB2 hBr (by omega)⟩
end Go.Proofs.Ytobcgcdjoogfnaa
