/- The steepest slope on which a grip holds. -/
import Derived.Test.YtfnpbmndkbaodaaGripP
namespace Go.Proofs.Ytfnpbmndkbaodaa
open Go.RowKit
set_option linter.unusedVariables false
set_option linter.unusedSimpArgs false

set_option maxHeartbeats 1000000 in
theorem impl_SteepestHeld (c f s o t l : Int) (w : World) : Calls Try.prog 31 #[.agg #[.int .i64 c, .int .i64 f, .int .i64 s, .int .i64 o, .int .i64 t], .int .i64 l] w (Ret w (.tuple #[.int .i64 (shV c f s o t l), .bool (shOk c f s o t l)])) := by
  have ci := fun w => impl_IsGrip c f s o t w
  have cp := fun w => impl_isPulled l 0 w
  rw [show pullOk l 0 = inr l 100 4000 by simp [pullOk, inr]] at cp
  unfold shV shOk
  rcases ht : gripOk c f s o t with _ | _
  · rw [ht] at ci
    have CI := Lib.hid ci
    simp only [Bool.false_and, Bool.false_eq_true, if_false]
    clear ci cp ht
    go_enter Try.func31, Try.ntmps31
    go_wp2_with (go_at_call 48; refine (CI.out _).mono ?_; rintro e w' ⟨rfl, hb⟩; have hB : Below w.heap.size w w' := Below.thenn (by repeat (first | exact Below.refl _ _ | assumption | apply Below.drew | apply below_drewN | (refine Below.alloc ?_ (by first | omega | (simp; done) | (simp; omega)) _) | (refine Below.setCell ?_ (by first | omega | (simp; done) | (simp; omega)) _))) hb (by first | omega | (simp; done) | (simp; omega)); have hz : w.heap.size < w'.heap.size := (by have h := hb.size; (try simp at h); omega); obtain ⟨hc, hf⟩ := bcell hb; clear hb)
    go_ret2
    exact ⟨rfl, (by repeat (first | exact Below.refl _ _ | assumption | apply Below.drew | apply below_drewN | (refine Below.alloc ?_ (by first | omega | (simp; done) | (simp; omega)) _) | (refine Below.setCell ?_ (by first | omega | (simp; done) | (simp; omega)) _)))⟩
  · rw [ht] at ci
    have CI := Lib.hid ci
    rcases hp : inr l 100 4000 with _ | _
    · rw [hp] at cp
      have CP := Lib.hid cp
      simp only [Bool.true_and, Bool.false_and, Bool.false_eq_true, if_false]
      clear ci cp ht hp
      go_enter Try.func31, Try.ntmps31
      go_wp2_with (first | (go_at_call 48; refine (CI.out _).mono ?_; rintro e w' ⟨rfl, hb⟩; have hB : Below w.heap.size w w' := Below.thenn (by repeat (first | exact Below.refl _ _ | assumption | apply Below.drew | apply below_drewN | (refine Below.alloc ?_ (by first | omega | (simp; done) | (simp; omega)) _) | (refine Below.setCell ?_ (by first | omega | (simp; done) | (simp; omega)) _))) hb (by first | omega | (simp; done) | (simp; omega)); have hz : w.heap.size < w'.heap.size := (by have h := hb.size; (try simp at h); omega); obtain ⟨hc, hf⟩ := bcell hb; clear hb) | (go_at_call 70; refine (CP.out _).mono ?_; rintro e w' ⟨rfl, rfl⟩))
      go_ret2
      exact ⟨rfl, (by repeat (first | exact Below.refl _ _ | assumption | apply Below.drew | apply below_drewN | (refine Below.alloc ?_ (by first | omega | (simp; done) | (simp; omega)) _) | (refine Below.setCell ?_ (by first | omega | (simp; done) | (simp; omega)) _)))⟩
    · have hb : 100 ≤ l ∧ l ≤ 4000 := by simpa [inr] using hp
      have CH := Lib.hid (fun (k : Nat) (hk : k ≤ 100) w => impl_holds c f s o t l (k : Int) w (by omega) (by omega) (by omega) (by omega))
      rw [hp] at cp
      have CP := Lib.hid cp
      simp only [Bool.true_and, if_true]
      clear ci cp ht hp hb
      generalize hS : stK f s l 101 = St
      have HS := Lib.hid hS
      clear hS
      go_enter Try.func31, Try.ntmps31
      go_wp2_with fail
      have T0 := Lib.hid (Blk.new w 48 #[.int .i64 c, .int .i64 f, .int .i64 s, .int .i64 o, .int .i64 t])
      have B0 := Lib.hid ((Below.refl w.heap.size w).alloc (Nat.le_refl _) (.cells #[.int .i64 c, .int .i64 f, .int .i64 s, .int .i64 o, .int .i64 t] 48))
      generalize w.alloc (.cells #[.int .i64 c, .int .i64 f, .int .i64 s, .int .i64 o, .int .i64 t] 48) = w0 at *
      refine (CI.out w0).mono ?_
      rintro e w1 ⟨rfl, hb⟩
      have T1 := Lib.hid (T0.out.below hb T0.out.lt)
      have B1 := Lib.hid (Below.thenn B0.out hb B0.out.size)
      clear hb
      go_wp2_with (go_at_call 70; refine (CP.out _).mono ?_; rintro e w' ⟨rfl, rfl⟩)
      go_loopg [6] 101 (fun g i wr => ∃ k : Nat, k ≤ 101 ∧ k ≤ g ∧ i = .int .i64 ((k : Int) - 1) ∧ Hid (Blk wr w.heap.size 48 #[.int .i64 c, .int .i64 f, .int .i64 s, .int .i64 o, .int .i64 t] ∧ Below w.heap.size w wr) ∧ Hid (stK f s l k = St))
      case atStart => exact ⟨101, by omega, by omega, rfl, ⟨T1.out, B1.out⟩, HS.out⟩
      case round =>
        obtain ⟨k, hk1, hk2, rfl, HB, HK⟩ := hrel
        rcases k with _ | k
        · have hz : St = none := HK.out.symm
          subst hz
          rw [show ((0 : Nat) : Int) - 1 = -1 from rfl]
          go_wp2_with fail
          go_ret2
          exact ⟨rfl, HB.out.2⟩
        · obtain ⟨c0, c1, c2, c3, c4⟩ := HB.out.1.cells5
          rw [show ((k + 1 : Nat) : Int) - 1 = (k : Int) by omega]
          rcases hh : gripHolds f s l (k : Int) with _ | _
          · have ch := fun w => CH.out k (by omega) w
            rw [hh] at ch
            have CC := Lib.hid ch
            have HK2 := Lib.hid ((show stK f s l (k + 1) = stK f s l k by simp [stK, hh]).symm.trans HK.out)
            clear ch hh
            go_wp2_with fail
            refine (CC.out wr).mono ?_
            rintro e w3 ⟨rfl, hb⟩
            have T3 := Lib.hid (HB.out.1.below hb HB.out.1.lt)
            have B3 := Lib.hid (Below.thenn HB.out.2 hb HB.out.2.size)
            clear hb
            go_wp2_with fail
            go_roundg k
            case measure => omega
            case rel => exact ⟨k, by omega, by omega, by go_num, ⟨T3.out, B3.out⟩, HK2.out⟩
          · have ch := fun w => CH.out k (by omega) w
            rw [hh] at ch
            have CC := Lib.hid ch
            have hz : St = some k := (HK.out.symm.trans (show stK f s l (k + 1) = some k by simp [stK, hh]))
            subst hz
            clear ch hh
            go_wp2_with fail
            refine (CC.out wr).mono ?_
            rintro e w3 ⟨rfl, hb⟩
            have B3 := Lib.hid (Below.thenn HB.out.2 hb HB.out.2.size)
            clear hb
            go_wp2_with fail
            go_ret2
            exact ⟨rfl, B3.out⟩
set_option maxHeartbeats 1000000 in
theorem spec_SteepestHeld (c f s o t l : Int) (w : World) : Calls Try.prog 32 #[.agg #[.int .i64 c, .int .i64 f, .int .i64 s, .int .i64 o, .int .i64 t], .int .i64 l] w (Ret w (.tuple #[.int .i64 (shV c f s o t l), .bool (shOk c f s o t l)])) := by
  have ci := fun w => spec_l7One c f s o t w
  have cp := fun w => spec_l7Load l w
  unfold shV shOk
  rcases ht : gripOk c f s o t with _ | _
  · rw [ht] at ci
    have CI := Lib.hid ci
    simp only [Bool.false_and, Bool.false_eq_true, if_false]
    clear ci cp ht
    go_enter Try.func32, Try.ntmps32
    go_wp2_with (go_at_call 71; refine (CI.out _).mono ?_; rintro e w' ⟨rfl, hb⟩; have hB : Below w.heap.size w w' := Below.thenn (by repeat (first | exact Below.refl _ _ | assumption | apply Below.drew | apply below_drewN | (refine Below.alloc ?_ (by first | omega | (simp; done) | (simp; omega)) _) | (refine Below.setCell ?_ (by first | omega | (simp; done) | (simp; omega)) _))) hb (by first | omega | (simp; done) | (simp; omega)); have hz : w.heap.size < w'.heap.size := (by have h := hb.size; (try simp at h); omega); obtain ⟨hc, hf⟩ := bcell hb; clear hb)
    go_ret2
    exact ⟨rfl, (by repeat (first | exact Below.refl _ _ | assumption | apply Below.drew | apply below_drewN | (refine Below.alloc ?_ (by first | omega | (simp; done) | (simp; omega)) _) | (refine Below.setCell ?_ (by first | omega | (simp; done) | (simp; omega)) _)))⟩
  · rw [ht] at ci
    have CI := Lib.hid ci
    rcases hp : inr l 100 4000 with _ | _
    · rw [hp] at cp
      have CP := Lib.hid cp
      simp only [Bool.true_and, Bool.false_and, Bool.false_eq_true, if_false]
      clear ci cp ht hp
      go_enter Try.func32, Try.ntmps32
      go_wp2_with (first | (go_at_call 71; refine (CI.out _).mono ?_; rintro e w' ⟨rfl, hb⟩; have hB : Below w.heap.size w w' := Below.thenn (by repeat (first | exact Below.refl _ _ | assumption | apply Below.drew | apply below_drewN | (refine Below.alloc ?_ (by first | omega | (simp; done) | (simp; omega)) _) | (refine Below.setCell ?_ (by first | omega | (simp; done) | (simp; omega)) _))) hb (by first | omega | (simp; done) | (simp; omega)); have hz : w.heap.size < w'.heap.size := (by have h := hb.size; (try simp at h); omega); obtain ⟨hc, hf⟩ := bcell hb; clear hb) | (go_at_call 58; refine (CP.out _).mono ?_; rintro e w' ⟨rfl, rfl⟩))
      go_ret2
      exact ⟨rfl, (by repeat (first | exact Below.refl _ _ | assumption | apply Below.drew | apply below_drewN | (refine Below.alloc ?_ (by first | omega | (simp; done) | (simp; omega)) _) | (refine Below.setCell ?_ (by first | omega | (simp; done) | (simp; omega)) _)))⟩
    · have hb : 100 ≤ l ∧ l ≤ 4000 := by simpa [inr] using hp
      have CH := Lib.hid (fun (k : Nat) (hk : k ≤ 100) w => spec_l7Holds c f s o t l (k : Int) w (by omega) (by omega) (by omega) (by omega))
      rw [hp] at cp
      have CP := Lib.hid cp
      simp only [Bool.true_and, if_true]
      clear ci cp ht hp hb
      generalize hS : stK f s l 101 = St
      have HS := Lib.hid hS
      clear hS
      go_enter Try.func32, Try.ntmps32
      go_wp2_with fail
      have T0 := Lib.hid (Blk.new w 48 #[.int .i64 c, .int .i64 f, .int .i64 s, .int .i64 o, .int .i64 t])
      have B0 := Lib.hid ((Below.refl w.heap.size w).alloc (Nat.le_refl _) (.cells #[.int .i64 c, .int .i64 f, .int .i64 s, .int .i64 o, .int .i64 t] 48))
      generalize w.alloc (.cells #[.int .i64 c, .int .i64 f, .int .i64 s, .int .i64 o, .int .i64 t] 48) = w0 at *
      refine (CI.out w0).mono ?_
      rintro e w1 ⟨rfl, hb⟩
      have T1 := Lib.hid (T0.out.below hb T0.out.lt)
      have B1 := Lib.hid (Below.thenn B0.out hb B0.out.size)
      clear hb
      go_wp2_with (go_at_call 58; refine (CP.out _).mono ?_; rintro e w' ⟨rfl, rfl⟩)
      go_loopg [6] 101 (fun g i wr => ∃ k : Nat, k ≤ 101 ∧ k ≤ g ∧ i = .int .i64 ((k : Int) - 1) ∧ Hid (Blk wr w.heap.size 48 #[.int .i64 c, .int .i64 f, .int .i64 s, .int .i64 o, .int .i64 t] ∧ Below w.heap.size w wr) ∧ Hid (stK f s l k = St))
      case atStart => exact ⟨101, by omega, by omega, rfl, ⟨T1.out, B1.out⟩, HS.out⟩
      case round =>
        obtain ⟨k, hk1, hk2, rfl, HB, HK⟩ := hrel
        rcases k with _ | k
        · have hz : St = none := HK.out.symm
          subst hz
          rw [show ((0 : Nat) : Int) - 1 = -1 from rfl]
          go_wp2_with fail
          go_ret2
          exact ⟨rfl, HB.out.2⟩
        · obtain ⟨c0, c1, c2, c3, c4⟩ := HB.out.1.cells5
          rw [show ((k + 1 : Nat) : Int) - 1 = (k : Int) by omega]
          rcases hh : gripHolds f s l (k : Int) with _ | _
          · have ch := fun w => CH.out k (by omega) w
            rw [hh] at ch
            have CC := Lib.hid ch
            have HK2 := Lib.hid ((show stK f s l (k + 1) = stK f s l k by simp [stK, hh]).symm.trans HK.out)
            clear ch hh
            go_wp2_with fail
            refine (CC.out wr).mono ?_
            rintro e w3 ⟨rfl, hb⟩
            have T3 := Lib.hid (HB.out.1.below hb HB.out.1.lt)
            have B3 := Lib.hid (Below.thenn HB.out.2 hb HB.out.2.size)
            clear hb
            go_wp2_with fail
            go_roundg k
            case measure => omega
            case rel => exact ⟨k, by omega, by omega, by go_num, ⟨T3.out, B3.out⟩, HK2.out⟩
          · have ch := fun w => CH.out k (by omega) w
            rw [hh] at ch
            have CC := Lib.hid ch
            have hz : St = some k := (HK.out.symm.trans (show stK f s l (k + 1) = some k by simp [stK, hh]))
            subst hz
            clear ch hh
            go_wp2_with fail
            refine (CC.out wr).mono ?_
            rintro e w3 ⟨rfl, hb⟩
            have B3 := Lib.hid (Below.thenn HB.out.2 hb HB.out.2.size)
            clear hb
            go_wp2_with fail
            go_ret2
            exact ⟨rfl, B3.out⟩
end Go.Proofs.Ytfnpbmndkbaodaa
