/- The grips: what the reference's and the program's functions on one grip return. -/
import Derived.Test.YtfnpbmndkbaodaaBase
import Derived.Test.YtfnpbmndkbaodaaStruct
import Derived.Test.YtfnpbmndkbaodaaExt
namespace Go.Proofs.Ytfnpbmndkbaodaa
open Go.RowKit
set_option linter.unusedVariables false
set_option linter.unusedSimpArgs false

def gripOk (c f s o t : Int) : Bool := inr c 1 99 && (inr f 0 5000 && (inr s 0 99 && (inr o 0 99999 && inr t 0 9999)))
theorem gripOk_iff {c f s o t : Int} : gripOk c f s o t = true ↔ (1 ≤ c ∧ c ≤ 99) ∧ (0 ≤ f ∧ f ≤ 5000) ∧ (0 ≤ s ∧ s ≤ 99) ∧ (0 ≤ o ∧ o ≤ 99999) ∧ (0 ≤ t ∧ t ≤ 9999) := by simp [gripOk, inr]
def gripPull (load slope : Int) : Int := (load * 981 * slope + 99999) / 100000
theorem pull_prod {load slope : Int} (h0 : 0 ≤ load) (h1 : load ≤ 4000) (h2 : 0 ≤ slope) (h3 : slope ≤ 101) : 0 ≤ load * 981 * slope ∧ load * 981 * slope ≤ 396324000 := by
  have a := Int.mul_nonneg (show 0 ≤ load * 981 by omega) h2
  have b := Int.mul_le_mul (show load * 981 ≤ 3924000 by omega) h3 h2 (by omega)
  omega
theorem gripPull_bd {load slope : Int} (h0 : 0 ≤ load) (h1 : load ≤ 4000) (h2 : 0 ≤ slope) (h3 : slope ≤ 101) : 0 ≤ gripPull load slope ∧ gripPull load slope ≤ 4000 := by
  have := pull_prod h0 h1 h2 h3
  unfold gripPull
  generalize load * 981 * slope = P at this ⊢
  omega
def gripHolds (f s load slope : Int) : Bool := decide (3 * gripPull load slope ≤ f) && decide (s ≤ 40)

theorem impl_IsGrip (c f s o t : Int) (w : World) : Calls Try.prog 48 #[.agg #[.int .i64 c, .int .i64 f, .int .i64 s, .int .i64 o, .int .i64 t]] w (Ret w (.bool (gripOk c f s o t))) := by
  go_enter Try.func48, Try.ntmps48
  go_wp2_with (go_at_call 54; refine (impl_within _ _ _ _).mono ?_; rintro e w' ⟨rfl, rfl⟩)
  all_goals (go_ret; exact ⟨ret_bool (by (rw [Bool.eq_iff_iff]; simp [gripOk, inr] at *; omega)), (by repeat (first | exact Below.refl _ _ | assumption | apply Below.drew | apply below_drewN | (refine Below.alloc ?_ (by first | omega | (simp; done) | (simp; omega)) _) | (refine Below.setCell ?_ (by first | omega | (simp; done) | (simp; omega)) _)))⟩)
theorem spec_l7Day (v : Int) (w : World) : Calls Try.prog 53 #[.int .i64 v] w fun e w' => e = .returned (.bool (inr v 0 9999)) ∧ w = w' := by
  go_enter Try.func53, Try.ntmps53
  go_wp2_with (go_at_call 67; refine (spec_l1In _ _ _ _).mono ?_; rintro e w' ⟨rfl, rfl⟩)
  go_ret
  exact ⟨rfl, rfl⟩
theorem spec_l7Load (v : Int) (w : World) : Calls Try.prog 58 #[.int .i64 v] w fun e w' => e = .returned (.bool (inr v 100 4000)) ∧ w = w' := by
  go_enter Try.func58, Try.ntmps58
  go_wp2_with (go_at_call 67; refine (spec_l1In _ _ _ _).mono ?_; rintro e w' ⟨rfl, rfl⟩)
  go_ret
  exact ⟨rfl, rfl⟩
theorem spec_l7Slope (v : Int) (w : World) : Calls Try.prog 57 #[.int .i64 v] w fun e w' => e = .returned (.bool (inr v 0 100)) ∧ w = w' := by
  go_enter Try.func57, Try.ntmps57
  go_wp2_with (go_at_call 67; refine (spec_l1In _ _ _ _).mono ?_; rintro e w' ⟨rfl, rfl⟩)
  go_ret
  exact ⟨rfl, rfl⟩
theorem spec_l7One (c f s o t : Int) (w : World) : Calls Try.prog 71 #[.agg #[.int .i64 c, .int .i64 f, .int .i64 s, .int .i64 o, .int .i64 t]] w (Ret w (.bool (gripOk c f s o t))) := by
  go_enter Try.func71, Try.ntmps71
  go_wp2_with (first | (go_at_call 67; refine (spec_l1In _ _ _ _).mono ?_; rintro e w' ⟨rfl, rfl⟩) | (go_at_call 53; refine (spec_l7Day _ _).mono ?_; rintro e w' ⟨rfl, rfl⟩))
  all_goals (go_ret; exact ⟨ret_bool (by (rw [Bool.eq_iff_iff]; simp [gripOk, inr] at *; omega)), (by repeat (first | exact Below.refl _ _ | assumption | apply Below.drew | apply below_drewN | (refine Below.alloc ?_ (by first | omega | (simp; done) | (simp; omega)) _) | (refine Below.setCell ?_ (by first | omega | (simp; done) | (simp; omega)) _)))⟩)
theorem spec_IsGrip (c f s o t : Int) (w : World) : Calls Try.prog 49 #[.agg #[.int .i64 c, .int .i64 f, .int .i64 s, .int .i64 o, .int .i64 t]] w (Ret w (.bool (gripOk c f s o t))) := by
  have CI := Lib.hid (fun w => spec_l7One c f s o t w)
  generalize gripOk c f s o t = z at CI ⊢
  go_enter Try.func49, Try.ntmps49
  go_wp2_with (go_at_call 71; refine (CI.out _).mono ?_; rintro e w' ⟨rfl, hb⟩; have hB : Below w.heap.size w w' := Below.thenn (by repeat (first | exact Below.refl _ _ | assumption | apply Below.drew | apply below_drewN | (refine Below.alloc ?_ (by first | omega | (simp; done) | (simp; omega)) _) | (refine Below.setCell ?_ (by first | omega | (simp; done) | (simp; omega)) _))) hb (by first | omega | (simp; done) | (simp; omega)); have hz : w.heap.size < w'.heap.size := (by have h := hb.size; (try simp at h); omega); obtain ⟨hc, hf⟩ := bcell hb; clear hb)
  go_ret
  exact ⟨rfl, (by repeat (first | exact Below.refl _ _ | assumption | apply Below.drew | apply below_drewN | (refine Below.alloc ?_ (by first | omega | (simp; done) | (simp; omega)) _) | (refine Below.setCell ?_ (by first | omega | (simp; done) | (simp; omega)) _)))⟩
theorem impl_pullOf (load slope : Int) (w : World) (h0 : 0 ≤ load) (h1 : load ≤ 4000) (h2 : 0 ≤ slope) (h3 : slope ≤ 101) : Calls Try.prog 73 #[.int .i64 load, .int .i64 slope] w fun e w' => e = .returned (.int .i64 (gripPull load slope)) ∧ w = w' := by
  have hp := pull_prod h0 h1 h2 h3
  unfold gripPull
  have w1 : IntKind.i64.wrap (load * 981) = load * 981 := IntWalk.i64_in _ (by omega)
  have w2 : IntKind.i64.wrap (load * 981 * slope) = load * 981 * slope := IntWalk.i64_in _ (by omega)
  have p0 := hp.1
  have p1 := hp.2
  clear hp
  go_enter Try.func73, Try.ntmps73
  go_wp2
  go_ret
  exact ⟨rfl, rfl⟩
theorem spec_l7Pull (load slope : Int) (w : World) (h0 : 0 ≤ load) (h1 : load ≤ 4000) (h2 : 0 ≤ slope) (h3 : slope ≤ 101) : Calls Try.prog 74 #[.int .i64 load, .int .i64 slope] w fun e w' => e = .returned (.int .i64 (gripPull load slope)) ∧ w = w' := by
  have hp := pull_prod h0 h1 h2 h3
  unfold gripPull
  have w1 : IntKind.i64.wrap (load * 981) = load * 981 := IntWalk.i64_in _ (by omega)
  have w2 : IntKind.i64.wrap (load * 981 * slope) = load * 981 * slope := IntWalk.i64_in _ (by omega)
  have p0 := hp.1
  have p1 := hp.2
  clear hp
  go_enter Try.func74, Try.ntmps74
  go_wp2
  go_ret
  exact ⟨rfl, rfl⟩
set_option maxHeartbeats 1000000 in
theorem impl_holds (c f s o t load slope : Int) (w : World) (h0 : 0 ≤ load) (h1 : load ≤ 4000) (h2 : 0 ≤ slope) (h3 : slope ≤ 101) :
    Calls Try.prog 61 #[.agg #[.int .i64 c, .int .i64 f, .int .i64 s, .int .i64 o, .int .i64 t], .int .i64 load, .int .i64 slope] w (Ret w (.bool (gripHolds f s load slope))) := by
  have hb := gripPull_bd h0 h1 h2 h3
  have CP := Lib.hid (fun w => impl_pullOf load slope w h0 h1 h2 h3)
  unfold gripHolds
  generalize gripPull load slope = p at hb CP ⊢
  have p0 := hb.1
  have p1 := hb.2
  clear hb h0 h1 h2 h3
  have w1 : IntKind.i64.wrap (3 * p) = 3 * p := IntWalk.i64_in _ (by omega)
  rcases hq : decide (3 * p ≤ f) with _ | _
  all_goals (go_enter Try.func61, Try.ntmps61)
  all_goals go_wp2_with fail
  all_goals (refine wp_region_ext (by kernel_rfl) (by kernel_rfl) ?_; have hxe := ext_cells; (repeat (go_big_quiet_step ((go_at_call 73; exact ext_pure (CP.out _))))); refine wpQuiet_nil ?_; intro w' hw'; obtain ⟨nx, hw''⟩ := hw'; have hbx := ext_out hw''; clear hw'' nx hxe; have hB : Below w.heap.size w w' := Below.thenn (by repeat (first | exact Below.refl _ _ | assumption | apply Below.drew | apply below_drewN | (refine Below.alloc ?_ (by first | omega | (simp; done) | (simp; omega)) _) | (refine Below.setCell ?_ (by first | omega | (simp; done) | (simp; omega)) _))) hbx (by first | omega | (simp; done) | (simp; omega)); have hz : w.heap.size ≤ w'.heap.size := hB.size; obtain ⟨hc, hf⟩ := bcell hbx; clear hbx)
  all_goals go_wp2_with fail
  all_goals (go_ret; exact ⟨ret_bool (by first | rfl | (simp [Bool.true_and]; done) | (simp_all; done) | (rw [Bool.eq_iff_iff]; first | (simp [Bool.true_and]; done) | (simp [Bool.true_and]; omega) | (simp [Bool.true_and]; intros; omega) | (simp at *; omega))), (by repeat (first | exact Below.refl _ _ | assumption | apply Below.drew | apply below_drewN | (refine Below.alloc ?_ (by first | omega | (simp; done) | (simp; omega)) _) | (refine Below.setCell ?_ (by first | omega | (simp; done) | (simp; omega)) _)))⟩)
set_option maxHeartbeats 1000000 in
theorem spec_l7Holds (c f s o t load slope : Int) (w : World) (h0 : 0 ≤ load) (h1 : load ≤ 4000) (h2 : 0 ≤ slope) (h3 : slope ≤ 101) :
    Calls Try.prog 59 #[.agg #[.int .i64 c, .int .i64 f, .int .i64 s, .int .i64 o, .int .i64 t], .int .i64 load, .int .i64 slope] w (Ret w (.bool (gripHolds f s load slope))) := by
  have hb := gripPull_bd h0 h1 h2 h3
  have CP := Lib.hid (fun w => spec_l7Pull load slope w h0 h1 h2 h3)
  unfold gripHolds
  generalize gripPull load slope = p at hb CP ⊢
  have p0 := hb.1
  have p1 := hb.2
  clear hb h0 h1 h2 h3
  have w1 : IntKind.i64.wrap (3 * p) = 3 * p := IntWalk.i64_in _ (by omega)
  rcases hq : decide (3 * p ≤ f) with _ | _
  all_goals (go_enter Try.func59, Try.ntmps59)
  all_goals go_wp2_with fail
  all_goals (refine wp_region_ext (by kernel_rfl) (by kernel_rfl) ?_; have hxe := ext_cells; (repeat (go_big_quiet_step ((go_at_call 74; exact ext_pure (CP.out _))))); refine wpQuiet_nil ?_; intro w' hw'; obtain ⟨nx, hw''⟩ := hw'; have hbx := ext_out hw''; clear hw'' nx hxe; have hB : Below w.heap.size w w' := Below.thenn (by repeat (first | exact Below.refl _ _ | assumption | apply Below.drew | apply below_drewN | (refine Below.alloc ?_ (by first | omega | (simp; done) | (simp; omega)) _) | (refine Below.setCell ?_ (by first | omega | (simp; done) | (simp; omega)) _))) hbx (by first | omega | (simp; done) | (simp; omega)); have hz : w.heap.size ≤ w'.heap.size := hB.size; obtain ⟨hc, hf⟩ := bcell hbx; clear hbx)
  all_goals go_wp2_with fail
  all_goals (go_ret; exact ⟨ret_bool (by first | rfl | (simp [Bool.true_and]; done) | (simp_all; done) | (rw [Bool.eq_iff_iff]; first | (simp [Bool.true_and]; done) | (simp [Bool.true_and]; omega) | (simp [Bool.true_and]; intros; omega) | (simp at *; omega))), (by repeat (first | exact Below.refl _ _ | assumption | apply Below.drew | apply below_drewN | (refine Below.alloc ?_ (by first | omega | (simp; done) | (simp; omega)) _) | (refine Below.setCell ?_ (by first | omega | (simp; done) | (simp; omega)) _)))⟩)
end Go.Proofs.Ytfnpbmndkbaodaa
