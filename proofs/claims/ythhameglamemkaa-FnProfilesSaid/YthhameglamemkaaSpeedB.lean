/- The speed profiles: ways, differences, the shortest profile. -/
import Derived.Test.YthhameglamemkaaSpeed
namespace Go.Proofs.Ythhameglamemkaa
open Go.RowKit
set_option linter.unusedVariables false
set_option linter.unusedSimpArgs false

theorem prof_bd {xs : List Int} (h : prof xs = true) : ∀ z ∈ xs, 0 ≤ z ∧ z ≤ 1000000000 := fun z hz => by have := prof_mem h z hz; omega
def dwR (xs : List Int) : Int := if prof xs then dw xs else 0
theorem spec_DoubleWay (A : Option Addr) (n c : Nat) (xs : List Int) (w : World) (h : Rd w 1 A n (IV xs)) (hm : n ≤ 9223372036854775807) :
    Calls Try.prog 18 #[.slice A n c] w (Quiet w (.tuple #[.int .i64 (dwR xs), .bool (prof xs)])) := by
  have hl := Lib.hid h.len
  rcases hp : prof xs with _ | _
  · rw [show dwR xs = 0 by simp [dwR, hp]]
    go_enter Try.func18, Try.ntmps18
    go_wp2_with (go_at_call 46; refine (spec_l9Good _ _ _ _ _ h hm).mono ?_; rintro e w' ⟨rfl, rfl⟩)
    go_ret2
    exact ⟨rfl, 0, rfl⟩
  · have h1 := prof_len hp
    have h2 := Lib.hid (prof_bd hp)
    rw [h.len] at h1
    rw [show dwR xs = dw xs by simp [dwR, hp]]
    go_enter Try.func18, Try.ntmps18
    go_wp2_with (first | (go_at_call 46; refine (spec_l9Good _ _ _ _ _ h hm).mono ?_; rintro e w' ⟨rfl, rfl⟩) | (go_at_call 48; refine (spec_l9Way _ _ _ _ _ h (by omega) h2.out).mono ?_; rintro e w' ⟨rfl, nq, rfl⟩))
    go_ret2
    exact ⟨rfl, _, rfl⟩
theorem impl_DoubleWay (A : Option Addr) (n c : Nat) (xs : List Int) (w : World) (h : Rd w 1 A n (IV xs)) (hm : n ≤ 9223372036854775807) :
    Calls Try.prog 19 #[.slice A n c] w (Quiet w (.tuple #[.int .i64 (dwR xs), .bool (prof xs)])) := by
  have hl := Lib.hid h.len
  rcases hp : prof xs with _ | _
  · rw [show dwR xs = 0 by simp [dwR, hp]]
    go_enter Try.func19, Try.ntmps19
    go_wp2_with (go_at_call 16; refine (impl_IsProfile _ _ _ _ _ h hm).mono ?_; rintro e w' ⟨rfl, rfl⟩)
    go_ret2
    exact ⟨rfl, 0, rfl⟩
  · have h1 := prof_len hp
    have h2 := Lib.hid (prof_bd hp)
    rw [h.len] at h1
    rw [show dwR xs = dw xs by simp [dwR, hp]]
    go_enter Try.func19, Try.ntmps19
    go_wp2_with (first | (go_at_call 16; refine (impl_IsProfile _ _ _ _ _ h hm).mono ?_; rintro e w' ⟨rfl, rfl⟩) | (go_at_call 49; refine (impl_doubleWay _ _ _ _ _ h (by omega) h2.out).mono ?_; rintro e w' ⟨rfl, nq, rfl⟩))
    go_ret2
    exact ⟨rfl, _, rfl⟩

set_option maxHeartbeats 1000000 in
theorem spec_l9Keeps (A : Option Addr) (n c : Nat) (xs : List Int) (a : Int) (w : World) (h : Rd w 1 A n (IV xs)) (hm : n ≤ 100000) (h1 : 1 ≤ n) (hx : ∀ z ∈ xs, 0 ≤ z ∧ z ≤ 1000000) (ha0 : 0 ≤ a) (ha1 : a ≤ 1000000) :
    Calls Try.prog 51 #[.slice A n c, .int .i64 a] w (Quiet w (.bool (keeps xs a))) := by
  have hl := Lib.hid h.len
  have HM := Lib.hid hx
  clear hx
  go_enter Try.func51, Try.ntmps51
  go_wp2
  go_loopg [5] n (fun g i wr => ∃ k m : Nat, ∃ p : Int, 1 ≤ k ∧ k ≤ n ∧ n ≤ k + g ∧ i = .int .i64 k ∧ w.drewN m = wr ∧ Hid (xs[k - 1]? = some p ∧ keepsF a p (xs.drop k) = keeps xs a))
  case atStart =>
    obtain ⟨b, off, x, _, hx0, _⟩ := h.at1 (k := 0) (by omega)
    refine ⟨1, 0, x, by omega, by omega, by omega, rfl, rfl, hx0, ?_⟩
    have := drop_at hx0
    simp at this
    rw [this]
    simp [keeps]
  case round =>
    obtain ⟨k, m, p, hk0, hk1, hk2, rfl, rfl, hp⟩ := hrel
    by_cases hlt : k < n
    · obtain ⟨b, off, x, rfl, hx, hc⟩ := h.at1 hlt
      obtain ⟨b', off', p', e, hp', hcp⟩ := h.at1 (k := k - 1) (by omega)
      injection e with e
      injection e with e1 e2
      subst e1 e2
      have ep : p' = p := by have := hp.out.1; rw [hp'] at this; injection this
      subst ep
      have hbx := HM.out x (mem_at hx)
      have hbp := HM.out p' (mem_at hp')
      have h1 := hbx.1
      have h2 := hbx.2
      have h3 := hbp.1
      have h4 := hbp.2
      have HX := Lib.hid hx
      have w1 : IntKind.i64.wrap (↑k - 1) = ↑k - 1 := IntWalk.i64_in _ (by omega)
      have w2 : (0 : Int) ≤ ↑k - 1 := by omega
      have w3 : ((k : Int) - 1).toNat = k - 1 := by omega
      have w4 : IntKind.i64.wrap (x - p') = x - p' := IntWalk.i64_in _ (by omega)
      have w5 : IntKind.i64.wrap (-a) = -a := IntWalk.i64_in _ (by omega)
      have w6 : (k : Int) - 1 < n := by omega
      clear hx hp' hbx hbp
      rcases ht : inr (x - p') (-a) a with _ | _
      · have HT := Lib.hid ht
        go_wp2_with fail
        go_quiet ((go_at_call 61; exact quiet_add_left (spec_l1In _ _ _ _)))
        go_wp2_with fail
        go_ret
        refine ⟨ret_bool ?_, _, World.drewN_drewN _ _ _⟩
        have h5 := hp.out.2
        rw [drop_at HX.out] at h5
        simp only [keepsF, HT.out] at h5
        simpa using h5
      · have HT := Lib.hid ht
        go_wp2_with fail
        go_quiet ((go_at_call 61; exact quiet_add_left (spec_l1In _ _ _ _)))
        go_wp2_with fail
        go_roundg (n - (k + 1))
        case measure => omega
        case rel =>
          refine ⟨k + 1, _, x, by omega, by omega, by omega, by go_num, rfl, HX.out, ?_⟩
          have h5 := hp.out.2
          rw [drop_at HX.out] at h5
          simp only [keepsF, HT.out] at h5
          simpa using h5
    · go_wp2_with fail
      go_ret
      have h5 := hp.out.2
      rw [drop_end (by rw [hl.out]; omega)] at h5
      exact ⟨ret_bool (by simpa [keepsF] using h5), _, rfl⟩
theorem spec_DoesKeep (A : Option Addr) (n c : Nat) (xs : List Int) (a : Int) (w : World) (h : Rd w 1 A n (IV xs)) (hm : n ≤ 9223372036854775807) :
    Calls Try.prog 20 #[.slice A n c, .int .i64 a] w (Quiet w (.tuple #[.bool (prof xs && inr a 1 20 && keeps xs a), .bool (prof xs && inr a 1 20)])) := by
  have hl := Lib.hid h.len
  rcases hp : prof xs with _ | _
  · go_enter Try.func20, Try.ntmps20
    go_wp2_with (first | (go_at_call 46; refine (spec_l9Good _ _ _ _ _ h hm).mono ?_; rintro e w' ⟨rfl, rfl⟩) | (go_at_call 50; refine (spec_l9Rate _ _).mono ?_; rintro e w' ⟨rfl, rfl⟩))
    go_ret2
    exact ⟨rfl, 0, rfl⟩
  · have h1 := prof_len hp
    have h2 := Lib.hid (prof_mem hp)
    rw [h.len] at h1
    rcases hr : inr a 1 20 with _ | _
    · go_enter Try.func20, Try.ntmps20
      go_wp2_with (first | (go_at_call 46; refine (spec_l9Good _ _ _ _ _ h hm).mono ?_; rintro e w' ⟨rfl, rfl⟩) | (go_at_call 50; refine (spec_l9Rate _ _).mono ?_; rintro e w' ⟨rfl, rfl⟩))
      go_ret2
      exact ⟨rfl, 0, rfl⟩
    · have h3 : 1 ≤ a ∧ a ≤ 20 := by simpa [inr] using hr
      go_enter Try.func20, Try.ntmps20
      go_wp2_with (first | (go_at_call 46; refine (spec_l9Good _ _ _ _ _ h hm).mono ?_; rintro e w' ⟨rfl, rfl⟩) | (go_at_call 50; refine (spec_l9Rate _ _).mono ?_; rintro e w' ⟨rfl, rfl⟩) | (go_at_call 51; refine (spec_l9Keeps _ _ _ _ _ _ h (by omega) (by omega) (fun z hz => by have := h2.out z hz; omega) (by omega) (by omega)).mono ?_; rintro e w' ⟨rfl, nq, rfl⟩))
      go_ret2
      exact ⟨ret_bb (by simp) rfl, _, rfl⟩
def dst (a b : Int) : Int := max (a - b) (b - a)
theorem impl_distance (a b : Int) (w : World) (h1 : -4000000000000000000 ≤ a) (h2 : a ≤ 4000000000000000000) (h3 : -4000000000000000000 ≤ b) (h4 : b ≤ 4000000000000000000) :
    Calls Try.prog 53 #[.int .i64 a, .int .i64 b] w fun e w' => e = .returned (.int .i64 (dst a b)) ∧ w = w' := by
  go_enter Try.func53, Try.ntmps53
  go_wp2
  all_goals (go_ret; exact ⟨ret_int (by unfold dst; omega), rfl⟩)
theorem dst_inr {x p a : Int} : inr (x - p) (-a) a = !decide (a < dst x p) := by
  have h : a < dst x p ↔ ¬ (-a ≤ x - p ∧ x - p ≤ a) := by unfold dst; omega
  unfold inr
  by_cases h1 : -a ≤ x - p ∧ x - p ≤ a
  · simp [h, h1]
  · simp [h, h1]
set_option maxHeartbeats 1000000 in
theorem impl_DoesKeep (A : Option Addr) (n c : Nat) (xs : List Int) (a : Int) (w : World) (h : Rd w 1 A n (IV xs)) (hm : n ≤ 9223372036854775807) :
    Calls Try.prog 21 #[.slice A n c, .int .i64 a] w (Quiet w (.tuple #[.bool (prof xs && inr a 1 20 && keeps xs a), .bool (prof xs && inr a 1 20)])) := by
  have hl := Lib.hid h.len
  rcases hp : prof xs with _ | _
  · go_enter Try.func21, Try.ntmps21
    go_wp2_with (first | (go_at_call 16; refine (impl_IsProfile _ _ _ _ _ h hm).mono ?_; rintro e w' ⟨rfl, rfl⟩) | (go_at_call 52; refine (impl_isAcceleration _ _).mono ?_; rintro e w' ⟨rfl, rfl⟩))
    go_ret2
    exact ⟨rfl, 0, rfl⟩
  · have h1 := prof_len hp
    have HM := Lib.hid (prof_mem hp)
    rw [h.len] at h1
    rcases hr : inr a 1 20 with _ | _
    · go_enter Try.func21, Try.ntmps21
      go_wp2_with (first | (go_at_call 16; refine (impl_IsProfile _ _ _ _ _ h hm).mono ?_; rintro e w' ⟨rfl, rfl⟩) | (go_at_call 52; refine (impl_isAcceleration _ _).mono ?_; rintro e w' ⟨rfl, rfl⟩))
      go_ret2
      exact ⟨rfl, 0, rfl⟩
    · have h3 : 1 ≤ a ∧ a ≤ 20 := by simpa [inr] using hr
      go_enter Try.func21, Try.ntmps21
      go_wp2_with (first | (go_at_call 16; refine (impl_IsProfile _ _ _ _ _ h hm).mono ?_; rintro e w' ⟨rfl, rfl⟩) | (go_at_call 52; refine (impl_isAcceleration _ _).mono ?_; rintro e w' ⟨rfl, rfl⟩))
      go_loopg [6] n (fun g i wr => ∃ k m : Nat, ∃ p : Int, 1 ≤ k ∧ k ≤ n ∧ n ≤ k + g ∧ i = .int .i64 k ∧ w.drewN m = wr ∧ Hid (xs[k - 1]? = some p ∧ keepsF a p (xs.drop k) = keeps xs a))
      case atStart =>
        obtain ⟨b, off, x, _, hx0, _⟩ := h.at1 (k := 0) (by omega)
        refine ⟨1, 0, x, by omega, by omega, by omega, rfl, rfl, hx0, ?_⟩
        have := drop_at hx0
        simp at this
        rw [this]
        simp [keeps]
      case round =>
        obtain ⟨k, m, p, hk0, hk1, hk2, rfl, rfl, hp⟩ := hrel
        by_cases hlt : k < n
        · obtain ⟨b, off, x, rfl, hx, hc⟩ := h.at1 hlt
          obtain ⟨b', off', p', e, hp', hcp⟩ := h.at1 (k := k - 1) (by omega)
          injection e with e
          injection e with e1 e2
          subst e1 e2
          have ep : p' = p := by have := hp.out.1; rw [hp'] at this; injection this
          subst ep
          have hbx := HM.out x (mem_at hx)
          have hbp := HM.out p' (mem_at hp')
          have h1 := hbx.1
          have h2 := hbx.2
          have h3 := hbp.1
          have h4 := hbp.2
          have HX := Lib.hid hx
          have w1 : IntKind.i64.wrap (↑k - 1) = ↑k - 1 := IntWalk.i64_in _ (by omega)
          have w2 : (0 : Int) ≤ ↑k - 1 := by omega
          have w3 : ((k : Int) - 1).toNat = k - 1 := by omega
          have w6 : (k : Int) - 1 < n := by omega
          clear hx hp' hbx hbp
          rcases ht : decide (a < dst x p') with _ | _
          · have HT := Lib.hid ht
            go_wp2_with fail
            go_quiet ((go_at_call 53; exact quiet_add_left (impl_distance _ _ _ (by omega) (by omega) (by omega) (by omega))))
            go_wp2_with fail
            go_roundg (n - (k + 1))
            case measure => omega
            case rel =>
              refine ⟨k + 1, _, x, by omega, by omega, by omega, by go_num, rfl, HX.out, ?_⟩
              have h5 := hp.out.2
              rw [drop_at HX.out] at h5
              simp only [keepsF, dst_inr, HT.out] at h5
              simpa using h5
          · have HT := Lib.hid ht
            go_wp2_with fail
            go_quiet ((go_at_call 53; exact quiet_add_left (impl_distance _ _ _ (by omega) (by omega) (by omega) (by omega))))
            go_wp2_with fail
            go_ret2
            refine ⟨ret_bb ?_ rfl, _, World.drewN_drewN _ _ _⟩
            have h5 := hp.out.2
            rw [drop_at HX.out] at h5
            simp only [keepsF, dst_inr, HT.out] at h5
            simpa using h5
        · go_wp2_with fail
          go_ret2
          have h5 := hp.out.2
          rw [drop_end (by rw [hl.out]; omega)] at h5
          exact ⟨ret_bb (by simpa [keepsF] using h5) rfl, _, rfl⟩
end Go.Proofs.Ythhameglamemkaa
