/- The smoothed profile. -/
import Derived.Test.YthhameglamemkaaSpeedC
import Derived.StillTailTactics
import Derived.BigRegion
namespace Go.Proofs.Ythhameglamemkaa
open Go.RowKit
set_option linter.unusedVariables false
set_option linter.unusedSimpArgs false

def sm : Int → List Int → List Int
  | p, x :: y :: r => (p + x + y) / 3 :: sm x (y :: r)
  | _, l => l
def smooth (xs : List Int) : List Int := match xs with | [] => [] | x :: r => x :: sm x r
theorem sm_short {p : Int} {l : List Int} (h : l.length ≤ 1) : sm p l = l := by
  match l, h with
  | [], _ => rfl
  | [x], _ => rfl
theorem sm_len : ∀ (p : Int) (l : List Int), (sm p l).length = l.length
  | p, [] => rfl
  | p, [x] => rfl
  | p, x :: y :: r => by simp [sm, sm_len x (y :: r)]
theorem smooth_len (xs : List Int) : (smooth xs).length = xs.length := by
  cases xs <;> simp [smooth, sm_len]
def smoothR (xs : List Int) : List Int := if prof xs then smooth xs else []
theorem smoothR_len (xs : List Int) (h : xs.length ≤ 1048576) : (smoothR xs).length ≤ 1048576 := by
  unfold smoothR
  split
  · rw [smooth_len]; exact h
  · simp

set_option maxHeartbeats 2000000 in
theorem spec_SmoothProfile (A : Option Addr) (n c : Nat) (xs : List Int) (w : World) (h : Rd w 1 A n (IV xs)) (hm : n ≤ 9223372036854775807) :
    Calls Try.prog 28 #[.slice A n c] w (RetSB w (smoothR xs) (prof xs)) := by
  have hl := Lib.hid h.len
  rcases hp : prof xs with _ | _
  · rw [show smoothR xs = [] by simp [smoothR, hp]]
    go_enter Try.func28, Try.ntmps28
    go_wp2_with (go_at_call 46; refine (spec_l9Good _ _ _ _ _ h hm).mono ?_; rintro e w' ⟨rfl, rfl⟩)
    go_ret2
    exact RetSB.lit
  · have h1 := prof_len hp
    have HM := Lib.hid (prof_mem hp)
    rw [h.len] at h1
    rw [show smoothR xs = smooth xs by simp [smoothR, hp]]
    go_enter Try.func28, Try.ntmps28
    go_wp2_with (go_at_call 46; refine (spec_l9Good _ _ _ _ _ h hm).mono ?_; rintro e w' ⟨rfl, rfl⟩)
    refine (spec_l1Own _ _ _ xs _ h (by omega)).mono ?_
    rintro e w1 ⟨A1, c1, rfl, ho1, hb1⟩
    rw [hl.out] at ho1 ⊢
    go_wp2_with fail
    go_loopg [5] n (fun g i wr => ∃ k : Nat, 1 ≤ k ∧ k ≤ n ∧ n ≤ k + g ∧ i = .int .i64 k ∧ Hid (∃ (p : Int) (ts : List Int), xs[k - 1]? = some p ∧ ts.length = k ∧ ts ++ sm p (xs.drop k) = smooth xs ∧ Ow wr w.heap.size (.slice A1 n c1) (ts ++ xs.drop k) ∧ Below w.heap.size w wr))
    case atStart =>
      obtain ⟨b, off, x, _, hx0, _⟩ := h.at1 (k := 0) (by omega)
      have e := drop_at hx0
      simp at e
      refine ⟨1, by omega, by omega, by omega, rfl, x, [x], hx0, rfl, ?_, ?_, hb1⟩
      · rw [e]; simp [smooth]
      · rw [e] at ho1; simpa using ho1
    case round =>
      obtain ⟨k, hk0, hk1, hk2, rfl, hh⟩ := hrel
      by_cases hlt : k + 1 < n
      · obtain ⟨p, ts, hp1, hts, hsm, hown, hB⟩ := hh.out
        have hr := h.below hB
        obtain ⟨b, off, x, rfl, hx, hc⟩ := hr.at1 (k := k) (by omega)
        obtain ⟨b', off', p', e, hp', hcp⟩ := hr.at1 (k := k - 1) (by omega)
        injection e with e
        injection e with e1 e2
        subst e1 e2
        obtain ⟨b', off', y, e, hy, hcy⟩ := hr.at1 (k := k + 1) (by omega)
        injection e with e
        injection e with e1 e2
        subst e1 e2
        have ep : p' = p := by rw [hp'] at hp1; injection hp1
        subst ep
        obtain ⟨g, z, rfl, hg, hz, hcz, hfz, hst⟩ := hown.store (k := k) (by omega)
        have hbx := HM.out x (mem_at hx)
        have hbp := HM.out p' (mem_at hp')
        have hby := HM.out y (mem_at hy)
        have b1 := hbx.1
        have b2 := hbx.2
        have b3 := hbp.1
        have b4 := hbp.2
        have b5 := hby.1
        have b6 := hby.2
        have HX := Lib.hid hx
        have HY := Lib.hid hy
        have HST := Lib.hid hst
        have HSM := Lib.hid hsm
        have HTS := Lib.hid hts
        have w1 : IntKind.i64.wrap (↑k - 1) = ↑k - 1 := IntWalk.i64_in _ (by omega)
        have w1' : IntKind.i64.wrap (↑k + 1) = ↑k + 1 := IntWalk.i64_in _ (by omega)
        have w2 : (0 : Int) ≤ ↑k - 1 := by omega
        have w2' : (0 : Int) ≤ ↑k + 1 := by omega
        have w3 : ((k : Int) - 1).toNat = k - 1 := by omega
        have w3' : ((k : Int) + 1).toNat = k + 1 := by omega
        have w4 : IntKind.i64.wrap (p' + x) = p' + x := IntWalk.i64_in _ (by omega)
        have w5 : IntKind.i64.wrap (p' + x + y) = p' + x + y := IntWalk.i64_in _ (by omega)
        have w6 : (k : Int) - 1 < n := by omega
        have w6' : (k : Int) + 1 < n := by omega
        have w7 : (p' + x + y).tdiv 3 = (p' + x + y) / 3 := Int.tdiv_eq_ediv_of_nonneg (by omega)
        have w8 : IntKind.i64.wrap ((p' + x + y) / 3) = (p' + x + y) / 3 := IntWalk.i64_in _ (by omega)
        clear hx hp' hy hst hbx hbp hby hz hp1 hsm hts hown hh hp
        go_wp2_with fail
        go_region
        go_wp2_with fail
        go_roundg (n - (k + 1))
        case measure => omega
        case rel =>
          refine ⟨k + 1, by omega, by omega, by omega, by go_num, x, ts ++ [(p' + x + y) / 3], HX.out, by simp [HTS.out], ?_, ?_, ?_⟩
          · rw [← HSM.out, drop_at HX.out, drop_at HY.out]; simp [sm]
          · have h5 := (HST.out ((p' + x + y) / 3)).1
            have e5 : (ts ++ xs.drop k).set k ((p' + x + y) / 3) = ts ++ [(p' + x + y) / 3] ++ xs.drop (k + 1) := by
              rw [List.set_append, if_neg (by have := HTS.out; omega), drop_at HX.out, HTS.out, Nat.sub_self, List.set_cons_zero]
              simp
            rw [e5] at h5
            exact h5
          · exact (hB.setCell (p := ⟨g, k, none⟩) hg _).drew
      · obtain ⟨p, ts, hp1, hts, hsm, hown, hB⟩ := hh.out
        go_wp2_with fail
        go_ret2
        have e5 : ts ++ xs.drop k = smooth xs := by
          rw [← hsm, sm_short (by rw [List.length_drop, hl.out]; omega)]
        rw [e5] at hown
        have e6 := hown.len
        exact ⟨A1, c1, ret_ssb e6.symm, by rw [e6]; exact hown, hB⟩
set_option maxHeartbeats 2000000 in
theorem impl_SmoothProfile (A : Option Addr) (n c : Nat) (xs : List Int) (w : World) (h : Rd w 1 A n (IV xs)) (hm : n ≤ 9223372036854775807) (hA : A = none → c = 0 ∧ n = 0) :
    Calls Try.prog 29 #[.slice A n c] w (RetSB w (smoothR xs) (prof xs)) := by
  have hl := Lib.hid h.len
  have HA := Lib.hid hA
  clear hA
  rcases hp : prof xs with _ | _
  · rw [show smoothR xs = [] by simp [smoothR, hp]]
    go_enter Try.func29, Try.ntmps29
    go_wp2_with (go_at_call 16; refine (impl_IsProfile _ _ _ _ _ h hm).mono ?_; rintro e w' ⟨rfl, rfl⟩)
    go_ret2
    exact RetSB.nil (Below.refl _ _)
  · have h1 := prof_len hp
    have HM := Lib.hid (prof_mem hp)
    rw [h.len] at h1
    rw [show smoothR xs = smooth xs by simp [smoothR, hp]]
    go_enter Try.func29, Try.ntmps29
    go_wp2_with (go_at_call 16; refine (impl_IsProfile _ _ _ _ _ h hm).mono ?_; rintro e w' ⟨rfl, rfl⟩)
    refine (slices_Clone _ _ _ xs _ h (by omega) HA.out).mono ?_
    rintro e w1 ⟨A1, c1, rfl, ho1, hb1⟩
    rw [hl.out] at ho1 ⊢
    go_wp2_with fail
    go_loopg [5] n (fun g i wr => ∃ k : Nat, 1 ≤ k ∧ k ≤ n ∧ n ≤ k + g ∧ i = .int .i64 k ∧ Hid (∃ (p : Int) (ts : List Int), xs[k - 1]? = some p ∧ ts.length = k ∧ ts ++ sm p (xs.drop k) = smooth xs ∧ Ow wr w.heap.size (.slice A1 n c1) (ts ++ xs.drop k) ∧ Below w.heap.size w wr))
    case atStart =>
      obtain ⟨b, off, x, _, hx0, _⟩ := h.at1 (k := 0) (by omega)
      have e := drop_at hx0
      simp at e
      refine ⟨1, by omega, by omega, by omega, rfl, x, [x], hx0, rfl, ?_, ?_, hb1⟩
      · rw [e]; simp [smooth]
      · rw [e] at ho1; simpa using ho1
    case round =>
      obtain ⟨k, hk0, hk1, hk2, rfl, hh⟩ := hrel
      by_cases hlt : k + 1 < n
      · obtain ⟨p, ts, hp1, hts, hsm, hown, hB⟩ := hh.out
        have hr := h.below hB
        obtain ⟨b, off, x, rfl, hx, hc⟩ := hr.at1 (k := k) (by omega)
        obtain ⟨b', off', p', e, hp', hcp⟩ := hr.at1 (k := k - 1) (by omega)
        injection e with e
        injection e with e1 e2
        subst e1 e2
        obtain ⟨b', off', y, e, hy, hcy⟩ := hr.at1 (k := k + 1) (by omega)
        injection e with e
        injection e with e1 e2
        subst e1 e2
        have ep : p' = p := by rw [hp'] at hp1; injection hp1
        subst ep
        obtain ⟨g, z, rfl, hg, hz, hcz, hfz, hst⟩ := hown.store (k := k) (by omega)
        have hbx := HM.out x (mem_at hx)
        have hbp := HM.out p' (mem_at hp')
        have hby := HM.out y (mem_at hy)
        have b1 := hbx.1
        have b2 := hbx.2
        have b3 := hbp.1
        have b4 := hbp.2
        have b5 := hby.1
        have b6 := hby.2
        have HX := Lib.hid hx
        have HY := Lib.hid hy
        have HST := Lib.hid hst
        have HSM := Lib.hid hsm
        have HTS := Lib.hid hts
        have w1 : IntKind.i64.wrap (↑k - 1) = ↑k - 1 := IntWalk.i64_in _ (by omega)
        have w1' : IntKind.i64.wrap (↑k + 1) = ↑k + 1 := IntWalk.i64_in _ (by omega)
        have w2 : (0 : Int) ≤ ↑k - 1 := by omega
        have w2' : (0 : Int) ≤ ↑k + 1 := by omega
        have w3 : ((k : Int) - 1).toNat = k - 1 := by omega
        have w3' : ((k : Int) + 1).toNat = k + 1 := by omega
        have w4 : IntKind.i64.wrap (p' + x) = p' + x := IntWalk.i64_in _ (by omega)
        have w5 : IntKind.i64.wrap (p' + x + y) = p' + x + y := IntWalk.i64_in _ (by omega)
        have w6 : (k : Int) - 1 < n := by omega
        have w6' : (k : Int) + 1 < n := by omega
        have w7 : (p' + x + y).tdiv 3 = (p' + x + y) / 3 := Int.tdiv_eq_ediv_of_nonneg (by omega)
        have w8 : IntKind.i64.wrap ((p' + x + y) / 3) = (p' + x + y) / 3 := IntWalk.i64_in _ (by omega)
        clear hx hp' hy hst hbx hbp hby hz hp1 hsm hts hown hh hp
        go_wp2_with fail
        go_region
        go_wp2_with fail
        go_roundg (n - (k + 1))
        case measure => omega
        case rel =>
          refine ⟨k + 1, by omega, by omega, by omega, by go_num, x, ts ++ [(p' + x + y) / 3], HX.out, by simp [HTS.out], ?_, ?_, ?_⟩
          · rw [← HSM.out, drop_at HX.out, drop_at HY.out]; simp [sm]
          · have h5 := (HST.out ((p' + x + y) / 3)).1
            have e5 : (ts ++ xs.drop k).set k ((p' + x + y) / 3) = ts ++ [(p' + x + y) / 3] ++ xs.drop (k + 1) := by
              rw [List.set_append, if_neg (by have := HTS.out; omega), drop_at HX.out, HTS.out, Nat.sub_self, List.set_cons_zero]
              simp
            rw [e5] at h5
            exact h5
          · exact (hB.setCell (p := ⟨g, k, none⟩) hg _).drew
      · obtain ⟨p, ts, hp1, hts, hsm, hown, hB⟩ := hh.out
        go_wp2_with fail
        go_ret2
        have e5 : ts ++ xs.drop k = smooth xs := by
          rw [← hsm, sm_short (by rw [List.length_drop, hl.out]; omega)]
        rw [e5] at hown
        have e6 := hown.len
        exact ⟨A1, c1, ret_ssb e6.symm, by rw [e6]; exact hown, hB⟩
end Go.Proofs.Ythhameglamemkaa
