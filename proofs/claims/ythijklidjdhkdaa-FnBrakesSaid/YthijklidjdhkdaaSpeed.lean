/- AUTO. The speed profiles: what the reference's and the program's functions return. -/
import Derived.Test.YthijklidjdhkdaaBase
namespace Go.Proofs.Ythijklidjdhkdaa
open Go.RowKit
set_option linter.unusedVariables false
set_option linter.unusedSimpArgs false

/-! ### Plain functions -/
def prof (xs : List Int) : Bool := decide (1 ≤ xs.length ∧ xs.length ≤ 30) && xs.all fun z => inr z 0 100
theorem prof_mem {xs : List Int} (h : prof xs = true) : ∀ z ∈ xs, 0 ≤ z ∧ z ≤ 100 := by
  simp only [prof, Bool.and_eq_true, List.all_eq_true, inr, decide_eq_true_eq] at h
  exact h.2
theorem prof_len {xs : List Int} (h : prof xs = true) : 1 ≤ xs.length ∧ xs.length ≤ 30 := by
  simp only [prof, Bool.and_eq_true, decide_eq_true_eq] at h
  exact h.1
/-- Do neighbours keep a difference? p: the element before. -/
def keepsF (a : Int) : Int → List Int → Bool
  | _, [] => true
  | p, x :: r => inr (x - p) (-a) a && keepsF a x r
def keeps (xs : List Int) (a : Int) : Bool := match xs with | [] => true | x :: r => keepsF a x r
/-- The double way. -/
def dwF : Int → List Int → Int
  | _, [] => 0
  | p, x :: r => p + x + dwF x r
def dw (xs : List Int) : Int := match xs with | [] => 0 | x :: r => dwF x r
theorem drop_at {xs : List Int} {k : Nat} {x : Int} (h : xs[k]? = some x) : xs.drop k = x :: xs.drop (k + 1) := by
  obtain ⟨hk, e⟩ := List.getElem?_eq_some_iff.1 h
  rw [List.drop_eq_getElem_cons hk, e]
theorem drop_end {xs : List Int} {k : Nat} (h : xs.length ≤ k) : xs.drop k = [] := List.drop_of_length_le h

theorem spec_l9Speed (v : Int) (w : World) : Calls Try.prog 76 #[.int .i64 v] w fun e w' => e = .returned (.bool (inr v 0 100)) ∧ w = w' := by
  go_enter Try.func76, Try.ntmps76
  go_wp2_with (go_at_call 63; refine (spec_l1In _ _ _ _).mono ?_; rintro e w' ⟨rfl, rfl⟩)
  go_ret
  exact ⟨rfl, rfl⟩
/-- Bounds of a way. -/
theorem dwF_bd {M : Int} (hM : 0 ≤ M) : ∀ (p : Int) (xs : List Int), 0 ≤ p → p ≤ M → (∀ z ∈ xs, 0 ≤ z ∧ z ≤ M) → 0 ≤ dwF p xs ∧ dwF p xs ≤ 2 * M * xs.length
  | _, [], _, _, _ => by simp [dwF]
  | p, x :: r, h1, h2, h => by
    have hx := h x (by simp)
    have ih := dwF_bd hM x r hx.1 hx.2 fun z hz => h z (by simp [hz])
    have e : 2 * M * ((x :: r).length : Int) = 2 * M * (r.length : Int) + 2 * M := by simp [Int.mul_add]
    simp only [dwF]
    omega
theorem mem_at {xs : List Int} {k : Nat} {x : Int} (h : xs[k]? = some x) : x ∈ xs := List.mem_of_getElem? h

set_option maxHeartbeats 1000000 in
theorem spec_l9Way (A : Option Addr) (n c : Nat) (xs : List Int) (w : World) (h : Rd w 1 A n (IV xs)) (hm : n ≤ 100000) (hx : ∀ z ∈ xs, 0 ≤ z ∧ z ≤ 1000000000) :
    Calls Try.prog 77 #[.slice A n c] w (Quiet w (.int .i64 (dw xs))) := by
  have hl := Lib.hid h.len
  have HM := Lib.hid hx
  clear hx
  rcases Nat.eq_zero_or_pos n with h0 | h0
  · subst h0
    have e : xs = [] := List.eq_nil_of_length_eq_zero hl.out
    subst e
    go_enter Try.func77, Try.ntmps77
    go_wp2
    refine wp_loop_rounds 1 ?_
    rw [rounds_succ]
    go_wp2
    go_ret
    exact ⟨rfl, 0, rfl⟩
  · go_enter Try.func77, Try.ntmps77
    go_wp2
    go_loopg [4, 3] n (fun g i s wr => ∃ k m : Nat, ∃ sv p : Int, 1 ≤ k ∧ k ≤ n ∧ n ≤ k + g ∧ 0 ≤ sv ∧ sv ≤ 2000000000 * (k : Int) ∧ i = .int .i64 k ∧ s = .int .i64 sv ∧ w.drewN m = wr ∧ Hid (xs[k - 1]? = some p ∧ sv + dwF p (xs.drop k) = dw xs))
    case atStart =>
      obtain ⟨b, off, x, _, hx0, _⟩ := h.at1 h0
      refine ⟨1, 0, 0, x, by omega, by omega, by omega, by omega, by omega, rfl, rfl, rfl, hx0, ?_⟩
      have := drop_at hx0
      simp at this
      rw [this]
      simp [dw]
    case round =>
      obtain ⟨k, m, sv, p, hk0, hk1, hk2, hs0, hs1, rfl, rfl, rfl, ha⟩ := hrel
      by_cases hlt : k < n
      · obtain ⟨b, off, x, rfl, hx, hc⟩ := h.at1 hlt
        obtain ⟨b', off', p', e, hp, hcp⟩ := h.at1 (k := k - 1) (by omega)
        injection e with e
        injection e with e1 e2
        subst e1 e2
        have ep : p' = p := by have := ha.out.1; rw [hp] at this; injection this
        subst ep
        have hbx := HM.out x (mem_at hx)
        have hbp := HM.out p' (mem_at hp)
        have h1 := hbx.1
        have h2 := hbx.2
        have h3 := hbp.1
        have h4 := hbp.2
        have HX := Lib.hid hx
        have w1 : IntKind.i64.wrap (↑k - 1) = ↑k - 1 := IntWalk.i64_in _ (by omega)
        have w2 : (0 : Int) ≤ ↑k - 1 := by omega
        have w3 : ((k : Int) - 1).toNat = k - 1 := by omega
        have w4 : IntKind.i64.wrap (sv + p') = sv + p' := IntWalk.i64_in _ (by omega)
        have w5 : IntKind.i64.wrap (sv + p' + x) = sv + p' + x := IntWalk.i64_in _ (by omega)
        have w6 : (k : Int) - 1 < n := by omega
        clear hx hp hbx hbp
        go_wp2_with fail
        go_quiet (fail)
        go_wp2_with fail
        go_roundg (n - (k + 1))
        case measure => omega
        case rel =>
          refine ⟨k + 1, _, sv + p' + x, x, by omega, by omega, by omega, by omega, by omega, by go_num, rfl, rfl, HX.out, ?_⟩
          have h5 := ha.out.2
          rw [drop_at HX.out] at h5
          simp only [dwF] at h5
          omega
      · go_wp2_with fail
        go_ret
        have h5 := ha.out.2
        rw [drop_end (by rw [hl.out]; omega)] at h5
        exact ⟨ret_int (by simpa [dwF] using h5), _, rfl⟩
set_option maxHeartbeats 1000000 in
theorem impl_doubleWay (A : Option Addr) (n c : Nat) (xs : List Int) (w : World) (h : Rd w 1 A n (IV xs)) (hm : n ≤ 100000) (hx : ∀ z ∈ xs, 0 ≤ z ∧ z ≤ 1000000000) :
    Calls Try.prog 78 #[.slice A n c] w (Quiet w (.int .i64 (dw xs))) := by
  have hl := Lib.hid h.len
  have HM := Lib.hid hx
  clear hx
  rcases Nat.eq_zero_or_pos n with h0 | h0
  · subst h0
    have e : xs = [] := List.eq_nil_of_length_eq_zero hl.out
    subst e
    go_enter Try.func78, Try.ntmps78
    go_wp2
    refine wp_loop_rounds 1 ?_
    rw [rounds_succ]
    go_wp2
    go_ret
    exact ⟨rfl, 0, rfl⟩
  · go_enter Try.func78, Try.ntmps78
    go_wp2
    go_loopg [4, 3] n (fun g i s wr => ∃ k m : Nat, ∃ sv p : Int, 1 ≤ k ∧ k ≤ n ∧ n ≤ k + g ∧ 0 ≤ sv ∧ sv ≤ 2000000000 * (k : Int) ∧ i = .int .i64 k ∧ s = .int .i64 sv ∧ w.drewN m = wr ∧ Hid (xs[k - 1]? = some p ∧ sv + dwF p (xs.drop k) = dw xs))
    case atStart =>
      obtain ⟨b, off, x, _, hx0, _⟩ := h.at1 h0
      refine ⟨1, 0, 0, x, by omega, by omega, by omega, by omega, by omega, rfl, rfl, rfl, hx0, ?_⟩
      have := drop_at hx0
      simp at this
      rw [this]
      simp [dw]
    case round =>
      obtain ⟨k, m, sv, p, hk0, hk1, hk2, hs0, hs1, rfl, rfl, rfl, ha⟩ := hrel
      by_cases hlt : k < n
      · obtain ⟨b, off, x, rfl, hx, hc⟩ := h.at1 hlt
        obtain ⟨b', off', p', e, hp, hcp⟩ := h.at1 (k := k - 1) (by omega)
        injection e with e
        injection e with e1 e2
        subst e1 e2
        have ep : p' = p := by have := ha.out.1; rw [hp] at this; injection this
        subst ep
        have hbx := HM.out x (mem_at hx)
        have hbp := HM.out p' (mem_at hp)
        have h1 := hbx.1
        have h2 := hbx.2
        have h3 := hbp.1
        have h4 := hbp.2
        have HX := Lib.hid hx
        have w1 : IntKind.i64.wrap (↑k - 1) = ↑k - 1 := IntWalk.i64_in _ (by omega)
        have w2 : (0 : Int) ≤ ↑k - 1 := by omega
        have w3 : ((k : Int) - 1).toNat = k - 1 := by omega
        have w4 : IntKind.i64.wrap (p' + x) = p' + x := IntWalk.i64_in _ (by omega)
        have w5 : IntKind.i64.wrap (sv + (p' + x)) = sv + (p' + x) := IntWalk.i64_in _ (by omega)
        have w6 : (k : Int) - 1 < n := by omega
        clear hx hp hbx hbp
        go_wp2_with fail
        go_quiet (fail)
        go_wp2_with fail
        go_roundg (n - (k + 1))
        case measure => omega
        case rel =>
          refine ⟨k + 1, _, sv + (p' + x), x, by omega, by omega, by omega, by omega, by omega, by go_num, rfl, rfl, HX.out, ?_⟩
          have h5 := ha.out.2
          rw [drop_at HX.out] at h5
          simp only [dwF] at h5
          omega
      · go_wp2_with fail
        go_ret
        have h5 := ha.out.2
        rw [drop_end (by rw [hl.out]; omega)] at h5
        exact ⟨ret_int (by simpa [dwF] using h5), _, rfl⟩
end Go.Proofs.Ythijklidjdhkdaa
