/- The circle: the seconds for the ring. -/
import Derived.Test.YtidjgbonlejhhaaCircD
namespace Go.Proofs.Ytidjgbonlejhhaa
open Go.RowKit
set_option linter.unusedVariables false
set_option linter.unusedSimpArgs false

def gcdZ (a b : Int) : Int := (Nat.gcd a.toNat b.toNat : Nat)
theorem gcdZ_pos {a b : Int} (h : 0 < a) : 0 < gcdZ a b := by
  have : 0 < Nat.gcd a.toNat b.toNat := Nat.gcd_pos_of_pos_left _ (by omega)
  unfold gcdZ; omega
theorem gcdZ_le {a b : Int} (h : 0 < a) : gcdZ a b ≤ a := by
  have : Nat.gcd a.toNat b.toNat ≤ a.toNat := Nat.gcd_le_left _ (by omega)
  unfold gcdZ; omega
theorem gcd_step {m k G : Nat} (h : Nat.gcd m k = G) : Nat.gcd k (m % k) = G := by rw [← h, Nat.gcd_comm m k, Nat.gcd_rec k m, Nat.gcd_comm]
set_option maxHeartbeats 1000000 in
theorem impl_divisor (a b : Int) (w : World) (ha : 0 < a) (ha' : a ≤ 40000) (hb : 0 < b) (hb' : b ≤ 40000) :
    Calls Try.prog 75 #[.int .i64 a, .int .i64 b] w fun e w' => e = .returned (.int .i64 (gcdZ a b)) ∧ ∃ m, w' = w.drewN m := by
  have hp := gcdZ_pos (b := b) ha
  have hq := gcdZ_le (b := b) ha
  have HG : Hid (Nat.gcd a.toNat b.toNat = (gcdZ a b).toNat) := (show _ = _ by unfold gcdZ; omega)
  generalize gcdZ a b = G at hp hq HG ⊢
  go_enter Try.func75, Try.ntmps75
  go_wp2
  go_loopg [0, 1] b.toNat (fun g p q wr => ∃ (m k r : Nat), p = .int .i64 m ∧ q = .int .i64 k ∧ m ≤ 40000 ∧ k ≤ 40000 ∧ k ≤ g ∧ w.drewN r = wr ∧ Hid (Nat.gcd m k = G.toNat))
  case atStart => exact ⟨a.toNat, b.toNat, 0, by rw [Int.toNat_of_nonneg (by omega)], by rw [Int.toNat_of_nonneg (by omega)], by omega, by omega, by omega, rfl, HG.out⟩
  case round =>
    obtain ⟨m, k, r, rfl, rfl, hm, hk4, hk, rfl, hv⟩ := hrel
    by_cases hk0 : k = 0
    · have hmG : (m : Int) = G := by
        have h1 := hv.out
        rw [hk0, Nat.gcd_zero_right] at h1
        omega
      subst hk0
      have hm0 : 0 < (m : Int) := by omega
      go_wp2_with fail
      all_goals go_ret
      all_goals exact ⟨ret_int (by omega), _, rfl⟩
    · have hkb : ((k : Int) != 0) = true := by simp; omega
      have hk1 : 0 < (k : Int) := by omega
      have hk2 : ¬ ((k : Int) = 0) := by omega
      have hr0 := Int.emod_nonneg (m : Int) hk2
      have hr1 := Int.emod_lt_of_pos (m : Int) hk1
      have hmod : (m : Int).tmod (k : Int) = (m : Int) % (k : Int) := Int.tmod_eq_emod_of_nonneg (by omega)
      have hml : m % k < k := Nat.mod_lt _ (by omega)
      have hmle : m % k ≤ m := Nat.mod_le _ _
      have HS := Lib.hid (gcd_step hv.out)
      clear hk0
      go_wp2_with fail
      go_quiet (fail)
      go_wp2_with fail
      go_roundg (m % k)
      case measure => omega
      case rel => exact ⟨k, m % k, _, rfl, congrArg (Value.int .i64) (Int.natCast_emod m k).symm, by omega, by omega, by omega, (World.drewN_drewN _ _ _).symm, HS.out⟩
theorem ret_pair {x y x' y' : Int} (h : x = x') (h' : y = y') : Ending.returned (.tuple #[.int .i64 x, .int .i64 y]) = .returned (.tuple #[.int .i64 x', .int .i64 y']) := by rw [h, h']
set_option maxHeartbeats 1000000 in
theorem spec_l2Reduce (a b : Int) (w : World) (ha : 0 < a) (ha' : a ≤ 40000) (hb : 0 < b) (hb' : b ≤ 40000) :
    Calls Try.prog 57 #[.int .i64 a, .int .i64 b] w (Ret w (.tuple #[.int .i64 (a / gcdZ a b), .int .i64 (b / gcdZ a b)])) := by
  have hp := gcdZ_pos (b := b) ha
  have hq := gcdZ_le (b := b) ha
  have HG : Hid (Nat.gcd a.toNat b.toNat = (gcdZ a b).toNat) := (show _ = _ by unfold gcdZ; omega)
  generalize gcdZ a b = G at hp hq HG ⊢
  have hd1 : a.tdiv G = a / G := Int.tdiv_eq_ediv_of_nonneg (by omega)
  have hd2 : b.tdiv G = b / G := Int.tdiv_eq_ediv_of_nonneg (by omega)
  have hq1 : 0 ≤ a / G := Int.ediv_nonneg (by omega) (by omega)
  have hq2 : 0 ≤ b / G := Int.ediv_nonneg (by omega) (by omega)
  have hq3 : a / G ≤ a := Int.ediv_le_self _ (by omega)
  have hq4 : b / G ≤ b := Int.ediv_le_self _ (by omega)
  have w1 : IntKind.i64.wrap (a / G) = a / G := IntWalk.i64_in _ (by omega)
  have w2 : IntKind.i64.wrap (b / G) = b / G := IntWalk.i64_in _ (by omega)
  have hG0 : ¬ (G = 0) := by omega
  have hma : max a (-a) = a := by omega
  have CM := Lib.hid (fun w => hma ▸ spec_l1Most a (-a) w)
  clear hma hq1 hq2 hq3 hq4
  go_enter Try.func57, Try.ntmps57
  go_wp2_with (go_at_call 59; refine (CM.out _).mono ?_; rintro e w' ⟨rfl, rfl⟩)
  go_loopg [6, 7] b.toNat (fun g p q wr => ∃ (m k : Nat), p = .int .i64 m ∧ q = .int .i64 k ∧ m ≤ 40000 ∧ k ≤ 40000 ∧ k ≤ g ∧ w = wr ∧ Hid (Nat.gcd m k = G.toNat))
  case atStart => exact ⟨a.toNat, b.toNat, by rw [Int.toNat_of_nonneg (by omega)], by rw [Int.toNat_of_nonneg (by omega)], by omega, by omega, by omega, rfl, HG.out⟩
  case round =>
    obtain ⟨m, k, rfl, rfl, hm, hk4, hk, rfl, hv⟩ := hrel
    by_cases hk0 : k = 0
    · have hmG : m = G.toNat := by
        have h1 := hv.out
        rw [hk0, Nat.gcd_zero_right] at h1
        omega
      have hmi : (m : Int) = G := by omega
      subst hk0
      clear hmG
      have hd1' : a.tdiv (m : Int) = a / G := by rw [hmi]; exact hd1
      have hd2' : b.tdiv (m : Int) = b / G := by rw [hmi]; exact hd2
      have hm0 : ¬ ((m : Int) = 0) := by omega
      clear hmi
      go_wp2_with fail
      go_quiet (fail)
      go_wp2_with fail
      go_ret2
      exact ⟨rfl, below_n _ _⟩
    · have hkb : ((k : Int) != 0) = true := by simp; omega
      have hk1 : 0 < (k : Int) := by omega
      have hk2 : ¬ ((k : Int) = 0) := by omega
      have hr0 := Int.emod_nonneg (m : Int) hk2
      have hr1 := Int.emod_lt_of_pos (m : Int) hk1
      have hmod : (m : Int).tmod (k : Int) = (m : Int) % (k : Int) := Int.tmod_eq_emod_of_nonneg (by omega)
      have hml : m % k < k := Nat.mod_lt _ (by omega)
      have hmle : m % k ≤ m := Nat.mod_le _ _
      have HS := Lib.hid (gcd_step hv.out)
      clear hk0 hd1 hd2
      go_wp2_with fail
      go_roundg (m % k)
      case measure => omega
      case rel => exact ⟨k, m % k, rfl, congrArg (Value.int .i64) (Int.natCast_emod m k).symm, by omega, by omega, by omega, rfl, HS.out⟩
end Go.Proofs.Ytidjgbonlejhhaa
