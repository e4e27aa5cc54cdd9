/- The circle: the program's test; the laws' own functions on circles. -/
import Derived.Test.YtidjgbonlejhhaaCircA
namespace Go.Proofs.Ytidjgbonlejhhaa
open Go.RowKit
set_option linter.unusedVariables false
set_option linter.unusedSimpArgs false

theorem spec_IsCircle (l s : Int) (A : Option Addr) (n c : Nat) (zs : List Int) (w : World) (h : Rd w 1 A n (IV zs)) (hm : n ≤ 1048577) :
    Calls Try.prog 15 #[.agg #[.int .i64 l, .int .i64 s, .slice A n c]] w (Ret w (.bool (circOk l s zs))) := by
  have CI := Lib.hid (fun w' (h' : Rd w' 1 A n (IV zs)) => spec_l8Good l s A n c zs w' h' hm)
  generalize circOk l s zs = z at CI ⊢
  go_enter Try.func15, Try.ntmps15
  go_wp2_with (go_at_call 49; refine (CI.out _ (by first | exact h | exact h.below ((Below.refl _ _).alloc (Nat.le_refl _) _))).mono ?_; rintro e w' ⟨rfl, hb⟩; have hB : Below w.heap.size w w' := Below.thenn (by repeat (first | exact Below.refl _ _ | assumption | apply Below.drew | apply below_drewN | (refine Below.alloc ?_ (by first | omega | (simp; done) | (simp; omega)) _) | (refine Below.setCell ?_ (by first | omega | (simp; done) | (simp; omega)) _))) hb (by first | omega | (simp; done) | (simp; omega)); have hz : w.heap.size ≤ w'.heap.size := hB.size; (try (have hz1 : w.heap.size + 1 ≤ w'.heap.size := (by have h := hb.size; (try simp at h); omega))); obtain ⟨hc, hf⟩ := bcell hb; clear hb)
  go_ret
  exact ⟨rfl, (by repeat (first | exact Below.refl _ _ | assumption | apply Below.drew | apply below_drewN | (refine Below.alloc ?_ (by first | omega | (simp; done) | (simp; omega)) _) | (refine Below.setCell ?_ (by first | omega | (simp; done) | (simp; omega)) _)))⟩
set_option maxHeartbeats 2000000 in
theorem impl_IsCircle (l s : Int) (A : Option Addr) (n c : Nat) (zs : List Int) (w : World) (h : Rd w 1 A n (IV zs)) (hm : n ≤ 1048577) :
    Calls Try.prog 17 #[.agg #[.int .i64 l, .int .i64 s, .slice A n c]] w (Ret w (.bool (circOk l s zs))) := by
  have hl := Lib.hid h.len
  rcases h0 : inr l 10 4000 with _ | _
  · have C0 := Lib.hid (fun w => h0 ▸ impl_within l 10 4000 w)
    rw [show circOk l s zs = false by simp [circOk, h0]]
    go_enter Try.func17, Try.ntmps17
    go_wp2_with (go_at_call 51; refine (C0.out _).mono ?_; rintro e w' ⟨rfl, rfl⟩)
    go_ret
    exact ⟨rfl, (by repeat (first | exact Below.refl _ _ | assumption | apply Below.drew | apply below_drewN | (refine Below.alloc ?_ (by first | omega | (simp; done) | (simp; omega)) _) | (refine Below.setCell ?_ (by first | omega | (simp; done) | (simp; omega)) _)))⟩
  rcases h1 : inr s 1 100 with _ | _
  · rw [show circOk l s zs = false by simp [circOk, h1]]
    go_enter Try.func17, Try.ntmps17
    go_wp2_with (go_at_call 51; refine (impl_within _ _ _ _).mono ?_; rintro e w' ⟨rfl, rfl⟩)
    go_ret
    exact ⟨rfl, (by repeat (first | exact Below.refl _ _ | assumption | apply Below.drew | apply below_drewN | (refine Below.alloc ?_ (by first | omega | (simp; done) | (simp; omega)) _) | (refine Below.setCell ?_ (by first | omega | (simp; done) | (simp; omega)) _)))⟩
  by_cases h3 : 12 < n
  · rw [show circOk l s zs = false by simp [circOk]; intros; rw [hl.out]; omega]
    go_enter Try.func17, Try.ntmps17
    go_wp2_with (go_at_call 51; refine (impl_within _ _ _ _).mono ?_; rintro e w' ⟨rfl, rfl⟩)
    go_ret
    exact ⟨rfl, (by repeat (first | exact Below.refl _ _ | assumption | apply Below.drew | apply below_drewN | (refine Below.alloc ?_ (by first | omega | (simp; done) | (simp; omega)) _) | (refine Below.setCell ?_ (by first | omega | (simp; done) | (simp; omega)) _)))⟩
  have hb := inr_iff0.1 h0
  have hb1 := hb.1
  have hb2 := hb.2
  have hn : n ≤ 12 := by omega
  rw [show circOk l s zs = rising 0 (l - 1) zs by simp [circOk, h0, h1]; intros; rw [hl.out]; exact hn]
  have hV0 : Below w.heap.size w (w.alloc (.cells #[.int .i64 l, .int .i64 s, .slice A n c] 27)) := (Below.refl _ _).alloc (Nat.le_refl _) _
  clear hb h3
  go_enter Try.func17, Try.ntmps17
  go_wp2_with (go_at_call 51; refine (impl_within _ _ _ _).mono ?_; rintro e w' ⟨rfl, rfl⟩)
  go_loopg [24] n (fun g i wr => ∃ k : Nat, k ≤ n ∧ n ≤ k + g ∧ i = .int .i64 k ∧ w.alloc (.cells #[.int .i64 l, .int .i64 s, .slice A n c] 27) = wr ∧ Hid (risF 0 (l - 1) (prevZ 0 zs k) (zs.drop k) = rising 0 (l - 1) zs))
  case atStart => exact ⟨0, by omega, by omega, rfl, rfl, (show risF _ _ _ _ = risF _ _ _ zs by simp [prevZ])⟩
  case round =>
    obtain ⟨k, hk1, hk2, rfl, rfl, ha⟩ := hrel
    by_cases hlt : k < n
    · obtain ⟨b, off, x, rfl, hx, hcx⟩ := h.at1 hlt
      have hblt : b < w.heap.size := World.block_lt_of_cell? _ _ hcx
      have c0 : (w.alloc (.cells #[.int .i64 l, .int .i64 s, .slice (some ⟨b, off, none⟩) n c] 27)).cell? ⟨b, off + k, none⟩ = some (.int .i64 x) := (hV0.cell (p := ⟨b, _, none⟩) hblt).trans hcx
      rcases ho : inr x 0 (l - 1) with _ | _
      · have HR := Lib.hid hx
        have HO := Lib.hid ho
        have CO := Lib.hid (fun w => ho ▸ impl_within x 0 (l - 1) w)
        have HH := Lib.hid h
        clear hx ho h hcx
        go_wp2_with (go_at_call 51; refine (CO.out _).mono ?_; rintro e w' ⟨rfl, rfl⟩)
        go_ret
        exact ⟨ret_bool ((risF_bad HR.out HO.out).symm.trans ha.out), hV0⟩
      · have CO := Lib.hid (fun w => ho ▸ impl_within x 0 (l - 1) w)
        rcases Nat.eq_zero_or_pos k with h0 | h0
        · have hp : prevZ 0 zs k < x := by simp [inr] at ho; simp [prevZ, h0]; omega
          have hk0 : decide (0 < k) = false := by simp [h0]
          have HR := Lib.hid hx
          have HO := Lib.hid ho
          have HP := Lib.hid hp
          have HH := Lib.hid h
          clear hx ho h hcx hp h0
          go_wp2_with (go_at_call 51; refine (CO.out _).mono ?_; rintro e w' ⟨rfl, rfl⟩)
          go_roundg (n - (k + 1))
          case measure => omega
          case rel => exact ⟨k + 1, by omega, by omega, by go_num, rfl, (risF_step HR.out HO.out HP.out).symm.trans ha.out⟩
        · obtain ⟨b', off', y, e', hy, d0⟩ := h.at1 (k := k - 1) (by omega)
          injection e' with e'
          injection e' with e1 e2
          subst e1 e2
          have d1 : (w.alloc (.cells #[.int .i64 l, .int .i64 s, .slice (some ⟨b, off, none⟩) n c] 27)).cell? ⟨b, off + (k - 1), none⟩ = some (.int .i64 y) := (hV0.cell (p := ⟨b, _, none⟩) hblt).trans d0
          have hpe : prevZ 0 zs k = y := by have := prevZ_next (lo := 0) hy; rw [show k - 1 + 1 = k by omega] at this; exact this
          have hk0 : decide (0 < k) = true := by simpa using h0
          have hk3 : 0 ≤ (k : Int) - 1 := by omega
          have hk4 : (k : Int) - 1 < (n : Int) := by omega
          have hk5 : ((k : Int) - 1).toNat = k - 1 := by omega
          have HR := Lib.hid hx
          have HO := Lib.hid ho
          have HP := Lib.hid hpe
          have HH := Lib.hid h
          clear hx ho h hcx hpe hy d0
          by_cases hlo : x ≤ y
          · have hlo' : decide (x ≤ y) = true := by simpa using hlo
            go_wp2_with (go_at_call 51; refine (CO.out _).mono ?_; rintro e w' ⟨rfl, rfl⟩)
            go_ret
            exact ⟨ret_bool ((risF_low (p := prevZ 0 zs k) HR.out (by rw [HP.out]; exact hlo)).symm.trans ha.out), hV0⟩
          · have hlo' : decide (x ≤ y) = false := by simpa using hlo
            go_wp2_with (go_at_call 51; refine (CO.out _).mono ?_; rintro e w' ⟨rfl, rfl⟩)
            go_roundg (n - (k + 1))
            case measure => omega
            case rel => exact ⟨k + 1, by omega, by omega, by go_num, rfl, (risF_step HR.out HO.out (by rw [HP.out]; omega)).symm.trans ha.out⟩
    · go_wp2_with fail
      go_ret
      exact ⟨ret_bool ((risF_end hl.out (by omega)).symm.trans ha.out), hV0⟩
end Go.Proofs.Ytidjgbonlejhhaa
