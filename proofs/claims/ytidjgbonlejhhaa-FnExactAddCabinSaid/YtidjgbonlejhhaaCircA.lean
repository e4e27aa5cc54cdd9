/- The circle: what a valid circle is. -/
import Derived.Test.YtidjgbonlejhhaaBase
import Derived.Test.YtidjgbonlejhhaaExt
namespace Go.Proofs.Ytidjgbonlejhhaa
open Go.RowKit
set_option linter.unusedVariables false
set_option linter.unusedSimpArgs false

/-- The numbers rise from p on, within bounds. -/
def risF (lo hi : Int) : Int → List Int → Bool
  | _, [] => true
  | p, x :: xs => inr x lo hi && (decide (p < x) && risF lo hi x xs)
def rising (lo hi : Int) (zs : List Int) : Bool := risF lo hi (lo - 1) zs
def prevZ (lo : Int) (zs : List Int) (k : Nat) : Int := if k = 0 then lo - 1 else zs.getD (k - 1) 0
theorem drop_atZ {α : Type} {xs : List α} {k : Nat} {x : α} (h : xs[k]? = some x) : xs.drop k = x :: xs.drop (k + 1) := by
  obtain ⟨hk, e⟩ := List.getElem?_eq_some_iff.1 h
  rw [List.drop_eq_getElem_cons hk, e]
theorem prevZ_next {lo : Int} {zs : List Int} {k : Nat} {x : Int} (h : zs[k]? = some x) : prevZ lo zs (k + 1) = x := by simp [prevZ, List.getD, h]
theorem risF_bad {lo hi p : Int} {zs : List Int} {k : Nat} {x : Int} (h : zs[k]? = some x) (ho : inr x lo hi = false) : risF lo hi p (zs.drop k) = false := by
  rw [drop_atZ h]; unfold risF; rw [ho, Bool.false_and]
theorem risF_low {lo hi p : Int} {zs : List Int} {k : Nat} {x : Int} (h : zs[k]? = some x) (ho : x ≤ p) : risF lo hi p (zs.drop k) = false := by
  rw [drop_atZ h]
  have : decide (p < x) = false := decide_eq_false (by omega)
  unfold risF; rw [this, Bool.false_and, Bool.and_false]
theorem risF_step {lo hi : Int} {zs : List Int} {k : Nat} {x : Int} (h : zs[k]? = some x) (ho : inr x lo hi = true) (hp : prevZ lo zs k < x) : risF lo hi (prevZ lo zs k) (zs.drop k) = risF lo hi (prevZ lo zs (k + 1)) (zs.drop (k + 1)) := by
  rw [drop_atZ h, prevZ_next h]
  have : decide (prevZ lo zs k < x) = true := decide_eq_true hp
  conv => lhs; unfold risF
  rw [ho, this, Bool.true_and, Bool.true_and]
theorem risF_end {lo hi p : Int} {zs : List Int} {n k : Nat} (h : zs.length = n) (hk : n ≤ k) : risF lo hi p (zs.drop k) = true := by
  rw [List.drop_of_length_le (by omega)]; rfl
theorem risF_at {lo hi : Int} : ∀ {zs : List Int} {p : Int}, risF lo hi p zs = true → ∀ {k : Nat} {x : Int}, zs[k]? = some x → lo ≤ x ∧ x ≤ hi ∧ p < x
  | [], _, _, _, _, h => by simp at h
  | x0 :: xs, p, hg, 0, x, h => by
    simp only [risF, inr, Bool.and_eq_true, decide_eq_true_eq] at hg
    simp at h
    subst h
    exact ⟨hg.1.1, hg.1.2, hg.2.1⟩
  | x0 :: xs, p, hg, k + 1, x, h => by
    simp only [risF, inr, Bool.and_eq_true, decide_eq_true_eq] at hg
    have := risF_at hg.2.2 (k := k) (by simpa using h)
    exact ⟨this.1, this.2.1, by omega⟩
theorem risF_lt {lo hi : Int} : ∀ {zs : List Int} {p : Int}, risF lo hi p zs = true → ∀ {k : Nat} {x y : Int}, zs[k]? = some x → zs[k + 1]? = some y → x < y
  | [], _, _, _, _, _, h, _ => by simp at h
  | x0 :: xs, p, hg, 0, x, y, h, h' => by
    simp only [risF, inr, Bool.and_eq_true, decide_eq_true_eq] at hg
    simp at h
    subst h
    exact (risF_at hg.2.2 (k := 0) (by simpa using h')).2.2
  | x0 :: xs, p, hg, k + 1, x, y, h, h' => by
    simp only [risF, inr, Bool.and_eq_true, decide_eq_true_eq] at hg
    exact risF_lt hg.2.2 (k := k) (by simpa using h) (by simpa using h')
def circOk (l s : Int) (zs : List Int) : Bool := inr l 10 4000 && (inr s 1 100 && (rising 0 (l - 1) zs && decide (zs.length ≤ 12)))
theorem circOk_iff {l s : Int} {zs : List Int} : circOk l s zs = true ↔ (10 ≤ l ∧ l ≤ 4000) ∧ (1 ≤ s ∧ s ≤ 100) ∧ rising 0 (l - 1) zs = true ∧ zs.length ≤ 12 := by simp [circOk, inr]
theorem circ_at {l s : Int} {zs : List Int} (h : circOk l s zs = true) {k : Nat} {x : Int} (hx : zs[k]? = some x) : 0 ≤ x ∧ x ≤ l - 1 := by
  have := risF_at (circOk_iff.1 h).2.2.1 hx
  exact ⟨this.1, this.2.1⟩

theorem inr_iff0 {x lo hi : Int} : inr x lo hi = true ↔ lo ≤ x ∧ x ≤ hi := by simp [inr]
set_option maxHeartbeats 2000000 in
theorem spec_l1Rising (A : Option Addr) (n c : Nat) (zs : List Int) (lo hi : Int) (w : World) (h : Rd w 1 A n (IV zs)) (hm : n ≤ 9223372036854775807) :
    Calls Try.prog 74 #[.slice A n c, .int .i64 lo, .int .i64 hi] w (Ret w (.bool (rising lo hi zs))) := by
  have hl := Lib.hid h.len
  go_enter Try.func74, Try.ntmps74
  go_wp2
  go_loopg [7] n (fun g i wr => ∃ k : Nat, k ≤ n ∧ n ≤ k + g ∧ i = .int .i64 k ∧ Below w.heap.size w wr ∧ w.heap.size ≤ wr.heap.size ∧ Hid (risF lo hi (prevZ lo zs k) (zs.drop k) = rising lo hi zs))
  case atStart => exact ⟨0, by omega, by omega, rfl, Below.refl _ _, Nat.le_refl _, (show risF _ _ _ _ = risF _ _ _ zs by simp [prevZ])⟩
  case round =>
    obtain ⟨k, hk1, hk2, rfl, hBr, hzr, ha⟩ := hrel
    by_cases hlt : k < n
    · obtain ⟨b, off, x, rfl, hx, hcx⟩ := h.at1 hlt
      have hblt : b < w.heap.size := World.block_lt_of_cell? _ _ hcx
      have c0 : wr.cell? ⟨b, off + k, none⟩ = some (.int .i64 x) := (hBr.cell (p := ⟨b, _, none⟩) hblt).trans hcx
      have hbr : b < wr.heap.size := by omega
      rcases ho : inr x lo hi with _ | _
      · have HR := Lib.hid hx
        have HO := Lib.hid ho
        have HH := Lib.hid h
        clear hx ho h hcx
        have CO := Lib.hid (fun w => HO.out ▸ spec_l1In x lo hi w)
        go_wp2_with fail
        (refine wp_region_ext (by kernel_rfl) (by kernel_rfl) ?_; have hxe := ext_cells; (repeat (go_big_quiet_step ((go_at_call 52; exact ext_pure (CO.out _))))); refine wpQuiet_nil ?_; intro w' hw'; obtain ⟨nx, hw''⟩ := hw'; have hbx := ext_out hw''; clear hw'' nx hxe; have hB : Below w.heap.size w w' := Below.thenn (by repeat (first | exact Below.refl _ _ | assumption | apply Below.drew | apply below_drewN | (refine Below.alloc ?_ (by first | omega | (simp; done) | (simp; omega)) _) | (refine Below.setCell ?_ (by first | omega | (simp; done) | (simp; omega)) _))) hbx (by first | omega | (simp; done) | (simp; omega)); have hz : w.heap.size ≤ w'.heap.size := hB.size; obtain ⟨hc, hf⟩ := bcell hbx; clear hbx)
        go_wp2_with fail
        go_ret
        exact ⟨ret_bool ((risF_bad HR.out HO.out).symm.trans ha.out), (by repeat (first | exact Below.refl _ _ | assumption | apply Below.drew | apply below_drewN | (refine Below.alloc ?_ (by first | omega | (simp; done) | (simp; omega)) _) | (refine Below.setCell ?_ (by first | omega | (simp; done) | (simp; omega)) _)))⟩
      · have CO := Lib.hid (fun w => ho ▸ spec_l1In x lo hi w)
        rcases Nat.eq_zero_or_pos k with h0 | h0
        · have hp : prevZ lo zs k < x := by simp [inr] at ho; simp [prevZ, h0]; omega
          have hk0 : decide (0 < k) = false := by simp [h0]
          have HR := Lib.hid hx
          have HO := Lib.hid ho
          have HP := Lib.hid hp
          have HH := Lib.hid h
          clear hx ho h hcx hp h0
          go_wp2_with fail
          (refine wp_region_ext (by kernel_rfl) (by kernel_rfl) ?_; have hxe := ext_cells; (repeat (go_big_quiet_step ((go_at_call 52; exact ext_pure (CO.out _))))); refine wpQuiet_nil ?_; intro w' hw'; obtain ⟨nx, hw''⟩ := hw'; have hbx := ext_out hw''; clear hw'' nx hxe; have hB : Below w.heap.size w w' := Below.thenn (by repeat (first | exact Below.refl _ _ | assumption | apply Below.drew | apply below_drewN | (refine Below.alloc ?_ (by first | omega | (simp; done) | (simp; omega)) _) | (refine Below.setCell ?_ (by first | omega | (simp; done) | (simp; omega)) _))) hbx (by first | omega | (simp; done) | (simp; omega)); have hz : w.heap.size ≤ w'.heap.size := hB.size; obtain ⟨hc, hf⟩ := bcell hbx; clear hbx)
          go_wp2_with fail
          go_roundg (n - (k + 1))
          case measure => omega
          case rel => exact ⟨k + 1, by omega, by omega, by go_num, (by repeat (first | exact Below.refl _ _ | assumption | apply Below.drew | apply below_drewN | (refine Below.alloc ?_ (by first | omega | (simp; done) | (simp; omega)) _) | (refine Below.setCell ?_ (by first | omega | (simp; done) | (simp; omega)) _))), by first | omega | (simp at *; omega), (risF_step HR.out HO.out HP.out).symm.trans ha.out⟩
        · obtain ⟨b', off', y, e', hy, d0⟩ := h.at1 (k := k - 1) (by omega)
          injection e' with e'
          injection e' with e1 e2
          subst e1 e2
          rw [← hBr.cell (p := ⟨b, _, none⟩) hblt] at d0
          have hpe : prevZ lo zs k = y := by have := prevZ_next (lo := lo) hy; rw [show k - 1 + 1 = k by omega] at this; exact this
          have hk0 : decide (0 < k) = true := by simpa using h0
          have hk3 : 0 ≤ (k : Int) - 1 := by omega
          have hk4 : (k : Int) - 1 < (n : Int) := by omega
          have hk5 : ((k : Int) - 1).toNat = k - 1 := by omega
          have HR := Lib.hid hx
          have HO := Lib.hid ho
          have HP := Lib.hid hpe
          have HH := Lib.hid h
          clear hx ho h hcx hpe hy
          by_cases hlo : x ≤ y
          · have hlo' : decide (x ≤ y) = true := by simpa using hlo
            go_wp2_with fail
            (refine wp_region_ext (by kernel_rfl) (by kernel_rfl) ?_; have hxe := ext_cells; (repeat (go_big_quiet_step ((go_at_call 52; exact ext_pure (CO.out _))))); refine wpQuiet_nil ?_; intro w' hw'; obtain ⟨nx, hw''⟩ := hw'; have hbx := ext_out hw''; clear hw'' nx hxe; have hB : Below w.heap.size w w' := Below.thenn (by repeat (first | exact Below.refl _ _ | assumption | apply Below.drew | apply below_drewN | (refine Below.alloc ?_ (by first | omega | (simp; done) | (simp; omega)) _) | (refine Below.setCell ?_ (by first | omega | (simp; done) | (simp; omega)) _))) hbx (by first | omega | (simp; done) | (simp; omega)); have hz : w.heap.size ≤ w'.heap.size := hB.size; obtain ⟨hc, hf⟩ := bcell hbx; clear hbx)
            go_wp2_with fail
            go_ret
            exact ⟨ret_bool ((risF_low (p := prevZ lo zs k) HR.out (by rw [HP.out]; exact hlo)).symm.trans ha.out), (by repeat (first | exact Below.refl _ _ | assumption | apply Below.drew | apply below_drewN | (refine Below.alloc ?_ (by first | omega | (simp; done) | (simp; omega)) _) | (refine Below.setCell ?_ (by first | omega | (simp; done) | (simp; omega)) _)))⟩
          · have hlo' : decide (x ≤ y) = false := by simpa using hlo
            go_wp2_with fail
            (refine wp_region_ext (by kernel_rfl) (by kernel_rfl) ?_; have hxe := ext_cells; (repeat (go_big_quiet_step ((go_at_call 52; exact ext_pure (CO.out _))))); refine wpQuiet_nil ?_; intro w' hw'; obtain ⟨nx, hw''⟩ := hw'; have hbx := ext_out hw''; clear hw'' nx hxe; have hB : Below w.heap.size w w' := Below.thenn (by repeat (first | exact Below.refl _ _ | assumption | apply Below.drew | apply below_drewN | (refine Below.alloc ?_ (by first | omega | (simp; done) | (simp; omega)) _) | (refine Below.setCell ?_ (by first | omega | (simp; done) | (simp; omega)) _))) hbx (by first | omega | (simp; done) | (simp; omega)); have hz : w.heap.size ≤ w'.heap.size := hB.size; obtain ⟨hc, hf⟩ := bcell hbx; clear hbx)
            go_wp2_with fail
            go_roundg (n - (k + 1))
            case measure => omega
            case rel => exact ⟨k + 1, by omega, by omega, by go_num, (by repeat (first | exact Below.refl _ _ | assumption | apply Below.drew | apply below_drewN | (refine Below.alloc ?_ (by first | omega | (simp; done) | (simp; omega)) _) | (refine Below.setCell ?_ (by first | omega | (simp; done) | (simp; omega)) _))), by first | omega | (simp at *; omega), (risF_step HR.out HO.out (by rw [HP.out]; omega)).symm.trans ha.out⟩
    · go_wp2_with fail
      go_ret
      exact ⟨ret_bool ((risF_end hl.out (by omega)).symm.trans ha.out), hBr⟩
set_option maxHeartbeats 1000000 in
theorem spec_l8Good (l s : Int) (A : Option Addr) (n c : Nat) (zs : List Int) (w : World) (h : Rd w 1 A n (IV zs)) (hm : n ≤ 1048577) :
    Calls Try.prog 49 #[.agg #[.int .i64 l, .int .i64 s, .slice A n c]] w (Ret w (.bool (circOk l s zs))) := by
  have hl := Lib.hid h.len
  unfold circOk
  rw [hl.out]
  have cr := fun w' (h' : Rd w' 1 A n (IV zs)) => spec_l1Rising A n c zs 0 (l - 1) w' h' (by omega)
  rcases h0 : inr l 10 4000 with _ | _
  · have C0 := Lib.hid (fun w => h0 ▸ spec_l1In l 10 4000 w)
    go_enter Try.func49, Try.ntmps49
    go_wp2_with (go_at_call 52; refine (C0.out _).mono ?_; rintro e w' ⟨rfl, rfl⟩)
    go_ret
    exact ⟨rfl, (by repeat (first | exact Below.refl _ _ | assumption | apply Below.drew | apply below_drewN | (refine Below.alloc ?_ (by first | omega | (simp; done) | (simp; omega)) _) | (refine Below.setCell ?_ (by first | omega | (simp; done) | (simp; omega)) _)))⟩
  have hb := inr_iff0.1 h0
  have hb1 := hb.1
  have hb2 := hb.2
  rcases h1 : inr s 1 100 with _ | _ <;> rcases h2 : rising 0 (l - 1) zs with _ | _ <;> by_cases h3 : n ≤ 12
  all_goals rw [h2] at cr
  all_goals have CR := Lib.hid cr
  all_goals clear cr
  all_goals have e3 : decide ((n : Int) ≤ 12) = decide (n ≤ 12) := by simp; omega
  all_goals (go_enter Try.func49, Try.ntmps49)
  all_goals go_wp2_with (first | (go_at_call 52; refine (spec_l1In _ _ _ _).mono ?_; rintro e w' ⟨rfl, rfl⟩) | (go_at_call 74; refine (CR.out _ (h.below ((Below.refl _ _).alloc (Nat.le_refl _) _))).mono ?_; rintro e w' ⟨rfl, hb⟩; have hB : Below w.heap.size w w' := Below.thenn (by repeat (first | exact Below.refl _ _ | assumption | apply Below.drew | apply below_drewN | (refine Below.alloc ?_ (by first | omega | (simp; done) | (simp; omega)) _) | (refine Below.setCell ?_ (by first | omega | (simp; done) | (simp; omega)) _))) hb (by first | omega | (simp; done) | (simp; omega)); have hz : w.heap.size ≤ w'.heap.size := hB.size; (try (have hz1 : w.heap.size + 1 ≤ w'.heap.size := (by have h := hb.size; (try simp at h); omega))); obtain ⟨hc, hf⟩ := bcell hb; clear hb))
  all_goals (go_ret; exact ⟨ret_bool (by simp [*]), (by repeat (first | exact Below.refl _ _ | assumption | apply Below.drew | apply below_drewN | (refine Below.alloc ?_ (by first | omega | (simp; done) | (simp; omega)) _) | (refine Below.setCell ?_ (by first | omega | (simp; done) | (simp; omega)) _)))⟩)
end Go.Proofs.Ytidjgbonlejhhaa
