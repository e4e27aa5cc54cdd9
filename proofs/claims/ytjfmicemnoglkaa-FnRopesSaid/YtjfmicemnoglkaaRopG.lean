/- Ropes: the lightest kind: the program's and the reference's. -/
import Derived.Test.YtjfmicemnoglkaaRopF
namespace Go.Proofs.Ytjfmicemnoglkaa
open Go.RowKit
set_option linter.unusedVariables false
set_option linter.unusedSimpArgs false

theorem lk_no {rows : List (List Int)} {strong : Int} (h : lkA rows strong = false) : lkZ rows strong = 0 := by simp [lkZ, h]
set_option maxRecDepth 100000 in
set_option maxHeartbeats 8000000 in
theorem impl_LightestKind (A : Option Addr) (n c : Nat) (rows : List (List Int)) (strong : Int) (w : World) (h : RdR w 5 A n rows) (hm : n ≤ 1048577) :
    Calls Try.prog 86 #[.slice A n c, .int .i64 strong] w (Ret w (.tuple #[.int .i64 (lkZ rows strong), .bool (lkA rows strong)])) := by
  have hl := h.2.2
  have ck := fun w' (h' : RdR w' 5 A n rows) => impl_AreRopeKinds A n c rows w' h' hm
  have ci := fun w => impl_within strong 1 5000 w
  have hB : Below w.heap.size w w := Below.refl _ _
  have HH := Lib.hid h
  rcases hg : kinds rows with _ | _
  · have hk : lkA rows strong = false := by simp [lkA, hg]
    rw [hk, lk_no hk]
    rw [hg] at ck
    have CK := Lib.hid ck
    clear ck ci hg hk h hl
    go_enter Try.func86, Try.ntmps86
    go_wp2_with (go_at_call 91; refine (CK.out _ (HH.out.below (by repeat (first | exact Below.refl _ _ | assumption | apply Below.drew | apply below_drewN | (refine Below.alloc ?_ (by first | omega | (simp; done) | (simp; omega)) _) | (refine Below.setCell ?_ (by first | omega | (simp; done) | (simp; omega)) _))))).mono ?_; rintro e w' ⟨rfl, hb⟩; have hB : Below w.heap.size w w' := Below.thenn (by repeat (first | exact Below.refl _ _ | assumption | apply Below.drew | apply below_drewN | (refine Below.alloc ?_ (by first | omega | (simp; done) | (simp; omega)) _) | (refine Below.setCell ?_ (by first | omega | (simp; done) | (simp; omega)) _))) hb (by first | omega | (simp; done) | (simp; omega)); have hz : w.heap.size ≤ w'.heap.size := hB.size; (try (have hz1 : w.heap.size + 1 ≤ w'.heap.size := (by have h := hb.size; (try simp at h); omega))); obtain ⟨hc, hf⟩ := bcell hb; skip; clear hb)
    go_ret2
    exact ⟨rfl, (by repeat (first | exact Below.refl _ _ | assumption | apply Below.drew | apply below_drewN | (refine Below.alloc ?_ (by first | omega | (simp; done) | (simp; omega)) _) | (refine Below.setCell ?_ (by first | omega | (simp; done) | (simp; omega)) _)))⟩
  rcases hi : inr strong 1 5000 with _ | _
  · have hk : lkA rows strong = false := by simp [lkA, hi]
    rw [hk, lk_no hk]
    rw [hg] at ck
    rw [hi] at ci
    have CK := Lib.hid ck
    have CI := Lib.hid ci
    clear ck ci hg hi hk h hl
    go_enter Try.func86, Try.ntmps86
    go_wp2_with (first | (go_at_call 91; refine (CK.out _ (HH.out.below (by repeat (first | exact Below.refl _ _ | assumption | apply Below.drew | apply below_drewN | (refine Below.alloc ?_ (by first | omega | (simp; done) | (simp; omega)) _) | (refine Below.setCell ?_ (by first | omega | (simp; done) | (simp; omega)) _))))).mono ?_; rintro e w' ⟨rfl, hb⟩; have hB : Below w.heap.size w w' := Below.thenn (by repeat (first | exact Below.refl _ _ | assumption | apply Below.drew | apply below_drewN | (refine Below.alloc ?_ (by first | omega | (simp; done) | (simp; omega)) _) | (refine Below.setCell ?_ (by first | omega | (simp; done) | (simp; omega)) _))) hb (by first | omega | (simp; done) | (simp; omega)); have hz : w.heap.size ≤ w'.heap.size := hB.size; (try (have hz1 : w.heap.size + 1 ≤ w'.heap.size := (by have h := hb.size; (try simp at h); omega))); obtain ⟨hc, hf⟩ := bcell hb; skip; clear hb) | (go_at_call 98; refine (CI.out _).mono ?_; rintro e w' ⟨rfl, rfl⟩))
    go_ret2
    exact ⟨rfl, (by repeat (first | exact Below.refl _ _ | assumption | apply Below.drew | apply below_drewN | (refine Below.alloc ?_ (by first | omega | (simp; done) | (simp; omega)) _) | (refine Below.setCell ?_ (by first | omega | (simp; done) | (simp; omega)) _)))⟩
  · have hka : lkA rows strong = decide (0 ≤ lkF rows strong n) := by simp [lkA, hg, hi, hl]
    have hn6 : n ≤ 6 := by have := (goodL_iff.1 hg).2; omega
    rw [hg] at ck
    rw [hi] at ci
    have CK := Lib.hid ck
    have CI := Lib.hid ci
    have HL := Lib.hid hl
    have HBD := Lib.hid (fun k => lkF_bd rows strong k)
    have HU := Lib.hid (fun (k : Nat) hh => lkF_up (rows := rows) (strong := strong) (k := k) hh)
    have HKP := Lib.hid (fun (k : Nat) hh => lkF_keep (rows := rows) (strong := strong) (k := k) hh)
    have HZ : Hid ((-1 : Int) = lkF rows strong 0) := Lib.hid rfl
    have HKA := Lib.hid hka
    have HZV : Hid (lkA rows strong = true → lkZ rows strong = idR rows (lkF rows strong n).toNat) := Lib.hid (fun hh => by unfold lkZ; rw [if_pos hh, hl])
    have HZN : Hid (lkA rows strong = false → lkZ rows strong = 0) := Lib.hid (fun hh => lk_no hh)
    clear ck ci hg hi h hl hka
    generalize lkA rows strong = ka at *
    generalize lkZ rows strong = kz at *
    generalize lkF rows strong = f at *
    go_enter Try.func86, Try.ntmps86
    go_wp2_with (first | (go_at_call 91; refine (CK.out _ (HH.out.below (by repeat (first | exact Below.refl _ _ | assumption | apply Below.drew | apply below_drewN | (refine Below.alloc ?_ (by first | omega | (simp; done) | (simp; omega)) _) | (refine Below.setCell ?_ (by first | omega | (simp; done) | (simp; omega)) _))))).mono ?_; rintro e w' ⟨rfl, hb⟩; have hB : Below w.heap.size w w' := Below.thenn (by repeat (first | exact Below.refl _ _ | assumption | apply Below.drew | apply below_drewN | (refine Below.alloc ?_ (by first | omega | (simp; done) | (simp; omega)) _) | (refine Below.setCell ?_ (by first | omega | (simp; done) | (simp; omega)) _))) hb (by first | omega | (simp; done) | (simp; omega)); have hz : w.heap.size ≤ w'.heap.size := hB.size; (try (have hz1 : w.heap.size + 1 ≤ w'.heap.size := (by have h := hb.size; (try simp at h); omega))); obtain ⟨hc, hf⟩ := bcell hb; skip; clear hb) | (go_at_call 98; refine (CI.out _).mono ?_; rintro e w' ⟨rfl, rfl⟩))
    have B1 := Lib.hid hB
    clear hB hc hf hz
    go_loopg [6, 19] n (fun gg q i wr => ∃ (k : Nat) (b : Int), k ≤ n ∧ n ≤ k + gg ∧ i = .int .i64 k ∧ q = .int .i64 b ∧ -1 ≤ b ∧ b < n ∧ b < k ∧ Hid (Below w.heap.size w wr) ∧ Hid (b = f k))
    case atStart => exact ⟨0, -1, by omega, by omega, rfl, rfl, by omega, by omega, by omega, B1, HZ⟩
    case round =>
      obtain ⟨k, b, hk1, hk2, rfl, rfl, hb0, hb1, hb2, HB, HS⟩ := hrel
      have hBr := HB.out
      have hzr := hBr.size
      by_cases hlt : k < n
      · have HU2 := Lib.hid (HU.out k)
        have HK2 := Lib.hid (HKP.out k)
        rw [← HS.out] at HU2 HK2
        obtain ⟨bl, off, x0, x1, x2, x3, x4, hA, hr, hblt, c0, c1, c2, c3, c4⟩ := HH.out.row5 hlt
        rw [← hBr.cell (p := ⟨bl, _, none⟩) hblt] at c0 c1 c2 c3 c4
        have hbr : bl < wr.heap.size := by omega
        obtain ⟨_, e3, e4⟩ := kR_of hr
        rw [e3, e4] at HU2 HK2
        clear e3 e4 hr
        by_cases hs : strong ≤ x4
        · have s1 : decide (strong ≤ x4) = true := decide_eq_true hs
          by_cases hneg : b < 0
          · have s2 : decide (b < 0) = true := decide_eq_true hneg
            have HN := Lib.hid (HU2.out ⟨hs, .inl hneg⟩)
            subst hA
            clear hs HU2 HK2
            go_wp2_with fail
            (refine wp_region_ext (by kernel_rfl) (by kernel_rfl) ?_; have hxe := ext_cells; (repeat (go_big_quiet_step (fail))); refine wpQuiet_nil ?_; intro w' hw'; obtain ⟨nx, hw''⟩ := hw'; have hbx := ext_out hw''; clear hw'' nx hxe; have hB : Below w.heap.size w w' := Below.thenn (by repeat (first | exact Below.refl _ _ | assumption | apply Below.drew | apply below_drewN | (refine Below.alloc ?_ (by first | omega | (simp; done) | (simp; omega)) _) | (refine Below.setCell ?_ (by first | omega | (simp; done) | (simp; omega)) _))) hbx (by first | omega | (simp; done) | (simp; omega)); have hz : w.heap.size ≤ w'.heap.size := hB.size; obtain ⟨hc, hf⟩ := bcell hbx; clear hbx)
            go_wp2_with fail
            go_roundg (n - (k + 1))
            case measure => omega
            case rel => exact ⟨k + 1, k, by omega, by omega, by go_num, rfl, by omega, by omega, by omega, Lib.hid hB, HN.out.symm⟩
          · have s2 : decide (b < 0) = false := decide_eq_false hneg
            obtain ⟨j, rfl⟩ := Int.eq_ofNat_of_zero_le (show 0 ≤ b by omega)
            have hj : j < n := by omega
            obtain ⟨bl', off', z0, z1, z2, z3, z4, hA', hr', _, _, _, _, d3, _⟩ := HH.out.row5 hj
            rw [hA] at hA'
            injection hA' with hA'
            injection hA' with q1 q2
            subst q1 q2 hA
            rw [← hBr.cell (p := ⟨bl, _, none⟩) hblt] at d3
            obtain ⟨_, g3, _⟩ := kR_of hr'
            rw [Int.toNat_natCast, g3] at HU2 HK2
            clear g3 hr'
            by_cases hw : x3 < z3
            · have s3 : decide (x3 < z3) = true := decide_eq_true hw
              have HN := Lib.hid (HU2.out ⟨hs, .inr hw⟩)
              clear hs hw HU2 HK2
              go_wp2_with fail
              (refine wp_region_ext (by kernel_rfl) (by kernel_rfl) ?_; have hxe := ext_cells; (repeat (go_big_quiet_step (fail))); refine wpQuiet_nil ?_; intro w' hw'; obtain ⟨nx, hw''⟩ := hw'; have hbx := ext_out hw''; clear hw'' nx hxe; have hB : Below w.heap.size w w' := Below.thenn (by repeat (first | exact Below.refl _ _ | assumption | apply Below.drew | apply below_drewN | (refine Below.alloc ?_ (by first | omega | (simp; done) | (simp; omega)) _) | (refine Below.setCell ?_ (by first | omega | (simp; done) | (simp; omega)) _))) hbx (by first | omega | (simp; done) | (simp; omega)); have hz : w.heap.size ≤ w'.heap.size := hB.size; obtain ⟨hc, hf⟩ := bcell hbx; clear hbx)
              go_wp2_with fail
              go_roundg (n - (k + 1))
              case measure => omega
              case rel => exact ⟨k + 1, k, by omega, by omega, by go_num, rfl, by omega, by omega, by omega, Lib.hid hB, HN.out.symm⟩
            · have s3 : decide (x3 < z3) = false := decide_eq_false hw
              have HN := Lib.hid (HK2.out (by rintro ⟨_, h1 | h1⟩; omega; exact hw h1))
              clear hs hw HU2 HK2
              go_wp2_with fail
              (refine wp_region_ext (by kernel_rfl) (by kernel_rfl) ?_; have hxe := ext_cells; (repeat (go_big_quiet_step (fail))); refine wpQuiet_nil ?_; intro w' hw'; obtain ⟨nx, hw''⟩ := hw'; have hbx := ext_out hw''; clear hw'' nx hxe; have hB : Below w.heap.size w w' := Below.thenn (by repeat (first | exact Below.refl _ _ | assumption | apply Below.drew | apply below_drewN | (refine Below.alloc ?_ (by first | omega | (simp; done) | (simp; omega)) _) | (refine Below.setCell ?_ (by first | omega | (simp; done) | (simp; omega)) _))) hbx (by first | omega | (simp; done) | (simp; omega)); have hz : w.heap.size ≤ w'.heap.size := hB.size; obtain ⟨hc, hf⟩ := bcell hbx; clear hbx)
              go_wp2_with fail
              go_roundg (n - (k + 1))
              case measure => omega
              case rel => exact ⟨k + 1, j, by omega, by omega, by go_num, rfl, by omega, by omega, by omega, Lib.hid hB, HN.out.symm⟩
        · have s1 : decide (strong ≤ x4) = false := decide_eq_false hs
          have HN := Lib.hid (HK2.out (fun hh => hs hh.1))
          subst hA
          clear hs HU2 HK2
          go_wp2_with fail
          (refine wp_region_ext (by kernel_rfl) (by kernel_rfl) ?_; have hxe := ext_cells; (repeat (go_big_quiet_step (fail))); refine wpQuiet_nil ?_; intro w' hw'; obtain ⟨nx, hw''⟩ := hw'; have hbx := ext_out hw''; clear hw'' nx hxe; have hB : Below w.heap.size w w' := Below.thenn (by repeat (first | exact Below.refl _ _ | assumption | apply Below.drew | apply below_drewN | (refine Below.alloc ?_ (by first | omega | (simp; done) | (simp; omega)) _) | (refine Below.setCell ?_ (by first | omega | (simp; done) | (simp; omega)) _))) hbx (by first | omega | (simp; done) | (simp; omega)); have hz : w.heap.size ≤ w'.heap.size := hB.size; obtain ⟨hc, hf⟩ := bcell hbx; clear hbx)
          go_wp2_with fail
          go_roundg (n - (k + 1))
          case measure => omega
          case rel => exact ⟨k + 1, b, by omega, by omega, by go_num, rfl, by omega, by omega, by omega, Lib.hid hB, HN.out.symm⟩
      · obtain rfl : k = n := by omega
        have hkq := HKA.out
        rw [← HS.out] at hkq
        by_cases hneg : b < 0
        · have e1 : ka = false := by rw [hkq]; exact decide_eq_false (by omega)
          have E1 := Lib.hid e1
          have E2 := Lib.hid (HZN.out e1)
          have s2 : decide (b < 0) = true := decide_eq_true hneg
          clear e1 hkq
          go_wp2_with fail
          go_ret2
          exact ⟨ret_ib E2.out.symm E1.out.symm, hBr⟩
        · have e1 : ka = true := by rw [hkq]; exact decide_eq_true (by omega)
          have e2 := HZV.out e1
          rw [← HS.out] at e2
          have s2 : decide (b < 0) = false := decide_eq_false hneg
          obtain ⟨j, rfl⟩ := Int.eq_ofNat_of_zero_le (show 0 ≤ b by omega)
          have hj : j < k := by omega
          obtain ⟨bl, off, x0, x1, x2, x3, x4, hA, hr, hblt, c0, _⟩ := HH.out.row5 hj
          rw [← hBr.cell (p := ⟨bl, _, none⟩) hblt] at c0
          rw [Int.toNat_natCast, (kR_of hr).1] at e2
          have E1 := Lib.hid e1
          have E2 := Lib.hid e2
          subst hA
          clear e1 e2 hkq hr
          go_wp2_with fail
          go_ret2
          exact ⟨ret_ib E2.out.symm E1.out.symm, hBr⟩
set_option maxRecDepth 100000 in
set_option maxHeartbeats 8000000 in
theorem spec_LightestKind (A : Option Addr) (n c : Nat) (rows : List (List Int)) (strong : Int) (w : World) (h : RdR w 5 A n rows) (hm : n ≤ 1048577) :
    Calls Try.prog 87 #[.slice A n c, .int .i64 strong] w (Ret w (.tuple #[.int .i64 (lkZ rows strong), .bool (lkA rows strong)])) := by
  have hl := h.2.2
  have ck := fun w' (h' : RdR w' 5 A n rows) => spec_l3Kinds A n c rows w' h' hm
  have ci := fun w => spec_l1In strong 1 5000 w
  have hB : Below w.heap.size w w := Below.refl _ _
  have HH := Lib.hid h
  rcases hg : kinds rows with _ | _
  · have hk : lkA rows strong = false := by simp [lkA, hg]
    rw [hk, lk_no hk]
    rw [hg] at ck
    have CK := Lib.hid ck
    clear ck ci hg hk h hl
    go_enter Try.func87, Try.ntmps87
    go_wp2_with (go_at_call 147; refine (CK.out _ (HH.out.below (by repeat (first | exact Below.refl _ _ | assumption | apply Below.drew | apply below_drewN | (refine Below.alloc ?_ (by first | omega | (simp; done) | (simp; omega)) _) | (refine Below.setCell ?_ (by first | omega | (simp; done) | (simp; omega)) _))))).mono ?_; rintro e w' ⟨rfl, hb⟩; have hB : Below w.heap.size w w' := Below.thenn (by repeat (first | exact Below.refl _ _ | assumption | apply Below.drew | apply below_drewN | (refine Below.alloc ?_ (by first | omega | (simp; done) | (simp; omega)) _) | (refine Below.setCell ?_ (by first | omega | (simp; done) | (simp; omega)) _))) hb (by first | omega | (simp; done) | (simp; omega)); have hz : w.heap.size ≤ w'.heap.size := hB.size; (try (have hz1 : w.heap.size + 1 ≤ w'.heap.size := (by have h := hb.size; (try simp at h); omega))); obtain ⟨hc, hf⟩ := bcell hb; skip; clear hb)
    go_ret2
    exact ⟨rfl, (by repeat (first | exact Below.refl _ _ | assumption | apply Below.drew | apply below_drewN | (refine Below.alloc ?_ (by first | omega | (simp; done) | (simp; omega)) _) | (refine Below.setCell ?_ (by first | omega | (simp; done) | (simp; omega)) _)))⟩
  rcases hi : inr strong 1 5000 with _ | _
  · have hk : lkA rows strong = false := by simp [lkA, hi]
    rw [hk, lk_no hk]
    rw [hg] at ck
    rw [hi] at ci
    have CK := Lib.hid ck
    have CI := Lib.hid ci
    clear ck ci hg hi hk h hl
    go_enter Try.func87, Try.ntmps87
    go_wp2_with (first | (go_at_call 147; refine (CK.out _ (HH.out.below (by repeat (first | exact Below.refl _ _ | assumption | apply Below.drew | apply below_drewN | (refine Below.alloc ?_ (by first | omega | (simp; done) | (simp; omega)) _) | (refine Below.setCell ?_ (by first | omega | (simp; done) | (simp; omega)) _))))).mono ?_; rintro e w' ⟨rfl, hb⟩; have hB : Below w.heap.size w w' := Below.thenn (by repeat (first | exact Below.refl _ _ | assumption | apply Below.drew | apply below_drewN | (refine Below.alloc ?_ (by first | omega | (simp; done) | (simp; omega)) _) | (refine Below.setCell ?_ (by first | omega | (simp; done) | (simp; omega)) _))) hb (by first | omega | (simp; done) | (simp; omega)); have hz : w.heap.size ≤ w'.heap.size := hB.size; (try (have hz1 : w.heap.size + 1 ≤ w'.heap.size := (by have h := hb.size; (try simp at h); omega))); obtain ⟨hc, hf⟩ := bcell hb; skip; clear hb) | (go_at_call 102; refine (CI.out _).mono ?_; rintro e w' ⟨rfl, rfl⟩))
    go_ret2
    exact ⟨rfl, (by repeat (first | exact Below.refl _ _ | assumption | apply Below.drew | apply below_drewN | (refine Below.alloc ?_ (by first | omega | (simp; done) | (simp; omega)) _) | (refine Below.setCell ?_ (by first | omega | (simp; done) | (simp; omega)) _)))⟩
  · have hka : lkA rows strong = decide (0 ≤ lkF rows strong n) := by simp [lkA, hg, hi, hl]
    have hn6 : n ≤ 6 := by have := (goodL_iff.1 hg).2; omega
    rw [hg] at ck
    rw [hi] at ci
    have CK := Lib.hid ck
    have CI := Lib.hid ci
    have HL := Lib.hid hl
    have HBD := Lib.hid (fun k => lkF_bd rows strong k)
    have HU := Lib.hid (fun (k : Nat) hh => lkF_up (rows := rows) (strong := strong) (k := k) hh)
    have HKP := Lib.hid (fun (k : Nat) hh => lkF_keep (rows := rows) (strong := strong) (k := k) hh)
    have HZ : Hid ((-1 : Int) = lkF rows strong 0) := Lib.hid rfl
    have HKA := Lib.hid hka
    have HZV : Hid (lkA rows strong = true → lkZ rows strong = idR rows (lkF rows strong n).toNat) := Lib.hid (fun hh => by unfold lkZ; rw [if_pos hh, hl])
    have HZN : Hid (lkA rows strong = false → lkZ rows strong = 0) := Lib.hid (fun hh => lk_no hh)
    clear ck ci hg hi h hl hka
    generalize lkA rows strong = ka at *
    generalize lkZ rows strong = kz at *
    generalize lkF rows strong = f at *
    go_enter Try.func87, Try.ntmps87
    go_wp2_with (first | (go_at_call 147; refine (CK.out _ (HH.out.below (by repeat (first | exact Below.refl _ _ | assumption | apply Below.drew | apply below_drewN | (refine Below.alloc ?_ (by first | omega | (simp; done) | (simp; omega)) _) | (refine Below.setCell ?_ (by first | omega | (simp; done) | (simp; omega)) _))))).mono ?_; rintro e w' ⟨rfl, hb⟩; have hB : Below w.heap.size w w' := Below.thenn (by repeat (first | exact Below.refl _ _ | assumption | apply Below.drew | apply below_drewN | (refine Below.alloc ?_ (by first | omega | (simp; done) | (simp; omega)) _) | (refine Below.setCell ?_ (by first | omega | (simp; done) | (simp; omega)) _))) hb (by first | omega | (simp; done) | (simp; omega)); have hz : w.heap.size ≤ w'.heap.size := hB.size; (try (have hz1 : w.heap.size + 1 ≤ w'.heap.size := (by have h := hb.size; (try simp at h); omega))); obtain ⟨hc, hf⟩ := bcell hb; skip; clear hb) | (go_at_call 102; refine (CI.out _).mono ?_; rintro e w' ⟨rfl, rfl⟩))
    have B1 := Lib.hid hB
    clear hB hc hf hz
    go_loopg [6, 7] n (fun gg q i wr => ∃ (k : Nat) (b : Int), k ≤ n ∧ n ≤ k + gg ∧ i = .int .i64 k ∧ q = .int .i64 b ∧ -1 ≤ b ∧ b < n ∧ b < k ∧ Hid (Below w.heap.size w wr) ∧ Hid (b = f k))
    case atStart => exact ⟨0, -1, by omega, by omega, rfl, rfl, by omega, by omega, by omega, B1, HZ⟩
    case round =>
      obtain ⟨k, b, hk1, hk2, rfl, rfl, hb0, hb1, hb2, HB, HS⟩ := hrel
      have hBr := HB.out
      have hzr := hBr.size
      by_cases hlt : k < n
      · have HU2 := Lib.hid (HU.out k)
        have HK2 := Lib.hid (HKP.out k)
        rw [← HS.out] at HU2 HK2
        obtain ⟨bl, off, x0, x1, x2, x3, x4, hA, hr, hblt, c0, c1, c2, c3, c4⟩ := HH.out.row5 hlt
        rw [← hBr.cell (p := ⟨bl, _, none⟩) hblt] at c0 c1 c2 c3 c4
        have hbr : bl < wr.heap.size := by omega
        obtain ⟨_, e3, e4⟩ := kR_of hr
        rw [e3, e4] at HU2 HK2
        clear e3 e4 hr
        by_cases hs : strong ≤ x4
        · have s1 : decide (strong ≤ x4) = true := decide_eq_true hs
          by_cases hneg : b < 0
          · have s2 : decide (b < 0) = true := decide_eq_true hneg
            have HN := Lib.hid (HU2.out ⟨hs, .inl hneg⟩)
            subst hA
            clear hs HU2 HK2
            go_wp2_with fail
            (refine wp_region_ext (by kernel_rfl) (by kernel_rfl) ?_; have hxe := ext_cells; (repeat (go_big_quiet_step (fail))); refine wpQuiet_nil ?_; intro w' hw'; obtain ⟨nx, hw''⟩ := hw'; have hbx := ext_out hw''; clear hw'' nx hxe; have hB : Below w.heap.size w w' := Below.thenn (by repeat (first | exact Below.refl _ _ | assumption | apply Below.drew | apply below_drewN | (refine Below.alloc ?_ (by first | omega | (simp; done) | (simp; omega)) _) | (refine Below.setCell ?_ (by first | omega | (simp; done) | (simp; omega)) _))) hbx (by first | omega | (simp; done) | (simp; omega)); have hz : w.heap.size ≤ w'.heap.size := hB.size; obtain ⟨hc, hf⟩ := bcell hbx; clear hbx)
            go_wp2_with fail
            go_roundg (n - (k + 1))
            case measure => omega
            case rel => exact ⟨k + 1, k, by omega, by omega, by go_num, rfl, by omega, by omega, by omega, Lib.hid hB, HN.out.symm⟩
          · have s2 : decide (b < 0) = false := decide_eq_false hneg
            obtain ⟨j, rfl⟩ := Int.eq_ofNat_of_zero_le (show 0 ≤ b by omega)
            have hj : j < n := by omega
            obtain ⟨bl', off', z0, z1, z2, z3, z4, hA', hr', _, _, _, _, d3, _⟩ := HH.out.row5 hj
            rw [hA] at hA'
            injection hA' with hA'
            injection hA' with q1 q2
            subst q1 q2 hA
            rw [← hBr.cell (p := ⟨bl, _, none⟩) hblt] at d3
            obtain ⟨_, g3, _⟩ := kR_of hr'
            rw [Int.toNat_natCast, g3] at HU2 HK2
            clear g3 hr'
            by_cases hw : x3 < z3
            · have s3 : decide (x3 < z3) = true := decide_eq_true hw
              have HN := Lib.hid (HU2.out ⟨hs, .inr hw⟩)
              clear hs hw HU2 HK2
              go_wp2_with fail
              (refine wp_region_ext (by kernel_rfl) (by kernel_rfl) ?_; have hxe := ext_cells; (repeat (go_big_quiet_step (fail))); refine wpQuiet_nil ?_; intro w' hw'; obtain ⟨nx, hw''⟩ := hw'; have hbx := ext_out hw''; clear hw'' nx hxe; have hB : Below w.heap.size w w' := Below.thenn (by repeat (first | exact Below.refl _ _ | assumption | apply Below.drew | apply below_drewN | (refine Below.alloc ?_ (by first | omega | (simp; done) | (simp; omega)) _) | (refine Below.setCell ?_ (by first | omega | (simp; done) | (simp; omega)) _))) hbx (by first | omega | (simp; done) | (simp; omega)); have hz : w.heap.size ≤ w'.heap.size := hB.size; obtain ⟨hc, hf⟩ := bcell hbx; clear hbx)
              go_wp2_with fail
              go_roundg (n - (k + 1))
              case measure => omega
              case rel => exact ⟨k + 1, k, by omega, by omega, by go_num, rfl, by omega, by omega, by omega, Lib.hid hB, HN.out.symm⟩
            · have s3 : decide (x3 < z3) = false := decide_eq_false hw
              have HN := Lib.hid (HK2.out (by rintro ⟨_, h1 | h1⟩; omega; exact hw h1))
              clear hs hw HU2 HK2
              go_wp2_with fail
              (refine wp_region_ext (by kernel_rfl) (by kernel_rfl) ?_; have hxe := ext_cells; (repeat (go_big_quiet_step (fail))); refine wpQuiet_nil ?_; intro w' hw'; obtain ⟨nx, hw''⟩ := hw'; have hbx := ext_out hw''; clear hw'' nx hxe; have hB : Below w.heap.size w w' := Below.thenn (by repeat (first | exact Below.refl _ _ | assumption | apply Below.drew | apply below_drewN | (refine Below.alloc ?_ (by first | omega | (simp; done) | (simp; omega)) _) | (refine Below.setCell ?_ (by first | omega | (simp; done) | (simp; omega)) _))) hbx (by first | omega | (simp; done) | (simp; omega)); have hz : w.heap.size ≤ w'.heap.size := hB.size; obtain ⟨hc, hf⟩ := bcell hbx; clear hbx)
              go_wp2_with fail
              go_roundg (n - (k + 1))
              case measure => omega
              case rel => exact ⟨k + 1, j, by omega, by omega, by go_num, rfl, by omega, by omega, by omega, Lib.hid hB, HN.out.symm⟩
        · have s1 : decide (strong ≤ x4) = false := decide_eq_false hs
          have HN := Lib.hid (HK2.out (fun hh => hs hh.1))
          subst hA
          clear hs HU2 HK2
          go_wp2_with fail
          (refine wp_region_ext (by kernel_rfl) (by kernel_rfl) ?_; have hxe := ext_cells; (repeat (go_big_quiet_step (fail))); refine wpQuiet_nil ?_; intro w' hw'; obtain ⟨nx, hw''⟩ := hw'; have hbx := ext_out hw''; clear hw'' nx hxe; have hB : Below w.heap.size w w' := Below.thenn (by repeat (first | exact Below.refl _ _ | assumption | apply Below.drew | apply below_drewN | (refine Below.alloc ?_ (by first | omega | (simp; done) | (simp; omega)) _) | (refine Below.setCell ?_ (by first | omega | (simp; done) | (simp; omega)) _))) hbx (by first | omega | (simp; done) | (simp; omega)); have hz : w.heap.size ≤ w'.heap.size := hB.size; obtain ⟨hc, hf⟩ := bcell hbx; clear hbx)
          go_wp2_with fail
          go_roundg (n - (k + 1))
          case measure => omega
          case rel => exact ⟨k + 1, b, by omega, by omega, by go_num, rfl, by omega, by omega, by omega, Lib.hid hB, HN.out.symm⟩
      · obtain rfl : k = n := by omega
        have hkq := HKA.out
        rw [← HS.out] at hkq
        by_cases hneg : b < 0
        · have e1 : ka = false := by rw [hkq]; exact decide_eq_false (by omega)
          have E1 := Lib.hid e1
          have E2 := Lib.hid (HZN.out e1)
          have s2 : decide (b < 0) = true := decide_eq_true hneg
          clear e1 hkq
          go_wp2_with fail
          go_ret2
          exact ⟨ret_ib E2.out.symm E1.out.symm, hBr⟩
        · have e1 : ka = true := by rw [hkq]; exact decide_eq_true (by omega)
          have e2 := HZV.out e1
          rw [← HS.out] at e2
          have s2 : decide (b < 0) = false := decide_eq_false hneg
          obtain ⟨j, rfl⟩ := Int.eq_ofNat_of_zero_le (show 0 ≤ b by omega)
          have hj : j < k := by omega
          obtain ⟨bl, off, x0, x1, x2, x3, x4, hA, hr, hblt, c0, _⟩ := HH.out.row5 hj
          rw [← hBr.cell (p := ⟨bl, _, none⟩) hblt] at c0
          rw [Int.toNat_natCast, (kR_of hr).1] at e2
          have E1 := Lib.hid e1
          have E2 := Lib.hid e2
          subst hA
          clear e1 e2 hkq hr
          go_wp2_with fail
          go_ret2
          exact ⟨ret_ib E2.out.symm E1.out.symm, hBr⟩
end Go.Proofs.Ytjfmicemnoglkaa
