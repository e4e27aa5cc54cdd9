/- Fractions that are compared: the program's. -/
import Derived.Test.YtjfmicemnoglkaaMul
import Derived.Test.YtjfmicemnoglkaaCmpP
import Derived.Test.YtjfmicemnoglkaaExt
namespace Go.Proofs.Ytjfmicemnoglkaa
open Go.RowKit
set_option linter.unusedVariables false
set_option linter.unusedSimpArgs false

theorem impl_distance (a b : Int) (w : World) (h1 : -4000000000000000000 ≤ a - b) (h2 : a - b ≤ 4000000000000000000) :
    Calls Try.prog 112 #[.int .i64 a, .int .i64 b] w fun e w' => e = .returned (.int .i64 (max (a - b) (b - a))) ∧ w = w' := by
  have u1 : IntKind.i64.wrap (a - b) = a - b := IntWalk.i64_in _ (by omega)
  have u2 : IntKind.i64.wrap (b - a) = b - a := IntWalk.i64_in _ (by omega)
  go_enter Try.func112, Try.ntmps112
  go_wp2
  all_goals (go_ret; exact ⟨ret_int (by omega), rfl⟩)
theorem impl_dist0 (a : Int) (w : World) (h1 : -4000000000000000000 ≤ a) (h2 : a ≤ 4000000000000000000) :
    Calls Try.prog 112 #[.int .i64 a, .int .i64 0] w fun e w' => e = .returned (.int .i64 (a.natAbs : Int)) ∧ w = w' := by
  have := impl_distance a 0 w (by omega) (by omega)
  have e : max (a - 0) (0 - a) = (a.natAbs : Int) := by omega
  rw [e] at this
  exact this
theorem impl_sign (n : Int) (w : World) : Calls Try.prog 152 #[.int .i64 n] w fun e w' => e = .returned (.int .i64 (sgnI n)) ∧ w = w' := by
  go_enter Try.func152, Try.ntmps152
  go_wp2
  all_goals (go_ret; exact ⟨ret_int (by unfold sgnI; omega), rfl⟩)
theorem cmp_halves (x y : Nat) : ∃ h1 l1 h2 l2 : Nat, x / 18446744073709551616 = h1 ∧ x % 18446744073709551616 = l1 ∧ y / 18446744073709551616 = h2 ∧ y % 18446744073709551616 = l2 ∧
    ((h1 < h2 ∧ outV x y = -1) ∨ (h1 = h2 ∧ l1 < l2 ∧ outV x y = -1) ∨ (h2 < h1 ∧ outV x y = 1) ∨ (h1 = h2 ∧ l2 < l1 ∧ outV x y = 1) ∨ (h1 = h2 ∧ l1 = l2 ∧ outV x y = 0)) := by
  refine ⟨_, _, _, _, rfl, rfl, rfl, rfl, ?_⟩
  unfold outV
  split
  · omega
  · split <;> omega
set_option maxRecDepth 100000 in
set_option maxHeartbeats 8000000 in
theorem impl_compare (a b c d : Int) (wo : World) (ha : -4000000000000000000 ≤ a ∧ a ≤ 4000000000000000000) (hc : -4000000000000000000 ≤ c ∧ c ≤ 4000000000000000000) (hb : 0 < b ∧ b ≤ 4000000000000000000) (hd : 0 < d ∧ d ≤ 4000000000000000000) :
    Calls Try.prog 113 #[.agg #[.int .i64 a, .int .i64 b], .agg #[.int .i64 c, .int .i64 d]] wo (Ret wo (.int .i64 (cmpV a b c d))) := by
  have CSG := Lib.hid impl_sign
  have CA := Lib.hid (fun w => impl_dist0 a w ha.1 ha.2)
  have CC := Lib.hid (fun w => impl_dist0 c w hc.1 hc.2)
  have HD := Lib.hid (cmp_diff (a := a) (b := b) (c := c) (d := d) hb.1 hd.1)
  have HS := Lib.hid (cmp_same (a := a) (b := b) (c := c) (d := d) hb.1 hd.1)
  obtain ⟨e1, e2⟩ := sgnI_bd a
  obtain ⟨e3, e4⟩ := sgnI_bd c
  have hWV : Below wo.heap.size wo ((wo.alloc (.cells #[.int .i64 a, .int .i64 b] 115)).alloc (.cells #[.int .i64 c, .int .i64 d] 115)) := ((Below.refl _ _).alloc (Nat.le_refl _) _).alloc (by simp) _
  have T1 := (Blk.new wo 115 #[.int .i64 a, .int .i64 b]).alloc (.cells #[.int .i64 c, .int .i64 d] 115)
  have T2 := Blk.new (wo.alloc (.cells #[.int .i64 a, .int .i64 b] 115)) 115 #[.int .i64 c, .int .i64 d]
  have hsz : (wo.alloc (.cells #[.int .i64 a, .int .i64 b] 115)).heap.size = wo.heap.size + 1 := by simp
  rw [hsz] at T2
  have v0 := T1.cell 0
  have v1 := T1.cell 1
  have v2 := T2.cell 0
  have v3 := T2.cell 1
  have l1 := T1.lt
  have l2 := T2.lt
  simp only [List.getElem?_toArray, List.getElem?_cons_zero, List.getElem?_cons_succ] at v0 v1 v2 v3
  generalize hq : wo.heap.size + 1 = q at *
  have HQ := Lib.hid hq
  clear hq hsz T1 T2
  by_cases hne : sgnI a = sgnI c
  · have HV := Lib.hid (HS.out hne)
    clear HS HD
    have hx : a.natAbs < 18446744073709551616 := by omega
    have hy : c.natAbs < 18446744073709551616 := by omega
    obtain ⟨D, rfl⟩ := Int.eq_ofNat_of_zero_le (Int.le_of_lt hd.1)
    obtain ⟨B, rfl⟩ := Int.eq_ofNat_of_zero_le (Int.le_of_lt hb.1)
    simp only [Int.toNat_natCast] at HV
    have hD : D < 18446744073709551616 := by omega
    have hBB : B < 18446744073709551616 := by omega
    have M1 := Lib.hid (fun w => bits_Mul64 a.natAbs D hx hD w)
    have M2 := Lib.hid (fun w => bits_Mul64 c.natAbs B hy hBB w)
    obtain ⟨h1, k1, h2, k2, p1, p2, p3, p4, hcase⟩ := cmp_halves (a.natAbs * D) (c.natAbs * B)
    rw [p1, p2] at M1
    rw [p3, p4] at M2
    generalize outV (a.natAbs * D) (c.natAbs * B) = o at *
    generalize cmpV a (B : Int) c (D : Int) = R at *
    generalize a.natAbs = X at *
    generalize c.natAbs = Y at *
    have u1 : IntKind.u64.wrap (X : Int) = (X : Int) := Mul64.wrapN _ hx
    have u2 : IntKind.u64.wrap (Y : Int) = (Y : Int) := Mul64.wrapN _ hy
    have u3 : IntKind.u64.wrap (D : Int) = (D : Int) := Mul64.wrapN _ hD
    have u4 : IntKind.u64.wrap (B : Int) = (B : Int) := Mul64.wrapN _ hBB
    have CS1 := Lib.hid (fun w => CSG.out a w)
    have CS2 := Lib.hid (fun w => hne ▸ CSG.out c w)
    clear p1 p2 p3 p4 CSG ha hc hb hd
    generalize sgnI a = s at *
    clear hne e3 e4
    have m1 : IntKind.i64.wrap (-1 * s) = -s := (IntWalk.i64_in _ (by omega)).trans (by omega)
    have m2 : IntKind.i64.wrap (-s) = -s := IntWalk.i64_in _ (by omega)
    have m3 : IntKind.i64.wrap s = s := IntWalk.i64_in _ (by omega)
    go_enter Try.func113, Try.ntmps113
    go_wp2_with fail
    rw [HQ.out]
    generalize (wo.alloc (.cells #[.int .i64 a, .int .i64 (B : Int)] 115)).alloc (.cells #[.int .i64 c, .int .i64 (D : Int)] 115) = w at *
    have BW := Lib.hid hWV
    have hB : Below w.heap.size w w := Below.refl _ _
    clear hWV
    (refine wp_region_ext (by kernel_rfl) (by kernel_rfl) ?_; have hxe := ext_cells; (repeat (go_big_quiet_step (first | (go_at_call 152; exact ext_pure (CS1.out _)) | (go_at_call 152; exact ext_pure (CS2.out _))))); refine wpQuiet_nil ?_; intro w' hw'; obtain ⟨nx, hw''⟩ := hw'; have hbx := ext_out hw''; clear hw'' nx hxe; have hB : Below w.heap.size w w' := Below.thenn (by repeat (first | exact Below.refl _ _ | assumption | apply Below.drew | apply below_drewN | (refine Below.alloc ?_ (by first | omega | (simp; done) | (simp; omega)) _) | (refine Below.setCell ?_ (by first | omega | (simp; done) | (simp; omega)) _))) hbx (by first | omega | (simp; done) | (simp; omega)); have hz : w.heap.size ≤ w'.heap.size := hB.size; obtain ⟨hc, hf⟩ := bcell hbx; clear hbx)
    (have v0 := (hB.cell (p := ⟨wo.heap.size, 0, none⟩) l1).trans v0; have v1 := (hB.cell (p := ⟨wo.heap.size, 1, none⟩) l1).trans v1; have v2 := (hB.cell (p := ⟨q, 0, none⟩) l2).trans v2; have v3 := (hB.cell (p := ⟨q, 1, none⟩) l2).trans v3; have l1 := Nat.lt_of_lt_of_le l1 hB.size; have l2 := Nat.lt_of_lt_of_le l2 hB.size; have BW := Lib.hid (Below.thenn BW.out hB BW.out.size); clear hc hf hz hB; generalize w' = w at *; have hB : Below w.heap.size w w := Below.refl _ _)
    go_wp2_with fail
    (refine wp_region_ext (by kernel_rfl) (by kernel_rfl) ?_; have hxe := ext_cells; (repeat (go_big_quiet_step (first | (go_at_call 112; exact ext_pure (CA.out _)) | (go_at_call 153; exact ext_pure (M1.out _))))); refine wpQuiet_nil ?_; intro w' hw'; obtain ⟨nx, hw''⟩ := hw'; have hbx := ext_out hw''; clear hw'' nx hxe; have hB : Below w.heap.size w w' := Below.thenn (by repeat (first | exact Below.refl _ _ | assumption | apply Below.drew | apply below_drewN | (refine Below.alloc ?_ (by first | omega | (simp; done) | (simp; omega)) _) | (refine Below.setCell ?_ (by first | omega | (simp; done) | (simp; omega)) _))) hbx (by first | omega | (simp; done) | (simp; omega)); have hz : w.heap.size ≤ w'.heap.size := hB.size; obtain ⟨hc, hf⟩ := bcell hbx; clear hbx)
    (have v0 := (hB.cell (p := ⟨wo.heap.size, 0, none⟩) l1).trans v0; have v1 := (hB.cell (p := ⟨wo.heap.size, 1, none⟩) l1).trans v1; have v2 := (hB.cell (p := ⟨q, 0, none⟩) l2).trans v2; have v3 := (hB.cell (p := ⟨q, 1, none⟩) l2).trans v3; have l1 := Nat.lt_of_lt_of_le l1 hB.size; have l2 := Nat.lt_of_lt_of_le l2 hB.size; have BW := Lib.hid (Below.thenn BW.out hB BW.out.size); clear hc hf hz hB; generalize w' = w at *; have hB : Below w.heap.size w w := Below.refl _ _)
    go_wp2_with fail
    (refine wp_region_ext (by kernel_rfl) (by kernel_rfl) ?_; have hxe := ext_cells; (repeat (go_big_quiet_step (first | (go_at_call 112; exact ext_pure (CC.out _)) | (go_at_call 153; exact ext_pure (M2.out _))))); refine wpQuiet_nil ?_; intro w' hw'; obtain ⟨nx, hw''⟩ := hw'; have hbx := ext_out hw''; clear hw'' nx hxe; have hB : Below w.heap.size w w' := Below.thenn (by repeat (first | exact Below.refl _ _ | assumption | apply Below.drew | apply below_drewN | (refine Below.alloc ?_ (by first | omega | (simp; done) | (simp; omega)) _) | (refine Below.setCell ?_ (by first | omega | (simp; done) | (simp; omega)) _))) hbx (by first | omega | (simp; done) | (simp; omega)); have hz : w.heap.size ≤ w'.heap.size := hB.size; obtain ⟨hc, hf⟩ := bcell hbx; clear hbx)
    (have v0 := (hB.cell (p := ⟨wo.heap.size, 0, none⟩) l1).trans v0; have v1 := (hB.cell (p := ⟨wo.heap.size, 1, none⟩) l1).trans v1; have v2 := (hB.cell (p := ⟨q, 0, none⟩) l2).trans v2; have v3 := (hB.cell (p := ⟨q, 1, none⟩) l2).trans v3; have l1 := Nat.lt_of_lt_of_le l1 hB.size; have l2 := Nat.lt_of_lt_of_le l2 hB.size; have BW := Lib.hid (Below.thenn BW.out hB BW.out.size); clear hc hf hz hB; generalize w' = w at *; have hB : Below w.heap.size w w := Below.refl _ _)
    rcases hcase with ⟨hc1, rfl⟩ | ⟨rfl, hc1, rfl⟩ | ⟨hc1, rfl⟩ | ⟨rfl, hc1, rfl⟩ | ⟨rfl, rfl, rfl⟩
    all_goals
      go_wp2_with (go_at_call 152; refine (CS1.out _).mono ?_; rintro e w' ⟨rfl, rfl⟩)
      go_ret
      exact ⟨ret_int (by first | (rw [← HV.out]; omega) | (rw [m1, ← HV.out]; omega) | (rw [m2, ← HV.out]; omega) | (rw [m3, ← HV.out]; omega) | (rw [← HV.out]; simp; done) | (rw [← HV.out]; simp [m1, m2, m3])), BW.out⟩
  · have HV := Lib.hid (HD.out hne)
    clear HS HD CA CC
    have CS1 := Lib.hid (fun w => CSG.out a w)
    have CS2 := Lib.hid (fun w => CSG.out c w)
    have CS3 := Lib.hid (fun w => CSG.out (sgnI a - sgnI c) w)
    have u1 : IntKind.i64.wrap (sgnI a - sgnI c) = sgnI a - sgnI c := IntWalk.i64_in _ (by omega)
    have hn : (sgnI a != sgnI c) = true := by simpa using hne
    rw [HV.out] at CS3
    clear CSG
    generalize sgnI a = s at *
    generalize sgnI c = r at *
    generalize cmpV a b c d = R at *
    clear hne
    go_enter Try.func113, Try.ntmps113
    go_wp2_with fail
    rw [HQ.out]
    generalize (wo.alloc (.cells #[.int .i64 a, .int .i64 b] 115)).alloc (.cells #[.int .i64 c, .int .i64 d] 115) = w at *
    have BW := Lib.hid hWV
    have hB : Below w.heap.size w w := Below.refl _ _
    clear hWV
    (refine wp_region_ext (by kernel_rfl) (by kernel_rfl) ?_; have hxe := ext_cells; (repeat (go_big_quiet_step (first | (go_at_call 152; exact ext_pure (CS1.out _)) | (go_at_call 152; exact ext_pure (CS2.out _))))); refine wpQuiet_nil ?_; intro w' hw'; obtain ⟨nx, hw''⟩ := hw'; have hbx := ext_out hw''; clear hw'' nx hxe; have hB : Below w.heap.size w w' := Below.thenn (by repeat (first | exact Below.refl _ _ | assumption | apply Below.drew | apply below_drewN | (refine Below.alloc ?_ (by first | omega | (simp; done) | (simp; omega)) _) | (refine Below.setCell ?_ (by first | omega | (simp; done) | (simp; omega)) _))) hbx (by first | omega | (simp; done) | (simp; omega)); have hz : w.heap.size ≤ w'.heap.size := hB.size; obtain ⟨hc, hf⟩ := bcell hbx; clear hbx)
    (have v0 := (hB.cell (p := ⟨wo.heap.size, 0, none⟩) l1).trans v0; have v1 := (hB.cell (p := ⟨wo.heap.size, 1, none⟩) l1).trans v1; have v2 := (hB.cell (p := ⟨q, 0, none⟩) l2).trans v2; have v3 := (hB.cell (p := ⟨q, 1, none⟩) l2).trans v3; have l1 := Nat.lt_of_lt_of_le l1 hB.size; have l2 := Nat.lt_of_lt_of_le l2 hB.size; have BW := Lib.hid (Below.thenn BW.out hB BW.out.size); clear hc hf hz hB; generalize w' = w at *; have hB : Below w.heap.size w w := Below.refl _ _)
    go_wp2_with fail
    (refine wp_region_ext (by kernel_rfl) (by kernel_rfl) ?_; have hxe := ext_cells; (repeat (go_big_quiet_step (first | (go_at_call 152; exact ext_pure (CS1.out _)) | (go_at_call 152; exact ext_pure (CS2.out _)) | (go_at_call 152; exact ext_pure (CS3.out _))))); refine wpQuiet_nil ?_; intro w' hw'; obtain ⟨nx, hw''⟩ := hw'; have hbx := ext_out hw''; clear hw'' nx hxe; have hB : Below w.heap.size w w' := Below.thenn (by repeat (first | exact Below.refl _ _ | assumption | apply Below.drew | apply below_drewN | (refine Below.alloc ?_ (by first | omega | (simp; done) | (simp; omega)) _) | (refine Below.setCell ?_ (by first | omega | (simp; done) | (simp; omega)) _))) hbx (by first | omega | (simp; done) | (simp; omega)); have hz : w.heap.size ≤ w'.heap.size := hB.size; obtain ⟨hc, hf⟩ := bcell hbx; clear hbx)
    (have v0 := (hB.cell (p := ⟨wo.heap.size, 0, none⟩) l1).trans v0; have v1 := (hB.cell (p := ⟨wo.heap.size, 1, none⟩) l1).trans v1; have v2 := (hB.cell (p := ⟨q, 0, none⟩) l2).trans v2; have v3 := (hB.cell (p := ⟨q, 1, none⟩) l2).trans v3; have l1 := Nat.lt_of_lt_of_le l1 hB.size; have l2 := Nat.lt_of_lt_of_le l2 hB.size; have BW := Lib.hid (Below.thenn BW.out hB BW.out.size); clear hc hf hz hB; generalize w' = w at *; have hB : Below w.heap.size w w := Below.refl _ _)
    go_wp2_with fail
    go_ret
    exact ⟨rfl, BW.out⟩
end Go.Proofs.Ytjfmicemnoglkaa
