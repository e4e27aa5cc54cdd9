/- Ropes: damages of a kind: the program's and the reference's. -/
import Derived.Test.YtjfmicemnoglkaaRopB
namespace Go.Proofs.Ytjfmicemnoglkaa
open Go.RowKit
set_option linter.unusedVariables false
set_option linter.unusedSimpArgs false

/-- What a loop over the damages holds: of a valid kind the rest is as good as all. -/
def dRel (i s x g t : Int) (rows : List (List Int)) (k : Nat) : Prop := kndOk i s x g t = true → dmgF s x (dpA rows k) (dpS rows k) (rows.drop k) = dmgA s x rows
section
variable {i s x g t : Int} {rows : List (List Int)} {k : Nat}
theorem dRel_zero : dRel i s x g t rows 0 := fun _ => by simp [dmgA, dp_zero]
theorem dmgs_of_no (h : kndOk i s x g t = true → dmgA s x rows = false) : dmgs i s x g t rows = false := by
  unfold dmgs
  rcases hk : kndOk i s x g t with _ | _
  · rfl
  · rw [h hk, Bool.and_false, Bool.and_false]
theorem dRel_bad {a b c S1 : Int} (h : dRel i s x g t rows k) (hr : rows[k]? = some [a, b, c]) (hS : kndOk i s x g t = true → S1 = s - 1) (ho : (inr a 0 3000 && (inr b 0 S1 && inr c 1 x)) = false) : dmgs i s x g t rows = false :=
  dmgs_of_no fun hk => by rw [← h hk]; exact dmgF_bad hr (by rw [hS hk] at ho; exact ho)
theorem dRel_low {a b c : Int} (h : dRel i s x g t rows k) (hr : rows[k]? = some [a, b, c]) (ho : dmgLt (dpA rows k) (dpS rows k) a b = false) : dmgs i s x g t rows = false :=
  dmgs_of_no fun hk => by rw [← h hk]; exact dmgF_low hr ho
theorem dRel_step {a b c S1 : Int} (h : dRel i s x g t rows k) (hr : rows[k]? = some [a, b, c]) (hS : kndOk i s x g t = true → S1 = s - 1) (ho : (inr a 0 3000 && (inr b 0 S1 && inr c 1 x)) = true) (hl : dmgLt (dpA rows k) (dpS rows k) a b = true) : dRel i s x g t rows (k + 1) :=
  fun hk => (dmgF_step hr (by rw [hS hk] at ho; exact ho) hl).symm.trans (h hk)
theorem dRel_end {n : Nat} (h : dRel i s x g t rows k) (hl : rows.length = n) (hk : n ≤ k) : dmgs i s x g t rows = (kndOk i s x g t && decide ((n : Int) ≤ 15)) := by
  unfold dmgs
  rcases hk2 : kndOk i s x g t with _ | _
  · rfl
  · rw [← h hk2, dmgF_end hl hk, Bool.and_true, hl]
    congr 1
    rw [decide_eq_decide]
    omega
theorem dp_first {a b : Int} (h : inr a 0 3000 = true) : dmgLt (dpA rows 0) (dpS rows 0) a b = true := by
  simp only [inr, decide_eq_true_eq] at h
  rw [(dp_zero rows).1, (dp_zero rows).2]
  exact dmgLt_iff.2 (.inl (by omega))
theorem dp_at {p q r : Int} (hk : 0 < k) (h : rows[k - 1]? = some [p, q, r]) : dpA rows k = p ∧ dpS rows k = q := by
  have := dp_next h
  rw [show k - 1 + 1 = k by omega] at this
  exact this
end
set_option maxRecDepth 100000 in
set_option maxHeartbeats 8000000 in
theorem impl_AreDamages (y0 y1 y2 y3 y4 : Int) (A : Option Addr) (n c : Nat) (rows : List (List Int)) (wo : World) (h : RdR wo 3 A n rows) (hm : n ≤ 1048577) :
    Calls Try.prog 138 #[.agg #[.int .i64 y0, .int .i64 y1, .int .i64 y2, .int .i64 y3, .int .i64 y4], .slice A n c] wo (Ret wo (.bool (dmgs y0 y1 y2 y3 y4 rows))) := by
  have ck := fun w => impl_IsRopeKind y0 y1 y2 y3 y4 w
  have hl := h.2.2
  rcases hk : kndOk y0 y1 y2 y3 y4 with _ | _
  · have hd : dmgs y0 y1 y2 y3 y4 rows = false := by simp [dmgs, hk]
    rw [hd]
    rw [hk] at ck
    have CK := Lib.hid ck
    clear ck hk hd hl
    go_enter Try.func138, Try.ntmps138
    go_wp2_with fail
    (have hWV : Below wo.heap.size wo (wo.alloc (.cells #[.int .i64 y0, .int .i64 y1, .int .i64 y2, .int .i64 y3, .int .i64 y4] 85)) := (Below.refl _ _).alloc (Nat.le_refl _) _; have hV0 : wo.heap.size < (wo.alloc (.cells #[.int .i64 y0, .int .i64 y1, .int .i64 y2, .int .i64 y3, .int .i64 y4] 85)).heap.size := (by simp); have hv0 : (wo.alloc (.cells #[.int .i64 y0, .int .i64 y1, .int .i64 y2, .int .i64 y3, .int .i64 y4] 85)).cell? ⟨wo.heap.size, 0, none⟩ = some (.int .i64 y0) := (by rw [cell_of_row _ _ _ _ _ _ (heap_alloc_new wo _)]; rfl); have hv1 : (wo.alloc (.cells #[.int .i64 y0, .int .i64 y1, .int .i64 y2, .int .i64 y3, .int .i64 y4] 85)).cell? ⟨wo.heap.size, 1, none⟩ = some (.int .i64 y1) := (by rw [cell_of_row _ _ _ _ _ _ (heap_alloc_new wo _)]; rfl); have hv2 : (wo.alloc (.cells #[.int .i64 y0, .int .i64 y1, .int .i64 y2, .int .i64 y3, .int .i64 y4] 85)).cell? ⟨wo.heap.size, 2, none⟩ = some (.int .i64 y2) := (by rw [cell_of_row _ _ _ _ _ _ (heap_alloc_new wo _)]; rfl); have hv3 : (wo.alloc (.cells #[.int .i64 y0, .int .i64 y1, .int .i64 y2, .int .i64 y3, .int .i64 y4] 85)).cell? ⟨wo.heap.size, 3, none⟩ = some (.int .i64 y3) := (by rw [cell_of_row _ _ _ _ _ _ (heap_alloc_new wo _)]; rfl); have hv4 : (wo.alloc (.cells #[.int .i64 y0, .int .i64 y1, .int .i64 y2, .int .i64 y3, .int .i64 y4] 85)).cell? ⟨wo.heap.size, 4, none⟩ = some (.int .i64 y4) := (by rw [cell_of_row _ _ _ _ _ _ (heap_alloc_new wo _)]; rfl); generalize wo.alloc (.cells #[.int .i64 y0, .int .i64 y1, .int .i64 y2, .int .i64 y3, .int .i64 y4] 85) = w at hWV hV0 hv0 hv1 hv2 hv3 hv4 ⊢; have hr := h.below hWV; have hB : Below w.heap.size w w := Below.refl _ _; have hwz : wo.heap.size ≤ w.heap.size := hWV.size)
    go_wp2_with (go_at_call 148; refine (CK.out _).mono ?_; rintro e w' ⟨rfl, hb⟩; have hB : Below w.heap.size w w' := Below.thenn (by repeat (first | exact Below.refl _ _ | assumption | apply Below.drew | apply below_drewN | (refine Below.alloc ?_ (by first | omega | (simp; done) | (simp; omega)) _) | (refine Below.setCell ?_ (by first | omega | (simp; done) | (simp; omega)) _))) hb (by first | omega | (simp; done) | (simp; omega)); have hz : w.heap.size ≤ w'.heap.size := hB.size; obtain ⟨hc, hf⟩ := bcell hb; clear hb)
    go_ret
    exact ⟨rfl, Below.thenn hWV hB hWV.size⟩
  by_cases hn : 15 < n
  · have hd : dmgs y0 y1 y2 y3 y4 rows = false := by simp [dmgs]; intros; omega
    rw [hd]
    rw [hk] at ck
    have CK := Lib.hid ck
    clear ck hk hd hl
    go_enter Try.func138, Try.ntmps138
    go_wp2_with fail
    (have hWV : Below wo.heap.size wo (wo.alloc (.cells #[.int .i64 y0, .int .i64 y1, .int .i64 y2, .int .i64 y3, .int .i64 y4] 85)) := (Below.refl _ _).alloc (Nat.le_refl _) _; have hV0 : wo.heap.size < (wo.alloc (.cells #[.int .i64 y0, .int .i64 y1, .int .i64 y2, .int .i64 y3, .int .i64 y4] 85)).heap.size := (by simp); have hv0 : (wo.alloc (.cells #[.int .i64 y0, .int .i64 y1, .int .i64 y2, .int .i64 y3, .int .i64 y4] 85)).cell? ⟨wo.heap.size, 0, none⟩ = some (.int .i64 y0) := (by rw [cell_of_row _ _ _ _ _ _ (heap_alloc_new wo _)]; rfl); have hv1 : (wo.alloc (.cells #[.int .i64 y0, .int .i64 y1, .int .i64 y2, .int .i64 y3, .int .i64 y4] 85)).cell? ⟨wo.heap.size, 1, none⟩ = some (.int .i64 y1) := (by rw [cell_of_row _ _ _ _ _ _ (heap_alloc_new wo _)]; rfl); have hv2 : (wo.alloc (.cells #[.int .i64 y0, .int .i64 y1, .int .i64 y2, .int .i64 y3, .int .i64 y4] 85)).cell? ⟨wo.heap.size, 2, none⟩ = some (.int .i64 y2) := (by rw [cell_of_row _ _ _ _ _ _ (heap_alloc_new wo _)]; rfl); have hv3 : (wo.alloc (.cells #[.int .i64 y0, .int .i64 y1, .int .i64 y2, .int .i64 y3, .int .i64 y4] 85)).cell? ⟨wo.heap.size, 3, none⟩ = some (.int .i64 y3) := (by rw [cell_of_row _ _ _ _ _ _ (heap_alloc_new wo _)]; rfl); have hv4 : (wo.alloc (.cells #[.int .i64 y0, .int .i64 y1, .int .i64 y2, .int .i64 y3, .int .i64 y4] 85)).cell? ⟨wo.heap.size, 4, none⟩ = some (.int .i64 y4) := (by rw [cell_of_row _ _ _ _ _ _ (heap_alloc_new wo _)]; rfl); generalize wo.alloc (.cells #[.int .i64 y0, .int .i64 y1, .int .i64 y2, .int .i64 y3, .int .i64 y4] 85) = w at hWV hV0 hv0 hv1 hv2 hv3 hv4 ⊢; have hr := h.below hWV; have hB : Below w.heap.size w w := Below.refl _ _; have hwz : wo.heap.size ≤ w.heap.size := hWV.size)
    go_wp2_with (go_at_call 148; refine (CK.out _).mono ?_; rintro e w' ⟨rfl, hb⟩; have hB : Below w.heap.size w w' := Below.thenn (by repeat (first | exact Below.refl _ _ | assumption | apply Below.drew | apply below_drewN | (refine Below.alloc ?_ (by first | omega | (simp; done) | (simp; omega)) _) | (refine Below.setCell ?_ (by first | omega | (simp; done) | (simp; omega)) _))) hb (by first | omega | (simp; done) | (simp; omega)); have hz : w.heap.size ≤ w'.heap.size := hB.size; obtain ⟨hc, hf⟩ := bcell hb; clear hb)
    go_ret
    exact ⟨rfl, Below.thenn hWV hB hWV.size⟩
  · rw [hk] at ck
    have hkb := kndOk_iff.1 hk
    have HK := Lib.hid hk
    have HL := Lib.hid hl
    have HBAD := Lib.hid (fun (k : Nat) (a b d : Int) (hh : dRel y0 y1 y2 y3 y4 rows k) (hr : rows[k]? = some [a, b, d]) (ho : (inr a 0 3000 && (inr b 0 (y1 - 1) && inr d 1 y2)) = false) => dRel_bad hh hr (fun _ => rfl) ho)
    have HLOW := Lib.hid (fun (k : Nat) (a b d : Int) (hh : dRel y0 y1 y2 y3 y4 rows k) (hr : rows[k]? = some [a, b, d]) => dRel_low hh hr)
    have HSTEP := Lib.hid (fun (k : Nat) (a b d : Int) (hh : dRel y0 y1 y2 y3 y4 rows k) (hr : rows[k]? = some [a, b, d]) (ho : (inr a 0 3000 && (inr b 0 (y1 - 1) && inr d 1 y2)) = true) => dRel_step hh hr (fun _ => rfl) ho)
    have HEND : Hid (∀ k, dRel y0 y1 y2 y3 y4 rows k → n ≤ k → dmgs y0 y1 y2 y3 y4 rows = true) := Lib.hid (fun k hh hkn => by rw [dRel_end hh hl hkn, hk]; simp; omega)
    have HZ : Hid (dRel y0 y1 y2 y3 y4 rows 0) := Lib.hid dRel_zero
    have CK := Lib.hid ck
    have CD := Lib.hid (fun (a b d : Int) w => impl_isDamage y0 y1 y2 y3 y4 a b d w (by omega))
    clear ck hk hl
    generalize dmgs y0 y1 y2 y3 y4 rows = D at *
    generalize dRel y0 y1 y2 y3 y4 rows = REL at *
    go_enter Try.func138, Try.ntmps138
    go_wp2_with fail
    (have hWV : Below wo.heap.size wo (wo.alloc (.cells #[.int .i64 y0, .int .i64 y1, .int .i64 y2, .int .i64 y3, .int .i64 y4] 85)) := (Below.refl _ _).alloc (Nat.le_refl _) _; have hV0 : wo.heap.size < (wo.alloc (.cells #[.int .i64 y0, .int .i64 y1, .int .i64 y2, .int .i64 y3, .int .i64 y4] 85)).heap.size := (by simp); have hv0 : (wo.alloc (.cells #[.int .i64 y0, .int .i64 y1, .int .i64 y2, .int .i64 y3, .int .i64 y4] 85)).cell? ⟨wo.heap.size, 0, none⟩ = some (.int .i64 y0) := (by rw [cell_of_row _ _ _ _ _ _ (heap_alloc_new wo _)]; rfl); have hv1 : (wo.alloc (.cells #[.int .i64 y0, .int .i64 y1, .int .i64 y2, .int .i64 y3, .int .i64 y4] 85)).cell? ⟨wo.heap.size, 1, none⟩ = some (.int .i64 y1) := (by rw [cell_of_row _ _ _ _ _ _ (heap_alloc_new wo _)]; rfl); have hv2 : (wo.alloc (.cells #[.int .i64 y0, .int .i64 y1, .int .i64 y2, .int .i64 y3, .int .i64 y4] 85)).cell? ⟨wo.heap.size, 2, none⟩ = some (.int .i64 y2) := (by rw [cell_of_row _ _ _ _ _ _ (heap_alloc_new wo _)]; rfl); have hv3 : (wo.alloc (.cells #[.int .i64 y0, .int .i64 y1, .int .i64 y2, .int .i64 y3, .int .i64 y4] 85)).cell? ⟨wo.heap.size, 3, none⟩ = some (.int .i64 y3) := (by rw [cell_of_row _ _ _ _ _ _ (heap_alloc_new wo _)]; rfl); have hv4 : (wo.alloc (.cells #[.int .i64 y0, .int .i64 y1, .int .i64 y2, .int .i64 y3, .int .i64 y4] 85)).cell? ⟨wo.heap.size, 4, none⟩ = some (.int .i64 y4) := (by rw [cell_of_row _ _ _ _ _ _ (heap_alloc_new wo _)]; rfl); generalize wo.alloc (.cells #[.int .i64 y0, .int .i64 y1, .int .i64 y2, .int .i64 y3, .int .i64 y4] 85) = w at hWV hV0 hv0 hv1 hv2 hv3 hv4 ⊢; have hr := h.below hWV; have hB : Below w.heap.size w w := Below.refl _ _; have hwz : wo.heap.size ≤ w.heap.size := hWV.size)
    go_wp2_with (go_at_call 148; refine (CK.out _).mono ?_; rintro e w' ⟨rfl, hb⟩; have hB : Below w.heap.size w w' := Below.thenn (by repeat (first | exact Below.refl _ _ | assumption | apply Below.drew | apply below_drewN | (refine Below.alloc ?_ (by first | omega | (simp; done) | (simp; omega)) _) | (refine Below.setCell ?_ (by first | omega | (simp; done) | (simp; omega)) _))) hb (by first | omega | (simp; done) | (simp; omega)); have hz : w.heap.size ≤ w'.heap.size := hB.size; obtain ⟨hc, hf⟩ := bcell hb; clear hb)
    have HB1 := Lib.hid hB
    clear hB hc hf hz
    go_loopg [17] n (fun gg i wr => ∃ k : Nat, k ≤ n ∧ n ≤ k + gg ∧ i = .int .i64 k ∧ Hid (Below w.heap.size w wr) ∧ Hid (REL k))
    case atStart => exact ⟨0, by omega, by omega, rfl, HB1, HZ⟩
    case round =>
      obtain ⟨k, hk1, hk2, rfl, HB, HR⟩ := hrel
      have hBr := HB.out
      have hzr := hBr.size
      have v0 := (hBr.cell (p := ⟨wo.heap.size, 0, none⟩) hV0).trans hv0
      have v1 := (hBr.cell (p := ⟨wo.heap.size, 1, none⟩) hV0).trans hv1
      have v2 := (hBr.cell (p := ⟨wo.heap.size, 2, none⟩) hV0).trans hv2
      have v3 := (hBr.cell (p := ⟨wo.heap.size, 3, none⟩) hV0).trans hv3
      have v4 := (hBr.cell (p := ⟨wo.heap.size, 4, none⟩) hV0).trans hv4
      have hVr : wo.heap.size < wr.heap.size := Nat.lt_of_lt_of_le hV0 hzr
      by_cases hlt : k < n
      · obtain ⟨b, off, x0, x1, x2, rfl, hr, hblt, c0, c1, c2⟩ := hr.row3 hlt
        rw [← hBr.cell (p := ⟨b, _, none⟩) hblt] at c0 c1 c2
        have hbr : b < wr.heap.size := by omega
        have HRW := Lib.hid hr
        have co := fun w => CD.out x0 x1 x2 w
        have eo : dmgOk y1 y2 [x0, x1, x2] = (inr x0 0 3000 && (inr x1 0 (y1 - 1) && inr x2 1 y2)) := rfl
        rcases ho : (inr x0 0 3000 && (inr x1 0 (y1 - 1) && inr x2 1 y2)) with _ | _
        · rw [eo, ho] at co
          have CO := Lib.hid co
          have HF := Lib.hid (HBAD.out k x0 x1 x2 HR.out hr ho)
          clear co eo ho hr HSTEP HLOW HBAD HEND
          go_wp2_with fail
          (refine wp_region_ext (by kernel_rfl) (by kernel_rfl) ?_; have hxe := ext_cells; (repeat (go_big_quiet_step ((go_at_call 159; exact ext_ret (CO.out _))))); refine wpQuiet_nil ?_; intro w' hw'; obtain ⟨nx, hw''⟩ := hw'; have hbx := ext_out hw''; clear hw'' nx hxe; have hB : Below w.heap.size w w' := Below.thenn (by repeat (first | exact Below.refl _ _ | assumption | apply Below.drew | apply below_drewN | (refine Below.alloc ?_ (by first | omega | (simp; done) | (simp; omega)) _) | (refine Below.setCell ?_ (by first | omega | (simp; done) | (simp; omega)) _))) hbx (by first | omega | (simp; done) | (simp; omega)); have hz : w.heap.size ≤ w'.heap.size := hB.size; obtain ⟨hc, hf⟩ := bcell hbx; clear hbx)
          go_wp2_with fail
          go_ret
          exact ⟨ret_bool HF.out.symm, Below.thenn hWV hB hWV.size⟩
        · have hi0 : inr x0 0 3000 = true := by simp only [Bool.and_eq_true] at ho; exact ho.1
          have HO := Lib.hid ho
          rw [eo, ho] at co
          have CO := Lib.hid co
          rcases Nat.eq_zero_or_pos k with h0 | h0
          · have HS : Hid (REL (k + 1)) := Lib.hid (HSTEP.out k x0 x1 x2 HR.out hr ho (by subst h0; exact dp_first hi0))
            have hk0 : decide (0 < k) = false := by simp [h0]
            clear h0 co eo ho hr HSTEP HLOW HBAD HEND hi0
            go_wp2_with fail
            (refine wp_region_ext (by kernel_rfl) (by kernel_rfl) ?_; have hxe := ext_cells; (repeat (go_big_quiet_step ((go_at_call 159; exact ext_ret (CO.out _))))); refine wpQuiet_nil ?_; intro w' hw'; obtain ⟨nx, hw''⟩ := hw'; have hbx := ext_out hw''; clear hw'' nx hxe; have hB : Below w.heap.size w w' := Below.thenn (by repeat (first | exact Below.refl _ _ | assumption | apply Below.drew | apply below_drewN | (refine Below.alloc ?_ (by first | omega | (simp; done) | (simp; omega)) _) | (refine Below.setCell ?_ (by first | omega | (simp; done) | (simp; omega)) _))) hbx (by first | omega | (simp; done) | (simp; omega)); have hz : w.heap.size ≤ w'.heap.size := hB.size; obtain ⟨hc, hf⟩ := bcell hbx; clear hbx)
            go_wp2_with fail
            go_roundg (n - (k + 1))
            case measure => omega
            case rel => exact ⟨k + 1, by omega, by omega, by go_num, Lib.hid hB, HS⟩
          · obtain ⟨b', off', p0, p1, p2, e', hr', _, d0, d1, d2⟩ := (show RdR w 3 (some ⟨b, off, none⟩) n rows from ‹_›).row3 (k := k - 1) (by omega)
            injection e' with e'
            injection e' with e1 e2
            subst e1 e2
            rw [← hBr.cell (p := ⟨b, _, none⟩) hblt] at d0 d1 d2
            obtain ⟨ea, es⟩ := dp_at h0 hr'
            have hk0 : decide (0 < k) = true := by simpa using h0
            have hk3 : 0 ≤ (k : Int) - 1 := by omega
            have hk4 : (k : Int) - 1 < (n : Int) := by omega
            have hk5 : ((k : Int) - 1).toNat = k - 1 := by omega
            have cc := fun w => impl_compareDamages p0 p1 p2 x0 x1 x2 w
            have hge := cdV_ge p0 p1 x0 x1
            generalize cdV p0 p1 x0 x1 = V at *
            have CC := Lib.hid cc
            rcases hd : dmgLt p0 p1 x0 x1 with _ | _
            · rw [hd] at hge
              have HF := Lib.hid (HLOW.out k x0 x1 x2 HR.out hr (by rw [ea, es]; exact hd))
              have hge2 : decide (0 ≤ V) = true := hge
              clear co eo ho hr hr' HSTEP HLOW HBAD HEND cc hd ea es hge hi0
              go_wp2_with fail
              (refine wp_region_ext (by kernel_rfl) (by kernel_rfl) ?_; have hxe := ext_cells; (repeat (go_big_quiet_step (first | (go_at_call 159; exact ext_ret (CO.out _)) | (go_at_call 160; exact ext_ret (CC.out _))))); refine wpQuiet_nil ?_; intro w' hw'; obtain ⟨nx, hw''⟩ := hw'; have hbx := ext_out hw''; clear hw'' nx hxe; have hB : Below w.heap.size w w' := Below.thenn (by repeat (first | exact Below.refl _ _ | assumption | apply Below.drew | apply below_drewN | (refine Below.alloc ?_ (by first | omega | (simp; done) | (simp; omega)) _) | (refine Below.setCell ?_ (by first | omega | (simp; done) | (simp; omega)) _))) hbx (by first | omega | (simp; done) | (simp; omega)); have hz : w.heap.size ≤ w'.heap.size := hB.size; obtain ⟨hc, hf⟩ := bcell hbx; clear hbx)
              go_wp2_with fail
              go_ret
              exact ⟨ret_bool HF.out.symm, Below.thenn hWV hB hWV.size⟩
            · rw [hd] at hge
              have HS : Hid (REL (k + 1)) := Lib.hid (HSTEP.out k x0 x1 x2 HR.out hr ho (by rw [ea, es]; exact hd))
              have hge2 : decide (0 ≤ V) = false := hge
              clear co eo ho hr hr' HSTEP HLOW HBAD HEND cc hd ea es hge hi0
              go_wp2_with fail
              (refine wp_region_ext (by kernel_rfl) (by kernel_rfl) ?_; have hxe := ext_cells; (repeat (go_big_quiet_step (first | (go_at_call 159; exact ext_ret (CO.out _)) | (go_at_call 160; exact ext_ret (CC.out _))))); refine wpQuiet_nil ?_; intro w' hw'; obtain ⟨nx, hw''⟩ := hw'; have hbx := ext_out hw''; clear hw'' nx hxe; have hB : Below w.heap.size w w' := Below.thenn (by repeat (first | exact Below.refl _ _ | assumption | apply Below.drew | apply below_drewN | (refine Below.alloc ?_ (by first | omega | (simp; done) | (simp; omega)) _) | (refine Below.setCell ?_ (by first | omega | (simp; done) | (simp; omega)) _))) hbx (by first | omega | (simp; done) | (simp; omega)); have hz : w.heap.size ≤ w'.heap.size := hB.size; obtain ⟨hc, hf⟩ := bcell hbx; clear hbx)
              go_wp2_with fail
              go_roundg (n - (k + 1))
              case measure => omega
              case rel => exact ⟨k + 1, by omega, by omega, by go_num, Lib.hid hB, HS⟩
      · have HF := Lib.hid (HEND.out k HR.out (by omega))
        go_wp2_with fail
        go_ret
        exact ⟨ret_bool HF.out.symm, Below.thenn hWV hBr hWV.size⟩
end Go.Proofs.Ytjfmicemnoglkaa
