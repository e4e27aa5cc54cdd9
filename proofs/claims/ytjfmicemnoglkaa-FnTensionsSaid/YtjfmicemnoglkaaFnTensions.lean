/- The law FnTensions: its walk. -/
import Derived.Test.YtjfmicemnoglkaaSupG
import Derived.Test.YtjfmicemnoglkaaTenF
import Derived.Test.YtjfmicemnoglkaaTenH
import Derived.Test.YtjfmicemnoglkaaKlaw
import Derived.Test.YtjfmicemnoglkaaKhas
import Derived.Deep.CutRange
import Derived.Deep.CutBlock
import Derived.Test.YtjfmicemnoglkaaExt
namespace Go.Proofs.Ytjfmicemnoglkaa
open Go.RowKit
set_option linter.unusedVariables false
set_option linter.unusedSimpArgs false

/-- Numbers that are handed back, their count by name. -/
def RetN (w : World) (n : Nat) (zs : List Int) (e : Ending) (w' : World) : Prop := ∃ A c, e = .returned (.tuple #[.slice A n c, .bool true]) ∧ Ow w' w.heap.size (.slice A n c) zs ∧ Below w.heap.size w w'
theorem RetN.of {w w' : World} {n : Nat} {zs : List Int} {e : Ending} (hz : zs.length = n) (h : RetSB w zs true e w') : RetN w n zs e w' := by subst hz; exact h
set_option maxRecDepth 100000 in
set_option maxHeartbeats 8000000 in
theorem law_FnTensions (A : Option Addr) (n c : Nat) (zs : List Int) (W : World) (h : Came .u8 W A n c zs) :
    Calls Try.prog 6 #[.slice A n c] W (Ret W (.bool true)) := by
  by_cases hbig : 65536 < n
  · go_enter Try.func6, Try.ntmps6
    go_wp2_with (go_at_call 9; refine (laws_vBig _ _ _ _).mono ?_; rintro e w' ⟨rfl, rfl⟩)
    go_ret
    exact ⟨rfl, Below.refl _ _⟩
  have hS : Src.ok ⟨A, n, c, zs⟩ W := came_src h (by omega)
  have HS := Lib.hid hS
  have B0 := Lib.hid (Below.refl W.heap.size W)
  clear h hS
  go_enter Try.func6, Try.ntmps6
  go_wp2_with (go_at_call 9; refine (laws_vBig _ _ _ _).mono ?_; rintro e w' ⟨rfl, rfl⟩)
  go_wp2_with fail
  refine (draw_DriveForce _ _ (HS.out.below B0.out)).mono ?_
  rintro e w1 ⟨A1, c1, rows, x, ct, r, rfl, hl, ho, hb⟩
  have E1 := Lib.hid ((Below.thenn B0.out hb B0.out.size).alloc (Nat.le_trans B0.out.size hb.size) (.cells #[.int .i64 x, .int .i64 ct, .int .i64 r] 70))
  have T1 := Lib.hid (Blk.new w1 70 #[.int .i64 x, .int .i64 ct, .int .i64 r])
  have R1 := Lib.hid ((ho.alloc (.cells #[.int .i64 x, .int .i64 ct, .int .i64 r] 70)).rdL)
  clear hb B0 ho
  go_wp2_with fail
  generalize w1.alloc (.cells #[.int .i64 x, .int .i64 ct, .int .i64 r] 70) = v1 at *
  generalize w1.heap.size = q at *
  (go_wp2_with fail; refine (impl_DriveForce _ _ _ rows x ct r v1 R1.out (by omega)).mono ?_; rintro e w2 ⟨rfl, hb⟩; have E2 := Lib.hid (Below.thenn E1.out hb E1.out.size); have T2 := Lib.hid (T1.out.below hb T1.out.lt); have R2 := Lib.hid (R1.out.below hb); clear hb)
  obtain ⟨c0, c1', c2'⟩ := T2.out.cells3
  (go_wp2_with fail; refine (spec_DriveForce _ _ _ rows x ct r w2 R2.out (by omega)).mono ?_; rintro e w3 ⟨rfl, hb⟩; have E3 := Lib.hid (Below.thenn E2.out hb E2.out.size); have T3 := Lib.hid (T2.out.below hb T2.out.lt); have R3 := Lib.hid (R2.out.below hb); clear hb)
  clear T1 T2 E1 E2 R1 R2 c0 c1' c2'
  have HDF := Lib.hid (fun (hk : dfOk rows x ct r = true) => df_facts hk)
  have HDV := Lib.hid (fun (hk : dfOk rows x ct r = true) => (by simp [dfV, hk] : dfV rows x ct r = tnN rows x ct r (rows.length - 1) - tnN rows x ct (-r) (rows.length - 1)))
  generalize dfV rows x ct r = D at *
  generalize hok : dfOk rows x ct r = ok at *
  have HOK := Lib.hid hok
  clear hok
  obtain ⟨d0, d1, d2⟩ := T3.out.cells3
  have hlt3 := T3.out.lt
  go_upto_region 6 with fail
  generalize hw3 : w3 = w at *
  clear hw3
  have hB : Below w.heap.size w w := Below.refl _ _
  (refine wp_region_ext (by kernel_rfl) (by kernel_rfl) ?_; have hxe := ext_cells; (repeat (go_big_quiet_step (first | (go_at_call 55; exact ext_ret (impl_IsLoadCase _ _ _ _)) | (go_at_call 56; exact ext_ret (spec_IsLoadCase _ _ _ _))))); refine wpQuiet_nil ?_; intro w' hw'; obtain ⟨nx, hw''⟩ := hw'; have hbx := ext_out hw''; clear hw'' nx hxe; have hB : Below w.heap.size w w' := Below.thenn (by repeat (first | exact Below.refl _ _ | assumption | apply Below.drew | apply below_drewN | (refine Below.alloc ?_ (by first | omega | (simp; done) | (simp; omega)) _) | (refine Below.setCell ?_ (by first | omega | (simp; done) | (simp; omega)) _))) hbx (by first | omega | (simp; done) | (simp; omega)); have hz : w.heap.size ≤ w'.heap.size := hB.size; obtain ⟨hc, hf⟩ := bcell hbx; clear hbx)
  have E4 := Lib.hid (Below.thenn E3.out hB E3.out.size)
  have T4 := Lib.hid (T3.out.below hB T3.out.lt)
  have R4 := Lib.hid (R3.out.below hB)
  clear hc hf hz T3 R3 E3 d0 d1 d2 hlt3
  generalize hw4 : w' = w4 at *
  clear hw4 hB
  go_upto_if 75 with fail
  go_cut [9, 10, 11, 12, 13, 14, 15, 16, 17, 18] from 41 to 311 (fun q9 q10 q11 q12 q13 q14 q15 q16 q17 q18 wx => Hid (Below W.heap.size W wx))
  case first =>
    as_aux_lemma =>
      rcases ok with _ | _
      · go_wp2_with fail
        go_meet
        exact E4
      · obtain ⟨f1, f2, f3, f4⟩ := HDF.out rfl
        have hD := (HDV.out rfl).trans f1
        have hk := HOK.out
        simp only [dfOk, Bool.and_eq_true] at hk
        obtain ⟨hu, hd⟩ := hk
        obtain ⟨hln, hcs, hub⟩ := upOk_iff.1 hu
        obtain ⟨r1, r2, r3⟩ := caseOk_iff.1 hcs
        have L := lineOk_line hln
        have hlo := L.lo
        have hhi := L.hi
        have cu := fun w' (h' : RdL w' A1 rows.length rows) => impl_UpTensions A1 rows.length c1 rows x ct r w' h' (by omega)
        rw [hu, up_yes hu] at cu
        have cd := fun w' (h' : RdL w' A1 rows.length rows) => impl_DownTensions A1 rows.length c1 rows x ct r w' h' (by omega)
        rw [hd, dn_yes hd] at cd
        have cg := fun w' (h' : RdL w' A1 rows.length rows) => impl_GreatestTension A1 rows.length c1 rows x ct r w' h' (by omega)
        have eg : gtA rows x ct r = (gtI (tnN rows x ct r) rows.length : Int) ∧ gtV rows x ct r = tnN rows x ct r (gtI (tnN rows x ct r) rows.length) := by simp [gtA, gtV, hu]
        rw [hu, eg.1, eg.2] at cg
        have cl := fun w' (h' : RdL w' A1 rows.length rows) => impl_LeastCounter A1 rows.length c1 rows x ct r w' h' (by omega)
        rw [f3, lc_yes f3] at cl
        have l1 := tnL_len rows x ct r rows.length
        have l2 := tnL_len rows x ct (-r) rows.length
        have CU : Hid (∀ w', RdL w' A1 rows.length rows → Calls Try.prog 57 #[.slice A1 rows.length c1, .agg #[.int .i64 x, .int .i64 ct, .int .i64 r]] w' (RetN w' rows.length (tnL rows x ct r rows.length))) := Lib.hid (fun w' h' => (cu w' h').mono (fun _ _ hq => RetN.of l1 hq))
        have CD : Hid (∀ w', RdL w' A1 rows.length rows → Calls Try.prog 58 #[.slice A1 rows.length c1, .agg #[.int .i64 x, .int .i64 ct, .int .i64 r]] w' (RetN w' rows.length (tnL rows x ct (-r) rows.length))) := Lib.hid (fun w' h' => (cd w' h').mono (fun _ _ hq => RetN.of l2 hq))
        have gl := gtI_lt (tnN rows x ct r) rows.length
        have MO := Lib.hid (fun (j : Nat) (hj : j < rows.length) => gtI_most (tnN rows x ct r) rows.length j hj)
        have e0 : tnN rows x ct r 0 = ct := rfl
        have e0' : tnN rows x ct (-r) 0 = ct := rfl
        have Z1 := Lib.hid (fun (j : Nat) (hj : j < rows.length) => tnL_at (rows := rows) (w := x) (c := ct) (R := r) hj)
        have Z2 := Lib.hid (fun (j : Nat) (hj : j < rows.length) => tnL_at (rows := rows) (w := x) (c := ct) (R := -r) hj)
        generalize tnN rows x ct r = f at *
        generalize tnN rows x ct (-r) = d at *
        generalize tnL rows x ct r rows.length = us at *
        generalize tnL rows x ct (-r) rows.length = ds at *
        generalize lcN rows x ct r = lc at *
        generalize rows.length = M at *
        generalize gtI f M = g at *
        have hg : g < M := by omega
        have bD := mulB (a := 2 * r) (b := (M : Int) - 1) (A := 2000) (B := 8) (by omega) (by omega) (by omega) (by omega)
        have uD : IntKind.i64.wrap (2 * r * ((M : Int) - 1)) = D := by rw [hD]; exact IntWalk.i64_in _ (by omega)
        have F4 := Lib.hid f4
        have E0 := Lib.hid e0
        have E0' := Lib.hid e0'
        have CG := Lib.hid cg
        have CL := Lib.hid cl
        clear cu cd cg cl l1 l2 f4 e0 e0' f1 f3 hD hu hd hln hcs hub L eg HDF HDV HOK bD
        obtain ⟨c0, c1', c2'⟩ := T4.out.cells3
        go_wp2_with fail
        refine (CU.out w4 R4.out).mono ?_
        rintro e w5 ⟨A5, c5, rfl, ho, hb⟩
        have O5 := Lib.hid ho
        have E5 := Lib.hid (Below.thenn E4.out hb E4.out.size)
        have T5 := Lib.hid (T4.out.below hb T4.out.lt)
        have R5 := Lib.hid (R4.out.below hb)
        clear hb ho c0 c1' c2' T4 R4 E4
        obtain ⟨c0, c1', c2'⟩ := T5.out.cells3
        go_wp2_with fail
        refine (CD.out w5 R5.out).mono ?_
        rintro e w6 ⟨A6, c6, rfl, ho, hb⟩
        have O6 := Lib.hid ho
        have O5' := Lib.hid (O5.out.below hb)
        have E6 := Lib.hid (Below.thenn E5.out hb E5.out.size)
        have T6 := Lib.hid (T5.out.below hb T5.out.lt)
        have R6 := Lib.hid (R5.out.below hb)
        clear hb ho c0 c1' c2' T5 R5 E5 O5
        obtain ⟨c0, c1', c2'⟩ := T6.out.cells3
        go_wp2_with fail
        refine (CG.out w6 R6.out).mono ?_
        rintro e w7 ⟨rfl, hb⟩
        have O7 := Lib.hid (O6.out.below hb)
        have O7' := Lib.hid (O5'.out.below hb)
        have E7 := Lib.hid (Below.thenn E6.out hb E6.out.size)
        have T7 := Lib.hid (T6.out.below hb T6.out.lt)
        have R7 := Lib.hid (R6.out.below hb)
        clear hb c0 c1' c2' T6 R6 E6 O6 O5'
        obtain ⟨c0, c1', c2'⟩ := T7.out.cells3
        obtain ⟨p1, o1, v1, rfl, hv1, hc1⟩ := O7'.out.rd.at1 (k := 0) (by omega)
        obtain ⟨p2, o2, v2, rfl, hv2, hc2⟩ := O7.out.rd.at1 (k := 0) (by omega)
        have hp1 : p1 < w7.heap.size := World.block_lt_of_cell? _ _ hc1
        have hp2 : p2 < w7.heap.size := World.block_lt_of_cell? _ _ hc2
        rw [Z1.out 0 (by omega)] at hv1
        rw [Z2.out 0 (by omega)] at hv2
        injection hv1 with hv1
        injection hv2 with hv2
        rw [E0.out] at hv1
        rw [E0'.out] at hv2
        subst hv1
        subst hv2
        have K1 : Hid (∀ j : Nat, j < M → w7.cell? ⟨p1, o1 + j, none⟩ = some (.int .i64 (f j))) := Lib.hid (fun (j : Nat) (hj : j < M) => by
          obtain ⟨p3, o3, v3, e2, hv3, hc3⟩ := O7'.out.rd.at1 (k := j) hj
          injection e2 with e2
          injection e2 with e3 e4
          subst e3 e4
          rw [Z1.out j hj] at hv3
          injection hv3 with hv3
          rw [← hv3] at hc3
          exact hc3)
        have K2 : Hid (∀ j : Nat, j < M → w7.cell? ⟨p2, o2 + j, none⟩ = some (.int .i64 (d j))) := Lib.hid (fun (j : Nat) (hj : j < M) => by
          obtain ⟨p3, o3, v3, e2, hv3, hc3⟩ := O7.out.rd.at1 (k := j) hj
          injection e2 with e2
          injection e2 with e3 e4
          subst e3 e4
          rw [Z2.out j hj] at hv3
          injection hv3 with hv3
          rw [← hv3] at hc3
          exact hc3)
        have hcg := K1.out g hg
        have MO2 := Lib.hid (fun (j : Nat) (hj : j < M) => MO.out j hj)
        generalize f g = most at *
        simp only [Nat.add_zero] at hc1 hc2
        have hg0 : decide ((g : Int) < 0) = false := by simp
        have hgM : decide (M ≤ g) = false := by simp; omega
        have hgM2 : decide ((M : Int) ≤ (g : Int)) = false := decide_eq_false (by omega)
        have hgM3 : ¬ (M : Int) ≤ (g : Int) := by omega
        have hgM4 : ¬ M ≤ g := by omega
        go_wp2_with fail
        have hq7 := T7.out.lt
        generalize hw7 : w7 = w at *
        clear hw7
        have hB : Below w.heap.size w w := Below.refl _ _
        (refine wp_region_ext (by kernel_rfl) (by kernel_rfl) ?_; simp only [List.append_eq, List.cons_append, List.nil_append]; have hxe := ext_cells; (repeat (go_big_quiet_step (fail))); refine wpQuiet_nil ?_; intro w' hw'; obtain ⟨nx, hw''⟩ := hw'; have hbx := ext_out hw''; clear hw'' nx hxe; have hB : Below w.heap.size w w' := Below.thenn (by repeat (first | exact Below.refl _ _ | assumption | apply Below.drew | apply below_drewN | (refine Below.alloc ?_ (by first | omega | (simp; done) | (simp; omega)) _) | (refine Below.setCell ?_ (by first | omega | (simp; done) | (simp; omega)) _))) hbx (by first | omega | (simp; done) | (simp; omega)); have hz : w.heap.size ≤ w'.heap.size := hB.size; obtain ⟨hc, hf⟩ := bcell hbx; clear hbx)
        have HBX := Lib.hid hB
        clear hc hf hB hz
        go_wp2_with fail
        go_loopg [16] M (fun gg i wr => ∃ k : Nat, k ≤ M ∧ M ≤ k + gg ∧ i = .int .i64 k ∧ Hid (Below w.heap.size w wr))
        case atStart => exact ⟨0, by omega, by omega, rfl, HBX⟩
        case round =>
          obtain ⟨k, hk1, hk2, rfl, HB⟩ := hrel
          have hpr1 : p1 < wr.heap.size := Nat.lt_of_lt_of_le hp1 HB.out.size
          have hpr2 : p2 < wr.heap.size := Nat.lt_of_lt_of_le hp2 HB.out.size
          clear hc1 hc2 hcg c0 c1' c2'
          by_cases hlt : k < M
          · have k1 := (HB.out.cell (p := ⟨p1, o1 + k, none⟩) hp1).trans (K1.out k hlt)
            have k2 := (HB.out.cell (p := ⟨p2, o2 + k, none⟩) hp2).trans (K2.out k hlt)
            have m1 := MO2.out k hlt
            have m2 := F4.out k hlt
            generalize f k = y at *
            generalize d k = z at *
            have g1 : decide (most < y) = false := decide_eq_false (by omega)
            have g2 : decide (y < z) = false := decide_eq_false (by omega)
            have g3 : decide (z < 0) = false := decide_eq_false (by omega)
            clear m1 m2
            go_wp2_with fail
            have hB := HB.out
            have hwr : w.heap.size ≤ wr.heap.size := hB.size
            (refine wp_region_ext (by kernel_rfl) (by kernel_rfl) ?_; have hxe := ext_cells; (repeat (go_big_quiet_step (fail))); refine wpQuiet_nil ?_; intro w' hw'; obtain ⟨nx, hw''⟩ := hw'; have hbx := ext_out hw''; clear hw'' nx hxe; have hB : Below w.heap.size w w' := Below.thenn (by repeat (first | exact Below.refl _ _ | assumption | apply Below.drew | apply below_drewN | (refine Below.alloc ?_ (by first | omega | (simp; done) | (simp; omega)) _) | (refine Below.setCell ?_ (by first | omega | (simp; done) | (simp; omega)) _))) hbx (by first | omega | (simp; done) | (simp; omega)); have hz : w.heap.size ≤ w'.heap.size := hB.size; obtain ⟨hc, hf⟩ := bcell hbx; clear hbx)
            have HB6 := Lib.hid hB
            clear hc hf
            go_wp2_with fail
            go_roundg (M - (k + 1))
            case measure => omega
            case rel => exact ⟨k + 1, by omega, by omega, by go_num, HB6⟩
          · have T8 := Lib.hid (T7.out.below HB.out T7.out.lt)
            have R8 := Lib.hid (R7.out.below HB.out)
            have E8 := Lib.hid (Below.thenn E7.out HB.out E7.out.size)
            obtain ⟨c0, c1', c2'⟩ := T8.out.cells3
            go_wp2_with fail
            refine (CL.out wr R8.out).mono ?_
            rintro e w9 ⟨rfl, hb⟩
            have E9 := Lib.hid (Below.thenn E8.out hb E8.out.size)
            have T9 := Lib.hid (T8.out.below hb T8.out.lt)
            clear hb c0 c1' c2'
            obtain ⟨c0, c1', c2'⟩ := T9.out.cells3
            have g1 : decide (ct < lc) = false := decide_eq_false (by omega)
            go_wp2_with fail
            go_meet
            exact E9
  case rest =>
    as_aux_lemma =>
      have C0 : Hid (Below W.heap.size W wc) := hcut
      clear hcut T4 R4 E4 HDF HDV HOK
      go_wp2_with fail
      refine (draw_LeastCounter _ _ (HS.out.below C0.out)).mono ?_
      rintro e w1 ⟨A2, c2, rows2, x2, ct2, r2, rfl, hl2, ho, hb⟩
      have E1 := Lib.hid ((Below.thenn C0.out hb C0.out.size).alloc (Nat.le_trans C0.out.size hb.size) (.cells #[.int .i64 x2, .int .i64 ct2, .int .i64 r2] 70))
      have T1 := Lib.hid (Blk.new w1 70 #[.int .i64 x2, .int .i64 ct2, .int .i64 r2])
      have R1 := Lib.hid ((ho.alloc (.cells #[.int .i64 x2, .int .i64 ct2, .int .i64 r2] 70)).rdL)
      clear hb C0 ho
      go_wp2_with fail
      generalize w1.alloc (.cells #[.int .i64 x2, .int .i64 ct2, .int .i64 r2] 70) = v1 at *
      generalize w1.heap.size = q at *
      (go_wp2_with fail; refine (impl_LeastCounter _ _ _ rows2 x2 ct2 r2 v1 R1.out (by omega)).mono ?_; rintro e w2 ⟨rfl, hb⟩; have E2 := Lib.hid (Below.thenn E1.out hb E1.out.size); have T2 := Lib.hid (T1.out.below hb T1.out.lt); have R2 := Lib.hid (R1.out.below hb); clear hb)
      obtain ⟨c0, c1', c2'⟩ := T2.out.cells3
      (go_wp2_with fail; refine (spec_LeastCounter _ _ _ rows2 x2 ct2 r2 w2 R2.out (by omega)).mono ?_; rintro e w3 ⟨rfl, hb⟩; have E3 := Lib.hid (Below.thenn E2.out hb E2.out.size); have T3 := Lib.hid (T2.out.below hb T2.out.lt); have R3 := Lib.hid (R2.out.below hb); clear hb)
      clear T1 T2 E1 E2 R1 R2 c0 c1' c2'
      have HLF := Lib.hid (fun (hk : lcOk rows2 x2 ct2 r2 = true) => lc_facts hk)
      have HLY := Lib.hid (fun (hk : lcOk rows2 x2 ct2 r2 = true) => lc_yes hk)
      have HLB := Lib.hid (fun (hk : lcOk rows2 x2 ct2 r2 = true) => (⟨(lc_bd (lcOk_iff.1 hk).1 (lcOk_iff.1 hk).2.1).1, (lcOk_iff.1 hk).2.2⟩ : 1 ≤ lcN rows2 x2 ct2 r2 ∧ lcN rows2 x2 ct2 r2 ≤ 1000000))
      generalize lcN rows2 x2 ct2 r2 = lc at *
      generalize lcV rows2 x2 ct2 r2 = V at *
      generalize lcOk rows2 x2 ct2 r2 = ok at *
      go_upto_if 233 with fail
      go_cut [25, 26, 27, 28] from 213 to 311 (fun q25 q26 q27 q28 wx => Hid (Below W.heap.size W wx))
      case first =>
        as_aux_lemma =>
          rcases ok with _ | _
          · go_wp2_with fail
            go_meet
            exact E3
          · obtain ⟨f1, f2⟩ := HLF.out rfl
            have f3 := HLY.out rfl
            obtain ⟨f4, f5⟩ := HLB.out rfl
            subst f3
            have cy := fun w' (h' : RdL w' A2 rows2.length rows2) => impl_DriveForce A2 rows2.length c2 rows2 x2 V r2 w' h' (by omega)
            rw [f1] at cy
            have cn := fun w' (h' : RdL w' A2 rows2.length rows2) => impl_DriveForce A2 rows2.length c2 rows2 x2 (V - 1) r2 w' h' (by omega)
            rw [f2] at cn
            have u1 : IntKind.i64.wrap (V - 1) = V - 1 := IntWalk.i64_in _ (by omega)
            generalize dfV rows2 x2 V r2 = y1 at *
            generalize dfV rows2 x2 (V - 1) r2 = y2 at *
            have CY := Lib.hid cy
            have CN := Lib.hid cn
            clear cy cn f1 f2 HLF HLY HLB
            obtain ⟨c0, c1', c2'⟩ := T3.out.cells3
            (go_wp2_with fail; refine (CY.out w3 R3.out).mono ?_; rintro e w5 ⟨rfl, hb⟩; have E5 := Lib.hid (Below.thenn E3.out hb E3.out.size); have T5 := Lib.hid (T3.out.below hb T3.out.lt); have R5 := Lib.hid (R3.out.below hb); clear hb)
            clear c0 c1' c2'
            obtain ⟨c0, c1', c2'⟩ := T5.out.cells3
            (go_wp2_with fail; refine (CN.out w5 R5.out).mono ?_; rintro e w6 ⟨rfl, hb⟩; have E6 := Lib.hid (Below.thenn E5.out hb E5.out.size); have T6 := Lib.hid (T5.out.below hb T5.out.lt); have R6 := Lib.hid (R5.out.below hb); clear hb)
            go_wp2_with fail
            go_meet
            exact E6
      case rest =>
        as_aux_lemma =>
          have C0 : Hid (Below W.heap.size W wc) := hcut
          clear hcut T3 R3 E3 HLF HLY HLB
          go_wp2_with fail
          refine (draw_UpTensions _ _ (HS.out.below C0.out)).mono ?_
          rintro e w1 ⟨A3, c3, rows3, x3, ct3, r3, rfl, hl2, ho, hb⟩
          have E1 := Lib.hid ((Below.thenn C0.out hb C0.out.size).alloc (Nat.le_trans C0.out.size hb.size) (.cells #[.int .i64 x3, .int .i64 ct3, .int .i64 r3] 70))
          have T1 := Lib.hid (Blk.new w1 70 #[.int .i64 x3, .int .i64 ct3, .int .i64 r3])
          have R1 := Lib.hid ((ho.alloc (.cells #[.int .i64 x3, .int .i64 ct3, .int .i64 r3] 70)).rdL)
          clear hb C0 ho
          go_wp2_with fail
          generalize w1.alloc (.cells #[.int .i64 x3, .int .i64 ct3, .int .i64 r3] 70) = v1 at *
          generalize w1.heap.size = q at *
          have hvl := upV_len rows3 x3 ct3 r3
          go_wp2_with fail
          refine (impl_UpTensions _ _ _ rows3 x3 ct3 r3 v1 R1.out (by omega)).mono ?_
          rintro e w2 ⟨A7, c7, rfl, ho, hb⟩
          have O2 := Lib.hid ho
          have E2 := Lib.hid (Below.thenn E1.out hb E1.out.size)
          have T2 := Lib.hid (T1.out.below hb T1.out.lt)
          have R2 := Lib.hid (R1.out.below hb)
          clear hb ho
          obtain ⟨c0, c1', c2'⟩ := T2.out.cells3
          go_wp2_with fail
          refine (spec_UpTensions _ _ _ rows3 x3 ct3 r3 w2 R2.out (by omega)).mono ?_
          rintro e w3 ⟨A8, c8, rfl, ho, hb⟩
          have O3 := Lib.hid ho
          have O2' := Lib.hid (O2.out.below hb)
          have E3 := Lib.hid (Below.thenn E2.out hb E2.out.size)
          clear hb ho c0 c1' c2' T1 T2 R1 R2 E1 E2 O2
          (go_wp2_with fail; refine (laws_vInts _ _ _ _ _ _ _ _ _ O2'.out.rd O3.out.rd (by omega) (by omega)).mono ?_; intro e w4 hq; obtain ⟨rfl, hb⟩ := hq.ret; have E4 := Lib.hid (Below.thenn E3.out hb E3.out.size); have Qw4 := Lib.hid hb; clear hb hq)
          clear Qw4 O2' O3
          go_wp2_with fail
          refine (draw_DownTensions _ _ (HS.out.below E4.out)).mono ?_
          rintro e w1 ⟨A4, c4, rows4, x4, ct4, r4, rfl, hl2, ho, hb⟩
          have E1 := Lib.hid ((Below.thenn E4.out hb E4.out.size).alloc (Nat.le_trans E4.out.size hb.size) (.cells #[.int .i64 x4, .int .i64 ct4, .int .i64 r4] 70))
          have T1 := Lib.hid (Blk.new w1 70 #[.int .i64 x4, .int .i64 ct4, .int .i64 r4])
          have R1 := Lib.hid ((ho.alloc (.cells #[.int .i64 x4, .int .i64 ct4, .int .i64 r4] 70)).rdL)
          clear hb E4 ho
          go_wp2_with fail
          generalize w1.alloc (.cells #[.int .i64 x4, .int .i64 ct4, .int .i64 r4] 70) = v1 at *
          generalize w1.heap.size = q at *
          have hvl2 := dnV_len rows4 x4 ct4 r4
          go_wp2_with fail
          refine (impl_DownTensions _ _ _ rows4 x4 ct4 r4 v1 R1.out (by omega)).mono ?_
          rintro e w2 ⟨A7, c7, rfl, ho, hb⟩
          have O2 := Lib.hid ho
          have E2 := Lib.hid (Below.thenn E1.out hb E1.out.size)
          have T2 := Lib.hid (T1.out.below hb T1.out.lt)
          have R2 := Lib.hid (R1.out.below hb)
          clear hb ho
          obtain ⟨c0, c1', c2'⟩ := T2.out.cells3
          go_wp2_with fail
          refine (spec_DownTensions _ _ _ rows4 x4 ct4 r4 w2 R2.out (by omega)).mono ?_
          rintro e w3 ⟨A8, c8, rfl, ho, hb⟩
          have O3 := Lib.hid ho
          have O2' := Lib.hid (O2.out.below hb)
          have E3 := Lib.hid (Below.thenn E2.out hb E2.out.size)
          clear hb ho c0 c1' c2' T1 T2 R1 R2 E1 E2 O2
          (go_wp2_with fail; refine (laws_vInts _ _ _ _ _ _ _ _ _ O2'.out.rd O3.out.rd (by omega) (by omega)).mono ?_; intro e w4 hq; obtain ⟨rfl, hb⟩ := hq.ret; have E4 := Lib.hid (Below.thenn E3.out hb E3.out.size); have Qw4 := Lib.hid hb; clear hb hq)
          clear Qw4 O2' O3
          go_wp2_with fail
          go_ret
          exact ⟨ret_bool (by simp), E4.out⟩
end Go.Proofs.Ytjfmicemnoglkaa
