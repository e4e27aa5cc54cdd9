/- The law FnSafety: its walk. -/
import Derived.Test.YtjfmicemnoglkaaSupH
import Derived.Test.YtjfmicemnoglkaaTenF
import Derived.Test.YtjfmicemnoglkaaSafC
import Derived.Test.YtjfmicemnoglkaaSafD
import Derived.Test.YtjfmicemnoglkaaSafF
import Derived.Test.YtjfmicemnoglkaaSafG
import Derived.Test.YtjfmicemnoglkaaKlaw
import Derived.Test.YtjfmicemnoglkaaKhas
import Derived.Deep.CutRange
import Derived.Deep.CutBlock
import Derived.Test.YtjfmicemnoglkaaExt
namespace Go.Proofs.Ytjfmicemnoglkaa
open Go.RowKit
set_option linter.unusedVariables false
set_option linter.unusedSimpArgs false

theorem prod_in2 {a b A B : Int} (ha : 0 ≤ a ∧ a ≤ A) (hb : 0 ≤ b ∧ b ≤ B) (h : A * B ≤ 9000000000000000000) : IntKind.i64.wrap (a * b) = a * b := by
  have := mulB ha.1 ha.2 hb.1 hb.2
  exact IntWalk.i64_in _ (by omega)
set_option maxRecDepth 100000 in
set_option maxHeartbeats 8000000 in
theorem law_FnSafety (A : Option Addr) (n c : Nat) (zs : List Int) (W : World) (h : Came .u8 W A n c zs) :
    Calls Try.prog 7 #[.slice A n c] W (Ret W (.bool true)) := by
  by_cases hbig : 65536 < n
  · go_enter Try.func7, Try.ntmps7
    go_wp2_with (go_at_call 9; refine (laws_vBig _ _ _ _).mono ?_; rintro e w' ⟨rfl, rfl⟩)
    go_ret
    exact ⟨rfl, Below.refl _ _⟩
  have hS : Src.ok ⟨A, n, c, zs⟩ W := came_src h (by omega)
  have HS := Lib.hid hS
  have B0 := Lib.hid (Below.refl W.heap.size W)
  clear h hS
  go_enter Try.func7, Try.ntmps7
  go_wp2_with (go_at_call 9; refine (laws_vBig _ _ _ _).mono ?_; rintro e w' ⟨rfl, rfl⟩)
  go_wp2_with fail
  refine (draw_OverTension _ _ (HS.out.below B0.out)).mono ?_
  rintro e w1 ⟨A1, c1, rows, x, ct, r, lim, rfl, hlrows, ho, hb⟩
  have E1 := Lib.hid ((Below.thenn B0.out hb B0.out.size).alloc (Nat.le_trans B0.out.size hb.size) (.cells #[.int .i64 x, .int .i64 ct, .int .i64 r] 70))
  have T1 := Lib.hid (Blk.new w1 70 #[.int .i64 x, .int .i64 ct, .int .i64 r])
  have R1 := Lib.hid ((ho.alloc (.cells #[.int .i64 x, .int .i64 ct, .int .i64 r] 70)).rdL)
  clear hb B0 ho
  go_wp2_with fail
  generalize w1.alloc (.cells #[.int .i64 x, .int .i64 ct, .int .i64 r] 70) = v1 at *
  generalize w1.heap.size = q at *
  have hvl := ovV_len rows x ct r lim
  refine (impl_OverTension _ _ _ rows x ct r lim v1 R1.out (by omega)).mono ?_
  rintro e w2 ⟨A7, c7, rfl, ho, hb⟩
  have O2 := Lib.hid ho
  have E2 := Lib.hid (Below.thenn E1.out hb E1.out.size)
  have T2 := Lib.hid (T1.out.below hb T1.out.lt)
  have R2 := Lib.hid (R1.out.below hb)
  clear hb ho
  obtain ⟨c0, c1', c2'⟩ := T2.out.cells3
  go_wp2_with fail
  refine (spec_OverTension _ _ _ rows x ct r lim w2 R2.out (by omega)).mono ?_
  rintro e w3 ⟨A8, c8, rfl, ho, hb⟩
  have O3 := Lib.hid ho
  have O2' := Lib.hid (O2.out.below hb)
  have E3 := Lib.hid (Below.thenn E2.out hb E2.out.size)
  have T3 := Lib.hid (T2.out.below hb T2.out.lt)
  have R3 := Lib.hid (R2.out.below hb)
  clear hb ho c0 c1' c2' T1 T2 R1 R2 E1 E2 O2
  (go_wp2_with fail; refine (laws_vInts _ _ _ _ _ _ _ _ _ O2'.out.rd O3.out.rd (by omega) (by omega)).mono ?_; intro e w4 hq; obtain ⟨rfl, hb⟩ := hq.ret; have E4 := Lib.hid (Below.thenn E3.out hb E3.out.size); have Qw4 := Lib.hid hb; clear hb hq)
  have T4 := Lib.hid (T3.out.below Qw4.out T3.out.lt)
  have R4 := Lib.hid (R3.out.below Qw4.out)
  have O4 := Lib.hid (O2'.out.below Qw4.out)
  clear Qw4 O2' O3 T3 R3 E3
  have HOV := Lib.hid (fun (hk : ovOk rows x ct r lim = true) => ov_yes hk)
  have HUP : Hid (ovOk rows x ct r lim = true → upOk rows x ct r = true) := Lib.hid (fun hk => by unfold ovOk at hk; rw [Bool.and_eq_true] at hk; exact hk.1)
  generalize ovV rows x ct r lim = os at *
  generalize ovOk rows x ct r lim = ok at *
  go_upto_if 71 with fail
  go_cut [10, 11, 12] from 40 to 231 (fun q10 q11 q12 wx => Hid (Below W.heap.size W wx))
  case first =>
    as_aux_lemma =>
      rcases ok with _ | _
      · go_wp2_with fail
        go_meet
        exact E4
      · have hos := HOV.out rfl
        have hu := HUP.out rfl
        have hlo := (lineOk_line (upOk_iff.1 hu).1).lo
        have cu := fun w' (h' : RdL w' A1 rows.length rows) => impl_UpTensions A1 rows.length c1 rows x ct r w' h' (by omega)
        rw [hu, up_yes hu] at cu
        have l1 := tnL_len rows x ct r rows.length
        have CU : Hid (∀ w', RdL w' A1 rows.length rows → Calls Try.prog 57 #[.slice A1 rows.length c1, .agg #[.int .i64 x, .int .i64 ct, .int .i64 r]] w' (RetM w' rows.length (tnL rows x ct r rows.length))) := Lib.hid (fun w' h' => (cu w' h').mono (fun _ _ hq => RetM.of l1 hq))
        have Z1 := Lib.hid (fun (j : Nat) (hj : j < rows.length) => tnL_at (rows := rows) (w := x) (c := ct) (R := r) hj)
        have ME := Lib.hid (fun (i : Nat) (hi : i < rows.length) => (by rw [hos, ovL_mem]; simp [hi] : (i : Int) ∈ os ↔ lim < tnN rows x ct r i))
        have hol : os.length ≤ 10 := by omega
        generalize tnN rows x ct r = f at *
        generalize tnL rows x ct r rows.length = us at *
        generalize rows.length = M at *
        clear cu l1 hos hu HOV HUP
        obtain ⟨c0, c1', c2'⟩ := T4.out.cells3
        go_wp2_with fail
        refine (CU.out w4 R4.out).mono ?_
        rintro e w5 ⟨A5, c5, rfl, ho, hb⟩
        have O5 := Lib.hid ho
        have O6 := Lib.hid (O4.out.below hb)
        have E5 := Lib.hid (Below.thenn E4.out hb E4.out.size)
        clear hb ho c0 c1' c2' T4 R4 E4 O4
        obtain ⟨p1, o1, v1', rfl, _, hc1⟩ := O5.out.rd.at1 (k := 0) (by omega)
        have hp1 : p1 < w5.heap.size := World.block_lt_of_cell? _ _ hc1
        clear hc1
        have K1 : Hid (∀ j : Nat, j < M → w5.cell? ⟨p1, o1 + j, none⟩ = some (.int .i64 (f j))) := Lib.hid (fun (j : Nat) (hj : j < M) => by
          obtain ⟨p3, o3, v3, e2, hv3, hc3⟩ := O5.out.rd.at1 (k := j) hj
          injection e2 with e2
          injection e2 with e3 e4
          subst e3 e4
          rw [Z1.out j hj] at hv3
          injection hv3 with hv3
          rw [← hv3] at hc3
          exact hc3)
        go_wp2_with fail
        go_loopg [12] M (fun gg i wr => ∃ k : Nat, k ≤ M ∧ M ≤ k + gg ∧ i = .int .i64 k ∧ Hid (Below w5.heap.size w5 wr))
        case atStart => exact ⟨0, by omega, by omega, rfl, Below.refl _ _⟩
        case round =>
          obtain ⟨k, hk1, hk2, rfl, HB⟩ := hrel
          have hpr1 : p1 < wr.heap.size := Nat.lt_of_lt_of_le hp1 HB.out.size
          by_cases hlt : k < M
          · have k1 := (HB.out.cell (p := ⟨p1, o1 + k, none⟩) hp1).trans (K1.out k hlt)
            have me := ME.out k hlt
            have ch := fun w' (h' : Rd w' 1 A7 os.length (IV os)) => laws_vHas A7 os.length c7 os (k : Int) w' h' (by omega)
            have RH := Lib.hid (O6.out.rd.below HB.out)
            generalize f k = y at *
            generalize hwr : wr = w at *
            clear hwr
            have hB : Below w.heap.size w w := Below.refl _ _
            have RX := fun (nn : Ext w) => RH.out.below nn.below
            by_cases ht : lim < y
            · have hd : decide (lim < y) = true := decide_eq_true ht
              rw [decide_eq_true (me.2 ht)] at ch
              have CH := Lib.hid ch
              clear ch me ht
              go_wp2_with fail
              (refine wp_region_ext (by kernel_rfl) (by kernel_rfl) ?_; have hxe := ext_cells; (repeat (go_big_quiet_step ((go_at_call 33; exact ext_pure (CH.out _ (RX _)))))); refine wpQuiet_nil ?_; intro w' hw'; obtain ⟨nx, hw''⟩ := hw'; have hbx := ext_out hw''; clear hw'' nx hxe; have hB : Below w.heap.size w w' := Below.thenn (by repeat (first | exact Below.refl _ _ | assumption | apply Below.drew | apply below_drewN | (refine Below.alloc ?_ (by first | omega | (simp; done) | (simp; omega)) _) | (refine Below.setCell ?_ (by first | omega | (simp; done) | (simp; omega)) _))) hbx (by first | omega | (simp; done) | (simp; omega)); have hz : w.heap.size ≤ w'.heap.size := hB.size; obtain ⟨hc, hf⟩ := bcell hbx; clear hbx)
              have HB6 := Lib.hid (Below.thenn HB.out hB HB.out.size)
              clear hc hf
              go_wp2_with fail
              go_roundg (M - (k + 1))
              case measure => omega
              case rel => exact ⟨k + 1, by omega, by omega, by go_num, HB6⟩
            · have hd : decide (lim < y) = false := decide_eq_false ht
              rw [decide_eq_false (fun hh => ht (me.1 hh))] at ch
              have CH := Lib.hid ch
              clear ch me ht
              go_wp2_with fail
              (refine wp_region_ext (by kernel_rfl) (by kernel_rfl) ?_; have hxe := ext_cells; (repeat (go_big_quiet_step ((go_at_call 33; exact ext_pure (CH.out _ (RX _)))))); refine wpQuiet_nil ?_; intro w' hw'; obtain ⟨nx, hw''⟩ := hw'; have hbx := ext_out hw''; clear hw'' nx hxe; have hB : Below w.heap.size w w' := Below.thenn (by repeat (first | exact Below.refl _ _ | assumption | apply Below.drew | apply below_drewN | (refine Below.alloc ?_ (by first | omega | (simp; done) | (simp; omega)) _) | (refine Below.setCell ?_ (by first | omega | (simp; done) | (simp; omega)) _))) hbx (by first | omega | (simp; done) | (simp; omega)); have hz : w.heap.size ≤ w'.heap.size := hB.size; obtain ⟨hc, hf⟩ := bcell hbx; clear hbx)
              have HB6 := Lib.hid (Below.thenn HB.out hB HB.out.size)
              clear hc hf
              go_wp2_with fail
              go_roundg (M - (k + 1))
              case measure => omega
              case rel => exact ⟨k + 1, by omega, by omega, by go_num, HB6⟩
          · go_wp2_with fail
            go_meet
            exact Lib.hid (Below.thenn E5.out HB.out E5.out.size)
  case rest =>
    as_aux_lemma =>
      have C0 : Hid (Below W.heap.size W wc) := hcut
      clear hcut T4 R4 E4 O4 HOV HUP hvl
      go_wp2_with fail
      refine (draw_SafetyAt _ _ (HS.out.below C0.out)).mono ?_
      rintro e w1 ⟨A2, c2, rows2, x2, ct2, r2, k2, br, rfl, hlrows2, ho, hb⟩
      have E1 := Lib.hid ((Below.thenn C0.out hb C0.out.size).alloc (Nat.le_trans C0.out.size hb.size) (.cells #[.int .i64 x2, .int .i64 ct2, .int .i64 r2] 70))
      have T1 := Lib.hid (Blk.new w1 70 #[.int .i64 x2, .int .i64 ct2, .int .i64 r2])
      have R1 := Lib.hid ((ho.alloc (.cells #[.int .i64 x2, .int .i64 ct2, .int .i64 r2] 70)).rdL)
      clear hb C0 ho
      go_wp2_with fail
      generalize w1.alloc (.cells #[.int .i64 x2, .int .i64 ct2, .int .i64 r2] 70) = v1 at *
      generalize w1.heap.size = q at *
      (go_wp2_with fail; refine (impl_SafetyAt _ _ _ rows2 x2 ct2 r2 k2 br v1 R1.out (by omega)).mono ?_; rintro e w2 ⟨rfl, hb⟩; have E2 := Lib.hid (Below.thenn E1.out hb E1.out.size); have T2 := Lib.hid (T1.out.below hb T1.out.lt); have R2 := Lib.hid (R1.out.below hb); clear hb)
      obtain ⟨c0, c1', c2'⟩ := T2.out.cells3
      (go_wp2_with fail; refine (spec_SafetyAt _ _ _ rows2 x2 ct2 r2 k2 br w2 R2.out (by omega)).mono ?_; rintro e w3 ⟨rfl, hb⟩; have E3 := Lib.hid (Below.thenn E2.out hb E2.out.size); have T3 := Lib.hid (T2.out.below hb T2.out.lt); have R3 := Lib.hid (R2.out.below hb); clear hb)
      clear T1 T2 E1 E2 R1 R2 c0 c1' c2'
      have HSL := Lib.hid (fun (hk : saOk rows2 x2 ct2 r2 k2 br = true) => sa_law hk)
      have HSP := Lib.hid (fun (hk : saOk rows2 x2 ct2 r2 k2 br = true) => sa_pos hk)
      have HSI := Lib.hid (fun (hk : saOk rows2 x2 ct2 r2 k2 br = true) => saOk_iff.1 hk)
      generalize saN rows2 x2 ct2 r2 k2 br = N at *
      generalize saD rows2 x2 ct2 r2 k2 br = D at *
      generalize saOk rows2 x2 ct2 r2 k2 br = ok at *
      go_upto_if 143 with fail
      go_cut [23, 24] from 112 to 231 (fun q23 q24 wx => Hid (Below W.heap.size W wx))
      case first =>
        as_aux_lemma =>
          rcases ok with _ | _
          · go_wp2_with fail
            go_meet
            exact E3
          · obtain ⟨f1, f2, f3⟩ := HSL.out rfl
            obtain ⟨f4, f5⟩ := HSP.out rfl
            obtain ⟨hu, hk2, hbr, _⟩ := HSI.out rfl
            obtain ⟨j, rfl⟩ := Int.eq_ofNat_of_zero_le hk2.1
            simp only [Int.toNat_natCast] at f1 f4 f5
            have cu := fun w' (h' : RdL w' A2 rows2.length rows2) => impl_UpTensions A2 rows2.length c2 rows2 x2 ct2 r2 w' h' (by omega)
            rw [hu, up_yes hu] at cu
            have l1 := tnL_len rows2 x2 ct2 r2 rows2.length
            have CU : Hid (∀ w', RdL w' A2 rows2.length rows2 → Calls Try.prog 57 #[.slice A2 rows2.length c2, .agg #[.int .i64 x2, .int .i64 ct2, .int .i64 r2]] w' (RetM w' rows2.length (tnL rows2 x2 ct2 r2 rows2.length))) := Lib.hid (fun w' h' => (cu w' h').mono (fun _ _ hq => RetM.of l1 hq))
            have ezj := Lib.hid (tnL_at (rows := rows2) (w := x2) (c := ct2) (R := r2) f5)
            generalize tnN rows2 x2 ct2 r2 j = y at *
            generalize tnL rows2 x2 ct2 r2 rows2.length = us at *
            generalize rows2.length = M at *
            have u1 : IntKind.i64.wrap (N * y) = br * D := by rw [prod_in2 f2 ⟨Int.le_of_lt f4.1, f4.2⟩ (by decide), f1]
            have u2 : IntKind.i64.wrap (br * D) = br * D := prod_in2 (A := 1000000) (by omega) f3 (by decide)
            clear cu l1 f1 hu HSL HSP HSI
            obtain ⟨c0, c1', c2'⟩ := T3.out.cells3
            go_wp2_with fail
            refine (CU.out w3 R3.out).mono ?_
            rintro e w5 ⟨A5, c5, rfl, ho, hb⟩
            have E5 := Lib.hid (Below.thenn E3.out hb E3.out.size)
            obtain ⟨p1, o1, v1', rfl, hv1, hc1⟩ := ho.rd.at1 (k := j) f5
            rw [ezj.out] at hv1
            injection hv1 with hv1
            subst hv1
            clear hb ho c0 c1' c2' T3 R3 E3
            go_wp2_with fail
            go_meet
            exact E5
      case rest =>
        as_aux_lemma =>
          have C0 : Hid (Below W.heap.size W wc) := hcut
          clear hcut T3 R3 E3 HSL HSP HSI
          go_wp2_with fail
          refine (draw_GreatestTension _ _ (HS.out.below C0.out)).mono ?_
          rintro e w1 ⟨A3, c3, rows3, x3, ct3, r3, rfl, hlrows3, ho, hb⟩
          have E1 := Lib.hid ((Below.thenn C0.out hb C0.out.size).alloc (Nat.le_trans C0.out.size hb.size) (.cells #[.int .i64 x3, .int .i64 ct3, .int .i64 r3] 70))
          have T1 := Lib.hid (Blk.new w1 70 #[.int .i64 x3, .int .i64 ct3, .int .i64 r3])
          have R1 := Lib.hid ((ho.alloc (.cells #[.int .i64 x3, .int .i64 ct3, .int .i64 r3] 70)).rdL)
          clear hb C0 ho
          go_wp2_with fail
          generalize w1.alloc (.cells #[.int .i64 x3, .int .i64 ct3, .int .i64 r3] 70) = v1 at *
          generalize w1.heap.size = q at *
          (go_wp2_with fail; refine (impl_GreatestTension _ _ _ rows3 x3 ct3 r3 v1 R1.out (by omega)).mono ?_; rintro e w2 ⟨rfl, hb⟩; have E2 := Lib.hid (Below.thenn E1.out hb E1.out.size); have T2 := Lib.hid (T1.out.below hb T1.out.lt); have R2 := Lib.hid (R1.out.below hb); clear hb)
          obtain ⟨c0, c1', c2'⟩ := T2.out.cells3
          (go_wp2_with fail; refine (spec_GreatestTension _ _ _ rows3 x3 ct3 r3 w2 R2.out (by omega)).mono ?_; rintro e w3 ⟨rfl, hb⟩; have E3 := Lib.hid (Below.thenn E2.out hb E2.out.size); have T3 := Lib.hid (T2.out.below hb T2.out.lt); have R3 := Lib.hid (R2.out.below hb); clear hb)
          clear T1 T2 E1 E2 R1 R2 c0 c1' c2' T3 R3
          go_wp2_with fail
          refine (draw_PressAt _ _ (HS.out.below E3.out)).mono ?_
          rintro e w1 ⟨A4, c4, rows4, x4, ct4, r4, k4, rfl, hlrows4, ho, hb⟩
          have E1 := Lib.hid ((Below.thenn E3.out hb E3.out.size).alloc (Nat.le_trans E3.out.size hb.size) (.cells #[.int .i64 x4, .int .i64 ct4, .int .i64 r4] 70))
          have T1 := Lib.hid (Blk.new w1 70 #[.int .i64 x4, .int .i64 ct4, .int .i64 r4])
          have R1 := Lib.hid ((ho.alloc (.cells #[.int .i64 x4, .int .i64 ct4, .int .i64 r4] 70)).rdL)
          clear hb E3 ho
          go_wp2_with fail
          generalize w1.alloc (.cells #[.int .i64 x4, .int .i64 ct4, .int .i64 r4] 70) = v1 at *
          generalize w1.heap.size = q at *
          (go_wp2_with fail; refine (impl_PressAt _ _ _ rows4 x4 ct4 r4 k4 v1 R1.out (by omega)).mono ?_; rintro e w2 ⟨rfl, hb⟩; have E2 := Lib.hid (Below.thenn E1.out hb E1.out.size); have T2 := Lib.hid (T1.out.below hb T1.out.lt); have R2 := Lib.hid (R1.out.below hb); clear hb)
          obtain ⟨c0, c1', c2'⟩ := T2.out.cells3
          (go_wp2_with fail; refine (spec_PressAt _ _ _ rows4 x4 ct4 r4 k4 w2 R2.out (by omega)).mono ?_; rintro e w4 ⟨rfl, hb⟩; have E4 := Lib.hid (Below.thenn E2.out hb E2.out.size); have T4 := Lib.hid (T2.out.below hb T2.out.lt); have R4 := Lib.hid (R2.out.below hb); clear hb)
          go_wp2_with fail
          go_ret
          exact ⟨ret_bool (by simp), E4.out⟩
end Go.Proofs.Ytjfmicemnoglkaa
