/- The law FnClearances: its walk. -/
import Derived.Test.YtjfmicemnoglkaaClrHX
import Derived.Test.YtjfmicemnoglkaaClrEX
import Derived.Test.YtjfmicemnoglkaaClrG
import Derived.Test.YtjfmicemnoglkaaTowX
import Derived.Test.YtjfmicemnoglkaaDrwX
import Derived.Test.YtjfmicemnoglkaaKlaw
import Derived.Deep.CutRange
import Derived.Deep.CutBlock
import Derived.Test.YtjfmicemnoglkaaExt
namespace Go.Proofs.Ytjfmicemnoglkaa
open Go.RowKit
set_option linter.unusedVariables false
set_option linter.unusedSimpArgs false

theorem FrR.alloc {w : World} {B n : Nat} {A : Option Addr} {rows : List (List Int)} (h : FrR w B A n rows) (o : Obj) : FrR (w.alloc o) B A n rows := ⟨⟨h.1.1.alloc o, h.1.2⟩, h.2⟩
set_option maxRecDepth 100000 in
set_option maxHeartbeats 8000000 in
theorem law_FnClearances (A : Option Addr) (n c : Nat) (zs : List Int) (W : World) (h : Came .u8 W A n c zs) :
    Calls Try.prog 5 #[.slice A n c] W (Ret W (.bool true)) := by
  by_cases hbig : 65536 < n
  · go_enter Try.func5, Try.ntmps5
    go_wp2_with (go_at_call 9; refine (laws_vBig _ _ _ _).mono ?_; rintro e w' ⟨rfl, rfl⟩)
    go_ret
    exact ⟨rfl, Below.refl _ _⟩
  have hS : Src.ok ⟨A, n, c, zs⟩ W := came_src h (by omega)
  have HS := Lib.hid hS
  have B0 := Lib.hid (Below.refl W.heap.size W)
  clear h hS
  go_enter Try.func5, Try.ntmps5
  go_wp2_with (go_at_call 9; refine (laws_vBig _ _ _ _).mono ?_; rintro e w' ⟨rfl, rfl⟩)
  go_wp2_with fail
  refine (draw_LowestClearance _ _ (HS.out.below B0.out)).mono ?_
  rintro e w1 ⟨A1, c1, rows, x, p, A2, n2, c2, g2, rfl, hl, hn2, ho, hf, hb⟩
  have E1 := Lib.hid ((Below.thenn B0.out hb B0.out.size).alloc (Nat.le_trans B0.out.size hb.size) (.cells #[.int .i64 x, .int .i64 p] 26))
  have T1 := Lib.hid (Blk.new w1 26 #[.int .i64 x, .int .i64 p])
  have R1 := Lib.hid ((ho.alloc (.cells #[.int .i64 x, .int .i64 p] 26)).rdL)
  have F1 := Lib.hid (hf.alloc (.cells #[.int .i64 x, .int .i64 p] 26))
  clear hb B0 ho hf
  go_wp2_with fail
  generalize w1.alloc (.cells #[.int .i64 x, .int .i64 p] 26) = v1 at *
  generalize w1.heap.size = q at *
  (go_wp2_with fail; refine (impl_LowestClearance _ _ _ _ _ _ rows g2 x p v1 R1.out F1.out.1 (by omega) (by omega)).mono ?_; rintro e w2 ⟨rfl, hb⟩; have E2 := Lib.hid (Below.thenn E1.out hb E1.out.size); have T2 := Lib.hid (T1.out.below hb T1.out.lt); have R2 := Lib.hid (R1.out.below hb); have F2 := Lib.hid (F1.out.below hb); clear hb)
  obtain ⟨k0, k1⟩ := T2.out.cells2
  (go_wp2_with fail; refine (spec_LowestClearance _ _ _ _ _ _ rows g2 x p w2 R2.out F2.out.1 (by omega) (by omega)).mono ?_; rintro e w3 ⟨rfl, hb⟩; have E3 := Lib.hid (Below.thenn E2.out hb E2.out.size); have T3 := Lib.hid (T2.out.below hb T2.out.lt); have R3 := Lib.hid (R2.out.below hb); have F3 := Lib.hid (F2.out.below hb); clear hb)
  clear T1 T2 E1 E2 R1 R2 F1 F2 k0 k1
  have HLW := Lib.hid (fun (hk : lwOk rows g2 x p = true) => lw_law hk)
  generalize lwN rows g2 x p = N at *
  generalize lwD rows g2 x p = D at *
  generalize lwA rows g2 x p = pl at *
  generalize hok : lwOk rows g2 x p = ok at *
  have HOK := Lib.hid hok
  clear hok
  go_upto_region 6 with fail
  go_cut [89] from 63 to 88 (fun q89 wx => q89 = .bool false ∧ Hid (Below W.heap.size W wx) ∧ Hid (Blk wx q 26 #[.int .i64 x, .int .i64 p]) ∧ Hid (RdL wx A1 rows.length rows) ∧ Hid (FrR wx W.heap.size A2 n2 g2))
  case first =>
    · skip
      rcases ok with _ | _
      · obtain ⟨k0, k1⟩ := T3.out.cells2
        go_wp2_with fail
        go_meet
        exact ⟨rfl, E3, T3, R3, F3⟩
      · have cg := fun w' (h' : RdL w' A1 rows.length rows) (h2' : RdR w' 2 A2 n2 g2) => impl_IsGround A1 A2 rows.length c1 n2 c2 rows g2 w' h' h2' (by omega) (by omega)
        rw [(HLW.out rfl).2.1] at cg
        have CG := Lib.hid cg
        clear cg HLW
        go_wp2_with fail
        refine (CG.out w3 R3.out F3.out.1).mono ?_
        rintro e w4 ⟨rfl, hb⟩
        have E4 := Lib.hid (Below.thenn E3.out hb E3.out.size)
        have T4 := Lib.hid (T3.out.below hb T3.out.lt)
        have R4 := Lib.hid (R3.out.below hb)
        have F4 := Lib.hid (F3.out.below hb)
        clear hb
        go_wp2_with fail
        go_meet
        exact ⟨rfl, E4, T4, R4, F4⟩
  case rest =>
    · skip
      obtain ⟨rfl, E4, T4, R4, F4⟩ := hcut
      clear E3 T3 R3 F3
      generalize hwc : wc = w4 at *
      clear hwc
      go_upto_if 90 with fail
      go_cut [14, 15, 16, 17, 18, 19] from 91 to 147 (fun q14 q15 q16 q17 q18 q19 wx => Hid (Below W.heap.size W wx))
      case first =>
        · skip
          rcases ok with _ | _
          · go_wp2_with fail
            go_meet
            exact E4
          · obtain ⟨hln, hig, ⟨a1, a2, a3⟩, ⟨z1, z2, z3⟩, hmul, hD⟩ := HLW.out rfl
            have cs := fun w' (h' : RdL w' A1 rows.length rows) (h2' : RdR w' 2 A2 n2 g2) => impl_ClearanceAt A1 A2 rows.length c1 n2 c2 rows g2 x p pl w' h' h2' (by omega) (by omega)
            rw [a1, a2, a3] at cs
            have cz := fun w' (h' : RdL w' A1 rows.length rows) (h2' : RdR w' 2 A2 n2 g2) => impl_ClearanceAt A1 A2 rows.length c1 n2 c2 rows g2 x p 0 w' h' h2' (by omega) (by omega)
            rw [z1, z2, z3] at cz
            have L := lineOk_line hln
            have G := grd_line L (igOk_iff.1 hig).2
            have hgl : g2.length = n2 := F4.out.1.2.2
            have hn2' := G.2.2.2.1
            have hlo := L.lo
            have hg0 := (grdF_at (by have := (igOk_iff.1 hig).2; unfold grdA at this; simp only [Bool.and_eq_true] at this; exact this.2) (k := 0) (by omega)).1
            have hr0 := L.ht 0 (by omega)
            obtain ⟨b, off, hA, hbl, _, d1, _⟩ := R4.out.rowN (k := 0) (by omega)
            obtain ⟨b', off', hA', hbl', _, d2⟩ := F4.out.1.rowG (k := 0) (by omega)
            simp only [Nat.zero_mul, Nat.add_zero, Nat.zero_add] at d1 d2
            subst hA hA'
            generalize htN rows 0 = y0 at *
            generalize htN g2 0 = y1 at *
            have u1 : IntKind.i64.wrap (y0 - y1) = y0 - y1 := IntWalk.i64_in _ (by omega)
            have m1 := mulT (a := y0 - y1) (A := 2000) (b := D) (B := 1800000000000) (by omega) (by omega) (by omega) hD.2 (by omega)
            have u2 : IntKind.i64.wrap ((y0 - y1) * D) = (y0 - y1) * D := IntWalk.i64_in _ (by omega)
            have g1 : decide ((y0 - y1) * D < N) = false := decide_eq_false (by omega)
            have l1 : (0 : Int) < (rows.length : Int) := by omega
            have l2 : (0 : Int) < (n2 : Int) := by omega
            have l3 : 0 < rows.length := by omega
            have l4 : 0 < n2 := by omega
            have CS := Lib.hid cs
            have CZ := Lib.hid cz
            have HD1 := Lib.hid d1
            have HD2 := Lib.hid d2
            clear cs cz HLW HOK hln hig a1 a2 a3 z1 z2 z3 hmul hD L G hgl hn2' hlo hg0 hr0 m1 d1 d2
            obtain ⟨k0, k1⟩ := T4.out.cells2
            go_wp2_with fail
            refine (CS.out w4 R4.out F4.out.1).mono ?_
            rintro e w5 ⟨rfl, hb5⟩
            have E5 := Lib.hid (Below.thenn E4.out hb5 E4.out.size)
            have T5 := Lib.hid (T4.out.below hb5 T4.out.lt)
            have R5 := Lib.hid (R4.out.below hb5)
            have F5 := Lib.hid (F4.out.below hb5)
            have D1 := Lib.hid ((hb5.cell (p := ⟨b, off + 1, none⟩) hbl).trans HD1.out)
            have D2 := Lib.hid ((hb5.cell (p := ⟨b', off' + 1, none⟩) hbl').trans HD2.out)
            have z5 := hb5.size
            clear hb5 k0 k1
            obtain ⟨k0, k1⟩ := T5.out.cells2
            go_wp2_with fail
            refine (CZ.out w5 R5.out F5.out.1).mono ?_
            rintro e w6 ⟨rfl, hb6⟩
            have E6 := Lib.hid (Below.thenn E5.out hb6 E5.out.size)
            have q1 := (hb6.cell (p := ⟨b, off + 1, none⟩) (by simp; omega)).trans D1.out
            have q2 := (hb6.cell (p := ⟨b', off' + 1, none⟩) (by simp; omega)).trans D2.out
            have s1 : b < w6.heap.size := by have := hb6.size; omega
            have s2 : b' < w6.heap.size := by have := hb6.size; omega
            clear hb6 k0 k1 z5 T4 T5 R4 R5 F4 F5 E4 E5 HD1 HD2 D1 D2
            go_upto_region 11 with fail
            generalize hw : w6 = w at *
            clear hw
            have hB : Below w.heap.size w w := Below.refl _ _
            (refine wp_region_ext (by kernel_rfl) (by kernel_rfl) ?_; have hxe := ext_cells; (repeat (go_big_quiet_step (fail))); refine wpQuiet_nil ?_; intro w' hw'; obtain ⟨nx, hw''⟩ := hw'; have hbx := ext_out hw''; clear hw'' nx hxe; have hB : Below w.heap.size w w' := Below.thenn (by repeat (first | exact Below.refl _ _ | assumption | apply Below.drew | apply below_drewN | (refine Below.alloc ?_ (by first | omega | (simp; done) | (simp; omega)) _) | (refine Below.setCell ?_ (by first | omega | (simp; done) | (simp; omega)) _))) hbx (by first | omega | (simp; done) | (simp; omega)); have hz : w.heap.size ≤ w'.heap.size := hB.size; obtain ⟨hc, hf⟩ := bcell hbx; clear hbx)
            have E7 := Lib.hid (Below.thenn E6.out hB E6.out.size)
            go_wp2_with fail
            go_meet
            exact E7
      case rest =>
        · skip
          have C0 : Hid (Below W.heap.size W wc) := hcut
          clear hcut E4 T4 R4 F4 HLW HOK
          go_wp2_with fail
          refine (draw_ClearanceAt _ _ (HS.out.below C0.out)).mono ?_
          rintro e w1 ⟨A3, c3, rows3, x3, p3, A4, n4, c4, g4, pl3, rfl, hl3, hn4, ho, hf, hb⟩
          have E1 := Lib.hid ((Below.thenn C0.out hb C0.out.size).alloc (Nat.le_trans C0.out.size hb.size) (.cells #[.int .i64 x3, .int .i64 p3] 26))
          have T1 := Lib.hid (Blk.new w1 26 #[.int .i64 x3, .int .i64 p3])
          have R1 := Lib.hid ((ho.alloc (.cells #[.int .i64 x3, .int .i64 p3] 26)).rdL)
          have F1 := Lib.hid (hf.alloc (.cells #[.int .i64 x3, .int .i64 p3] 26))
          clear hb C0 ho hf
          go_wp2_with fail
          generalize w1.alloc (.cells #[.int .i64 x3, .int .i64 p3] 26) = v1 at *
          generalize w1.heap.size = q at *
          (go_wp2_with fail; refine (impl_ClearanceAt _ _ _ _ _ _ rows3 g4 x3 p3 pl3 v1 R1.out F1.out.1 (by omega) (by omega)).mono ?_; rintro e w2 ⟨rfl, hb⟩; have E2 := Lib.hid (Below.thenn E1.out hb E1.out.size); have T2 := Lib.hid (T1.out.below hb T1.out.lt); have R2 := Lib.hid (R1.out.below hb); have F2 := Lib.hid (F1.out.below hb); clear hb)
          obtain ⟨k0, k1⟩ := T2.out.cells2
          (go_wp2_with fail; refine (spec_ClearanceAt _ _ _ _ _ _ rows3 g4 x3 p3 pl3 w2 R2.out F2.out.1 (by omega) (by omega)).mono ?_; rintro e w3 ⟨rfl, hb⟩; have E3 := Lib.hid (Below.thenn E2.out hb E2.out.size); have T3 := Lib.hid (T2.out.below hb T2.out.lt); have R3 := Lib.hid (R2.out.below hb); have F3 := Lib.hid (F2.out.below hb); clear hb)
          clear T1 T2 E1 E2 R1 R2 F1 F2 k0 k1 T3 R3 F3
          generalize caN rows3 g4 x3 p3 pl3 = N3 at *
          generalize caD rows3 g4 x3 p3 pl3 = D3 at *
          generalize caOk rows3 g4 x3 p3 pl3 = ok3 at *
          go_wp2_with fail
          refine (draw_IsGround _ _ (HS.out.below E3.out)).mono ?_
          rintro e w1 ⟨A5, c5, rows5, A6, n6, c6, g6, rfl, hl5, hn6, ho, hf, hb⟩
          have E1 := Lib.hid (Below.thenn E3.out hb E3.out.size)
          have R1 := Lib.hid ho.rdL
          have F1 := Lib.hid hf
          clear hb E3 ho hf
          go_wp2_with fail
          refine (impl_IsGround _ _ _ _ _ _ rows5 g6 w1 R1.out F1.out.1 (by omega) (by omega)).mono ?_
          rintro e w2 ⟨rfl, hb⟩
          have E2 := Lib.hid (Below.thenn E1.out hb E1.out.size)
          have R2 := Lib.hid (R1.out.below hb)
          have F2 := Lib.hid (F1.out.below hb)
          clear hb
          go_wp2_with fail
          refine (spec_IsGround _ _ _ _ _ _ rows5 g6 w2 R2.out F2.out.1 (by omega) (by omega)).mono ?_
          rintro e w3 ⟨rfl, hb⟩
          have E3 := Lib.hid (Below.thenn E2.out hb E2.out.size)
          clear hb E1 E2 R1 R2 F1 F2
          generalize igOk rows5 g6 = ok5 at *
          go_wp2_with fail
          refine (draw_TowerAngle _ _ (HS.out.below E3.out)).mono ?_
          rintro e w1 ⟨A7, c7, rows7, x7, p7, s7, rfl, hl7, ho, hb⟩
          have E1 := Lib.hid ((Below.thenn E3.out hb E3.out.size).alloc (Nat.le_trans E3.out.size hb.size) (.cells #[.int .i64 x7, .int .i64 p7] 26))
          have T1 := Lib.hid (Blk.new w1 26 #[.int .i64 x7, .int .i64 p7])
          have R1 := Lib.hid ((ho.alloc (.cells #[.int .i64 x7, .int .i64 p7] 26)).rdL)
          clear hb E3 ho
          go_wp2_with fail
          generalize w1.alloc (.cells #[.int .i64 x7, .int .i64 p7] 26) = v1 at *
          generalize w1.heap.size = q at *
          (go_wp2_with fail; refine (impl_TowerAngle _ _ _ rows7 x7 p7 s7 v1 R1.out (by omega)).mono ?_; rintro e w2 ⟨rfl, hb⟩; have E2 := Lib.hid (Below.thenn E1.out hb E1.out.size); have T2 := Lib.hid (T1.out.below hb T1.out.lt); have R2 := Lib.hid (R1.out.below hb); clear hb)
          obtain ⟨k0, k1⟩ := T2.out.cells2
          (go_wp2_with fail; refine (spec_TowerAngle _ _ _ rows7 x7 p7 s7 w2 R2.out (by omega)).mono ?_; rintro e w4 ⟨rfl, hb⟩; have E4 := Lib.hid (Below.thenn E2.out hb E2.out.size); have T4 := Lib.hid (T2.out.below hb T2.out.lt); have R4 := Lib.hid (R2.out.below hb); clear hb)
          generalize twN rows7 x7 p7 s7 = N7 at *
          generalize twD rows7 x7 p7 s7 = D7 at *
          generalize twOk rows7 x7 p7 s7 = ok7 at *
          go_wp2_with fail
          go_ret
          exact ⟨ret_bool (by simp), E4.out⟩
end Go.Proofs.Ytjfmicemnoglkaa
