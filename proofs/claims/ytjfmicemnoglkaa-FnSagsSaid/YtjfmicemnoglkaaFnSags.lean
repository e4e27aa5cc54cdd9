/- The law FnSags: its walk. -/
import Derived.Test.YtjfmicemnoglkaaSupF
import Derived.Test.YtjfmicemnoglkaaSagC
import Derived.Test.YtjfmicemnoglkaaSagE
import Derived.Test.YtjfmicemnoglkaaSagF
import Derived.Test.YtjfmicemnoglkaaSagG
import Derived.Test.YtjfmicemnoglkaaKlaw
import Derived.Test.YtjfmicemnoglkaaKhas
import Derived.Deep.CutRange
import Derived.Deep.CutBlock
import Derived.Test.YtjfmicemnoglkaaExt
namespace Go.Proofs.Ytjfmicemnoglkaa
open Go.RowKit
set_option linter.unusedVariables false
set_option linter.unusedSimpArgs false

theorem sag_next {rows : List (List Int)} {w p place : Int} (h : sagOk rows w p place = true) (hp : p < 100000) : sagOk rows w (p + 1) place = true := by
  obtain ⟨h1, h2⟩ := sagOk_iff.1 h
  obtain ⟨h3, h4⟩ := ropeOk_iff.1 h2
  exact sagOk_iff.2 ⟨h1, ropeOk_iff.2 ⟨h3, by omega⟩⟩
theorem prod_in {a b A B : Int} (ha : 0 ≤ a ∧ a ≤ A) (hb : 0 ≤ b ∧ b ≤ B) (h : A * B ≤ 9000000000000000000) : IntKind.i64.wrap (a * b) = a * b := by
  have := mulB ha.1 ha.2 hb.1 hb.2
  exact IntWalk.i64_in _ (by omega)
set_option maxRecDepth 100000 in
set_option maxHeartbeats 8000000 in
theorem law_FnSags (A : Option Addr) (n c : Nat) (zs : List Int) (W : World) (h : Came .u8 W A n c zs) :
    Calls Try.prog 3 #[.slice A n c] W (Ret W (.bool true)) := by
  by_cases hbig : 65536 < n
  · go_enter Try.func3, Try.ntmps3
    go_wp2_with (go_at_call 9; refine (laws_vBig _ _ _ _).mono ?_; rintro e w' ⟨rfl, rfl⟩)
    go_ret
    exact ⟨rfl, Below.refl _ _⟩
  have hS : Src.ok ⟨A, n, c, zs⟩ W := came_src h (by omega)
  have HS := Lib.hid hS
  have B0 := Lib.hid (Below.refl W.heap.size W)
  clear h hS
  go_enter Try.func3, Try.ntmps3
  go_wp2_with (go_at_call 9; refine (laws_vBig _ _ _ _).mono ?_; rintro e w' ⟨rfl, rfl⟩)
  go_wp2_with fail
  refine (draw_LoadedSag _ _ (HS.out.below B0.out)).mono ?_
  rintro e w1 ⟨A1, c1, rows, x, p, place, ld, rfl, hl, ho, hb⟩
  have E1 := Lib.hid ((Below.thenn B0.out hb B0.out.size).alloc (Nat.le_trans B0.out.size hb.size) (.cells #[.int .i64 x, .int .i64 p] 26))
  have T1 := Lib.hid (Blk.new w1 26 #[.int .i64 x, .int .i64 p])
  have R1 := Lib.hid ((ho.alloc (.cells #[.int .i64 x, .int .i64 p] 26)).rdL)
  clear hb B0 ho
  go_wp2_with fail
  generalize w1.alloc (.cells #[.int .i64 x, .int .i64 p] 26) = v1 at *
  generalize w1.heap.size = q at *
  (go_wp2_with fail; refine (impl_LoadedSag _ _ _ rows x p place ld v1 R1.out (by omega)).mono ?_; rintro e w2 ⟨rfl, hb⟩; have E2 := Lib.hid (Below.thenn E1.out hb E1.out.size); have T2 := Lib.hid (T1.out.below hb T1.out.lt); have R2 := Lib.hid (R1.out.below hb); clear hb)
  obtain ⟨c0, c1'⟩ := T2.out.cells2
  (go_wp2_with fail; refine (spec_LoadedSag _ _ _ rows x p place ld w2 R2.out (by omega)).mono ?_; rintro e w3 ⟨rfl, hb⟩; have E3 := Lib.hid (Below.thenn E2.out hb E2.out.size); have T3 := Lib.hid (T2.out.below hb T2.out.lt); have R3 := Lib.hid (R2.out.below hb); clear hb)
  clear T1 T2 E1 E2 R1 R2 c0 c1'
  have HLG := Lib.hid (fun (hk : ldOk rows x p place ld = true) => lg_yes hk)
  generalize lgN rows x p place ld = N at *
  generalize lgD rows x p place ld = D at *
  generalize hok : ldOk rows x p place ld = ok at *
  have HOK := Lib.hid hok
  clear hok
  obtain ⟨d0, d1⟩ := T3.out.cells2
  have hlt3 := T3.out.lt
  go_upto_region 6 with fail
  generalize hw3 : w3 = w at *
  clear hw3
  have hB : Below w.heap.size w w := Below.refl _ _
  (refine wp_region_ext (by kernel_rfl) (by kernel_rfl) ?_; have hxe := ext_cells; (repeat (go_big_quiet_step (first | (go_at_call 13; exact ext_ret (impl_IsRope _ _ _)) | (go_at_call 14; exact ext_ret (spec_IsRope _ _ _))))); refine wpQuiet_nil ?_; intro w' hw'; obtain ⟨nx, hw''⟩ := hw'; have hbx := ext_out hw''; clear hw'' nx hxe; have hB : Below w.heap.size w w' := Below.thenn (by repeat (first | exact Below.refl _ _ | assumption | apply Below.drew | apply below_drewN | (refine Below.alloc ?_ (by first | omega | (simp; done) | (simp; omega)) _) | (refine Below.setCell ?_ (by first | omega | (simp; done) | (simp; omega)) _))) hbx (by first | omega | (simp; done) | (simp; omega)); have hz : w.heap.size ≤ w'.heap.size := hB.size; obtain ⟨hc, hf⟩ := bcell hbx; clear hbx)
  have E4 := Lib.hid (Below.thenn E3.out hB E3.out.size)
  have T4 := Lib.hid (T3.out.below hB T3.out.lt)
  have R4 := Lib.hid (R3.out.below hB)
  clear hc hf hz T3 R3 E3 d0 d1 hlt3
  generalize hw4 : w' = w4 at *
  clear hw4 hB
  go_upto_if 106 with fail
  go_cut [13, 14, 15, 16, 17, 18, 19, 20, 21, 22, 23, 24, 25, 26, 27, 28, 29] from 59 to 359 (fun q13 q14 q15 q16 q17 q18 q19 q20 q21 q22 q23 q24 q25 q26 q27 q28 q29 wx => Hid (Below W.heap.size W wx))
  case first =>
    as_aux_lemma =>
      rcases ok with _ | _
      · go_wp2_with fail
        go_meet
        exact E4
      · have hk := HOK.out
        obtain ⟨hs, hld⟩ := ldOk_iff.1 hk
        obtain ⟨hln, hrp⟩ := sagOk_iff.1 hs
        obtain ⟨eN, eD⟩ := HLG.out rfl
        subst eN eD
        have cs := fun w' (h' : RdL w' A1 rows.length rows) => impl_SagAt A1 rows.length c1 rows x p place w' h' (by omega)
        rw [hs, (sg_yes hs).1, (sg_yes hs).2] at cs
        have hk0 : ldOk rows x p place 0 = true := ldOk_iff.2 ⟨hs, by omega, by omega⟩
        have cl := fun w' (h' : RdL w' A1 rows.length rows) => impl_LoadedSag A1 rows.length c1 rows x p place 0 w' h' (by omega)
        rw [hk0, (lg_yes hk0).1, (lg_yes hk0).2, (sag_none hs).1, (sag_none hs).2] at cl
        have hg : ggOk rows x p = true := ggOk_iff.2 ⟨hln.1, hrp⟩
        have cg := fun w' (h' : RdL w' A1 rows.length rows) => impl_GreatestSag A1 rows.length c1 rows x p w' h' (by omega)
        rw [hg, (gg_yes hg).1, (gg_yes hg).2.1, (gg_yes hg).2.2] at cg
        obtain ⟨ga1, ga2, ga3⟩ := sag_at hln.1 x p
        have hsg : sagOk rows x p (gsAt rows) = true := by unfold sagOk; rw [ga1, hrp]; rfl
        have ca := fun w' (h' : RdL w' A1 rows.length rows) => impl_SagAt A1 rows.length c1 rows x p (gsAt rows) w' h' (by omega)
        rw [hsg, (sg_yes hsg).1, (sg_yes hsg).2, ga2, ga3] at ca
        have b1 := sag_bd hs
        have b2 := ldr_bd hk
        have b3 := sag_bd hsg
        rw [ga2, ga3] at b3
        have l1 := sag_load hk
        have l2 := sag_most hs
        have l3 := sag_pull hs
        have hn := fun hp => sag_next hs hp
        have cn := fun w' (h' : RdL w' A1 rows.length rows) => impl_SagAt A1 rows.length c1 rows x (p + 1) place w' h' (by omega)
        have b4 := fun hp => sag_bd (hn hp)
        have hCN : ∀ (hp : p < 100000) w' (h' : RdL w' A1 rows.length rows), Calls Try.prog 15 #[.slice A1 rows.length c1, .agg #[.int .i64 x, .int .i64 (p + 1)], .int .i64 place] w' (Ret w' (.tuple #[.int .i64 (sagN rows x (p + 1) place), .int .i64 (sagD rows x (p + 1) place), .bool true])) := by
          intro hp w' h'
          have := cn w' h'
          rw [hn hp, (sg_yes (hn hp)).1, (sg_yes (hn hp)).2] at this
          exact this
        have hpr := (ropeOk_iff.1 hrp).2
        generalize sagN rows x p place = a at *
        generalize sagD rows x p place = b at *
        generalize ldN rows x p place ld = N at *
        generalize ldD rows x p place ld = D at *
        generalize gsAt rows = ga at *
        generalize grN rows x p = gn at *
        generalize grD rows x p = gd at *
        generalize sagN rows x (p + 1) place = e4 at *
        generalize sagD rows x (p + 1) place = f4 at *
        have u1 : IntKind.i64.wrap (a * D) = a * D := prod_in b1.1 ⟨Int.le_of_lt b2.2.1, b2.2.2⟩ (by decide)
        have u2 : IntKind.i64.wrap (N * b) = N * b := prod_in b2.1 ⟨Int.le_of_lt b1.2.1, b1.2.2⟩ (by decide)
        have u3 : IntKind.i64.wrap (a * gd) = a * gd := prod_in b1.1 ⟨Int.le_of_lt b3.2.1, b3.2.2⟩ (by decide)
        have u4 : IntKind.i64.wrap (gn * b) = gn * b := prod_in b3.1 ⟨Int.le_of_lt b1.2.1, b1.2.2⟩ (by decide)
        have g1 : decide (N * b < a * D) = false := decide_eq_false (by omega)
        have g2 : decide (gn * b < a * gd) = false := decide_eq_false (by omega)
        have CS := Lib.hid cs
        have CL := Lib.hid cl
        have CG := Lib.hid cg
        have CA := Lib.hid ca
        have CN := Lib.hid hCN
        have B4 := Lib.hid b4
        have L3 := Lib.hid l3
        clear cs cl cg ca cn hCN hn b2 b3 l1 l2 l3 b4 hk hs hln hrp hk0 hg ga1 ga2 ga3 hsg HLG HOK
        obtain ⟨c0, c1'⟩ := T4.out.cells2
        (go_wp2_with fail; refine (CS.out w4 R4.out).mono ?_; rintro e w5 ⟨rfl, hb⟩; have E5 := Lib.hid (Below.thenn E4.out hb E4.out.size); have T5 := Lib.hid (T4.out.below hb T4.out.lt); have R5 := Lib.hid (R4.out.below hb); clear hb)
        clear c0 c1'
        obtain ⟨c0, c1'⟩ := T5.out.cells2
        (go_wp2_with fail; refine (CL.out w5 R5.out).mono ?_; rintro e w6 ⟨rfl, hb⟩; have E6 := Lib.hid (Below.thenn E5.out hb E5.out.size); have T6 := Lib.hid (T5.out.below hb T5.out.lt); have R6 := Lib.hid (R5.out.below hb); clear hb)
        clear c0 c1' T4 R4 T5 R5 E4 E5
        obtain ⟨c0, c1'⟩ := T6.out.cells2
        go_upto_if 150 with fail
        go_cut [19, 20, 21, 22] from 148 to 176 (fun q19 q20 q21 q22 wx => Hid (Below w6.heap.size w6 wx))
        case first =>
          as_aux_lemma =>
            by_cases hp : p < 100000
            · have b5 := B4.out hp
              have u5 : IntKind.i64.wrap (e4 * b) = e4 * b := prod_in b5.1 ⟨Int.le_of_lt b1.2.1, b1.2.2⟩ (by decide)
              have u6 : IntKind.i64.wrap (a * f4) = a * f4 := prod_in b1.1 ⟨Int.le_of_lt b5.2.1, b5.2.2⟩ (by decide)
              have g3 : decide (a * f4 < e4 * b) = false := decide_eq_false (by have := L3.out; omega)
              have CNp := Lib.hid (CN.out hp)
              clear L3 B4 b5 u1 u2 u3 u4 g1 g2 CN
              go_wp2_with fail
              refine (CNp.out _ (by exact R6.out.below ((Below.refl _ _).alloc (Nat.le_refl _) _))).mono ?_
              rintro e w7 ⟨rfl, hb⟩
              have F7 := Lib.hid (Below.thenn ((Below.refl w6.heap.size w6).alloc (Nat.le_refl _) (.cells #[.int .i64 x, .int .i64 (p + 1)] 26)) hb (by simp))
              clear hb
              go_wp2_with fail
              go_meet
              exact F7
            · go_wp2_with fail
              go_meet
              exact Lib.hid (Below.refl _ _)
        case rest =>
          as_aux_lemma =>
            have E7 := Lib.hid (Below.thenn E6.out hcut.out E6.out.size)
            have T7 := Lib.hid (T6.out.below hcut.out T6.out.lt)
            have R7 := Lib.hid (R6.out.below hcut.out)
            clear hcut c0 c1' T6 R6 E6 CN B4 L3
            obtain ⟨c0, c1'⟩ := T7.out.cells2
            (go_wp2_with fail; refine (CG.out wc R7.out).mono ?_; rintro e w8 ⟨rfl, hb⟩; have E8 := Lib.hid (Below.thenn E7.out hb E7.out.size); have T8 := Lib.hid (T7.out.below hb T7.out.lt); have R8 := Lib.hid (R7.out.below hb); clear hb)
            clear c0 c1'
            obtain ⟨c0, c1'⟩ := T8.out.cells2
            (go_wp2_with fail; refine (CA.out w8 R8.out).mono ?_; rintro e w9 ⟨rfl, hb⟩; have E9 := Lib.hid (Below.thenn E8.out hb E8.out.size); have T9 := Lib.hid (T8.out.below hb T8.out.lt); have R9 := Lib.hid (R8.out.below hb); clear hb)
            go_wp2_with fail
            go_meet
            exact E9
  case rest =>
    as_aux_lemma =>
      have C0 : Hid (Below W.heap.size W wc) := hcut
      clear hcut T4 R4 E4 HLG HOK
      go_wp2_with fail
      refine (draw_PullFor _ _ (HS.out.below C0.out)).mono ?_
      rintro e w1 ⟨A2, c2, rows2, x2, pl2, s2, rfl, hl2, ho, hb⟩
      have E1 := Lib.hid (Below.thenn C0.out hb C0.out.size)
      have R1 := Lib.hid ho.rdL
      clear hb C0 ho
      go_wp2_with fail
      refine (impl_PullFor _ _ _ rows2 x2 pl2 s2 w1 R1.out (by omega)).mono ?_
      rintro e w2 ⟨rfl, hb⟩
      have E2 := Lib.hid (Below.thenn E1.out hb E1.out.size)
      have R2 := Lib.hid (R1.out.below hb)
      clear hb
      go_wp2_with fail
      refine (spec_PullFor _ _ _ rows2 x2 pl2 s2 w2 R2.out (by omega)).mono ?_
      rintro e w3 ⟨rfl, hb⟩
      have E3 := Lib.hid (Below.thenn E2.out hb E2.out.size)
      have R3 := Lib.hid (R2.out.below hb)
      clear hb E1 E2 R1 R2
      have HPF := Lib.hid (fun (hk : pfOk rows2 x2 pl2 s2 = true) => pf_facts hk)
      have HSS := Lib.hid (fun (hk : pfOk rows2 x2 pl2 s2 = true) => (pfOk_iff.1 hk).2.2.1)
      generalize pfV rows2 x2 pl2 s2 = pull at *
      generalize pfOk rows2 x2 pl2 s2 = ok at *
      go_upto_if 246 with fail
      go_cut [38, 39, 40, 41, 42, 43] from 222 to 359 (fun q38 q39 q40 q41 q42 q43 wx => Hid (Below W.heap.size W wx))
      case first =>
        as_aux_lemma =>
          rcases ok with _ | _
          · go_wp2_with fail
            go_meet
            exact E3
          · obtain ⟨hs, h1, h2, h3⟩ := HPF.out rfl
            have hs2 := HSS.out rfl
            have cs := fun w' (h' : RdL w' A2 rows2.length rows2) => impl_SagAt A2 rows2.length c2 rows2 x2 pull pl2 w' h' (by omega)
            rw [hs, (sg_yes hs).1, (sg_yes hs).2] at cs
            have cn := fun w' (h' : RdL w' A2 rows2.length rows2) => impl_SagAt A2 rows2.length c2 rows2 x2 (pull - 1) pl2 w' h' (by omega)
            have b1 := sag_bd hs
            have b2 := fun (hh : sagOk rows2 x2 (pull - 1) pl2 = true) => sag_bd hh
            have e2 := fun (hh : sagOk rows2 x2 (pull - 1) pl2 = true) => sg_yes hh
            have u0 : IntKind.i64.wrap (pull - 1) = pull - 1 := IntWalk.i64_in _ (by omega)
            have H2 := Lib.hid h2
            have B2 := Lib.hid b2
            have EE := Lib.hid e2
            clear h2 b2 e2 hs HPF HSS
            generalize sagN rows2 x2 pull pl2 = a at *
            generalize sagD rows2 x2 pull pl2 = b at *
            generalize sagN rows2 x2 (pull - 1) pl2 = a2 at *
            generalize sagD rows2 x2 (pull - 1) pl2 = b2 at *
            generalize sgN rows2 x2 (pull - 1) pl2 = a3 at *
            generalize sgD rows2 x2 (pull - 1) pl2 = b3 at *
            generalize sagOk rows2 x2 (pull - 1) pl2 = ok3 at *
            have u1 : IntKind.i64.wrap (s2 * b) = s2 * b := prod_in hs2 ⟨Int.le_of_lt b1.2.1, b1.2.2⟩ (by decide)
            have g1 : decide (s2 * b < a) = false := decide_eq_false (by omega)
            have CS := Lib.hid cs
            have CN := Lib.hid cn
            clear cs cn
            go_wp2_with fail
            refine (CS.out w3 R3.out).mono ?_
            rintro e w4 ⟨rfl, hb⟩
            have E4 := Lib.hid (Below.thenn E3.out hb E3.out.size)
            have R4 := Lib.hid (R3.out.below hb)
            clear hb
            go_wp2_with fail
            refine (CN.out w4 R4.out).mono ?_
            rintro e w5 ⟨rfl, hb⟩
            have E5 := Lib.hid (Below.thenn E4.out hb E4.out.size)
            clear hb
            rcases ok3 with _ | _
            · go_wp2_with fail
              go_meet
              exact E5
            · obtain ⟨rfl, rfl⟩ := EE.out rfl
              have b5 := B2.out rfl
              have u2 : IntKind.i64.wrap (s2 * b3) = s2 * b3 := prod_in hs2 ⟨Int.le_of_lt b5.2.1, b5.2.2⟩ (by decide)
              have g2 : decide (a3 ≤ s2 * b3) = false := decide_eq_false (by have := H2.out rfl; omega)
              go_wp2_with fail
              go_meet
              exact E5
      case rest =>
        as_aux_lemma =>
          have C0 : Hid (Below W.heap.size W wc) := hcut
          clear hcut R3 E3 HPF HSS
          go_wp2_with fail
          refine (draw_SagAt _ _ (HS.out.below C0.out)).mono ?_
          rintro e w1 ⟨A3, c3, rows3, x3, p3, pl3, rfl, hl3, ho, hb⟩
          have E1 := Lib.hid ((Below.thenn C0.out hb C0.out.size).alloc (Nat.le_trans C0.out.size hb.size) (.cells #[.int .i64 x3, .int .i64 p3] 26))
          have T1 := Lib.hid (Blk.new w1 26 #[.int .i64 x3, .int .i64 p3])
          have R1 := Lib.hid ((ho.alloc (.cells #[.int .i64 x3, .int .i64 p3] 26)).rdL)
          clear hb C0 ho
          go_wp2_with fail
          generalize w1.alloc (.cells #[.int .i64 x3, .int .i64 p3] 26) = v1 at *
          generalize w1.heap.size = q at *
          (go_wp2_with fail; refine (impl_SagAt _ _ _ rows3 x3 p3 pl3 v1 R1.out (by omega)).mono ?_; rintro e w2 ⟨rfl, hb⟩; have E2 := Lib.hid (Below.thenn E1.out hb E1.out.size); have T2 := Lib.hid (T1.out.below hb T1.out.lt); have R2 := Lib.hid (R1.out.below hb); clear hb)
          obtain ⟨c0, c1'⟩ := T2.out.cells2
          (go_wp2_with fail; refine (spec_SagAt _ _ _ rows3 x3 p3 pl3 w2 R2.out (by omega)).mono ?_; rintro e w3 ⟨rfl, hb⟩; have E3 := Lib.hid (Below.thenn E2.out hb E2.out.size); have T3 := Lib.hid (T2.out.below hb T2.out.lt); have R3 := Lib.hid (R2.out.below hb); clear hb)
          clear T1 T2 E1 E2 R1 R2 c0 c1' T3 R3
          go_wp2_with fail
          refine (draw_GreatestSag _ _ (HS.out.below E3.out)).mono ?_
          rintro e w1 ⟨A4, c4, rows4, x4, p4, rfl, hl4, ho, hb⟩
          have E1 := Lib.hid ((Below.thenn E3.out hb E3.out.size).alloc (Nat.le_trans E3.out.size hb.size) (.cells #[.int .i64 x4, .int .i64 p4] 26))
          have T1 := Lib.hid (Blk.new w1 26 #[.int .i64 x4, .int .i64 p4])
          have R1 := Lib.hid ((ho.alloc (.cells #[.int .i64 x4, .int .i64 p4] 26)).rdL)
          clear hb E3 ho
          go_wp2_with fail
          generalize w1.alloc (.cells #[.int .i64 x4, .int .i64 p4] 26) = v1 at *
          generalize w1.heap.size = q at *
          (go_wp2_with fail; refine (impl_GreatestSag _ _ _ rows4 x4 p4 v1 R1.out (by omega)).mono ?_; rintro e w2 ⟨rfl, hb⟩; have E2 := Lib.hid (Below.thenn E1.out hb E1.out.size); have T2 := Lib.hid (T1.out.below hb T1.out.lt); have R2 := Lib.hid (R1.out.below hb); clear hb)
          obtain ⟨c0, c1'⟩ := T2.out.cells2
          (go_wp2_with fail; refine (spec_GreatestSag _ _ _ rows4 x4 p4 w2 R2.out (by omega)).mono ?_; rintro e w4 ⟨rfl, hb⟩; have E4 := Lib.hid (Below.thenn E2.out hb E2.out.size); have T4 := Lib.hid (T2.out.below hb T2.out.lt); have R4 := Lib.hid (R2.out.below hb); clear hb)
          go_wp2_with fail
          go_ret
          exact ⟨ret_bool (by simp), E4.out⟩
end Go.Proofs.Ytjfmicemnoglkaa
