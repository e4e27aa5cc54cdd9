/- The law FnPrices: its walk. -/
import Derived.Test.YtobcgcdjoogfnaaPriB
import Derived.Test.YtobcgcdjoogfnaaPriP
import Derived.Test.YtobcgcdjoogfnaaCheapS
import Derived.Test.YtobcgcdjoogfnaaCheapI
import Derived.Test.YtobcgcdjoogfnaaKlaw
import Derived.Deep.CutRange
import Derived.Deep.CutBlock
import Derived.Test.YtobcgcdjoogfnaaExt
namespace Go.Proofs.Ytobcgcdjoogfnaa
open Go.RowKit
set_option linter.unusedVariables false
set_option linter.unusedSimpArgs false

/-- What the law asks of the cheapest tickets. -/
theorem pr_law {p0 p1 p2 p3 ups downs : Int} (hk : chOk p0 p1 p2 p3 ups downs = true) : ∃ a b d t : Int, chV p0 p1 p2 p3 ups downs = [a, b, d, t] ∧ a * p0 + b * p1 + d * p2 + t * p3 = chC p0 p1 p2 p3 ups downs ∧
    ((0 ≤ a ∧ a ≤ 20) ∧ (0 ≤ b ∧ b ≤ 20) ∧ (0 ≤ d ∧ d ≤ 20) ∧ (0 ≤ t ∧ t ≤ 20)) ∧ (ups + downs ≤ 20 → chC p0 p1 p2 p3 ups downs ≤ (ups + downs) * p0) ∧
    ((0 ≤ p0 ∧ p0 ≤ 50000) ∧ (0 ≤ p1 ∧ p1 ≤ 50000) ∧ (0 ≤ p2 ∧ p2 ≤ 50000) ∧ (0 ≤ p3 ∧ p3 ≤ 50000)) ∧ (0 ≤ ups ∧ ups ≤ 20) ∧ (0 ≤ downs ∧ downs ≤ 20) := by
  have h := hk
  simp only [chOk, Bool.and_eq_true] at h
  have hp := prOk_iff.1 h.1
  have hu := (show 0 ≤ ups ∧ ups ≤ 20 by simpa [inr] using h.2.1)
  have hd := (show 0 ≤ downs ∧ downs ≤ 20 by simpa [inr] using h.2.2)
  obtain ⟨e1, e2⟩ := chOk_yes hk
  obtain ⟨⟨a, b, d, t, w1, w2, w3, w4, w5, w6⟩, hc⟩ := ch_law (p0 := p0) (p1 := p1) (p2 := p2) (p3 := p3) hp.1.1 hp.2.1.1 hp.2.2.1.1 hp.2.2.2.1 hu hd
  rw [e1, e2]
  exact ⟨a, b, d, t, w1, w2, ⟨w3, w4, by omega, by omega⟩, hc, hp, hu, hd⟩
theorem sale_one {rows : List (List Int)} {day : Int} {p0 p1 p2 p3 : Int} (h : saleOk p0 p1 p2 p3 rows day = true) : saleOk 1 1 1 1 rows day = true ∧ saleV 1 1 1 1 rows day = sumR (saleF 1 1 1 1 day) rows ∧ rows.length ≤ 12 := by
  simp only [saleOk, Bool.and_eq_true] at h
  have h1 : saleOk 1 1 1 1 rows day = true := by simp only [saleOk, Bool.and_eq_true]; exact ⟨by decide, h.2⟩
  refine ⟨h1, by simp [saleV, h1], ?_⟩
  have := goodN h.2.1
  omega
theorem saleF_one (day : Int) (r : List Int) : saleF 1 1 1 1 day r = if fld r 2 = day then 1 else 0 := by
  unfold saleF prK
  split
  · split
    · rfl
    · split
      · rfl
      · split <;> rfl
  · rfl
theorem stillF_nn (r : List Int) : 0 ≤ stillF r := by unfold stillF; omega
theorem stillV_nn (rows : List (List Int)) : 0 ≤ stillV rows := by
  unfold stillV
  split
  · unfold sumR
    induction rows with
    | nil => simp
    | cons r rs ih =>
      have := stillF_nn r
      simp only [List.map_cons, List.sum_cons]
      rename_i hg
      have ih' : 0 ≤ (rs.map stillF).sum := by
        clear ih hg
        induction rs with
        | nil => simp
        | cons r rs ih => have := stillF_nn r; simp only [List.map_cons, List.sum_cons]; omega
      omega
  · omega
set_option maxRecDepth 100000 in
set_option maxHeartbeats 8000000 in
theorem law_FnPrices (A : Option Addr) (n c : Nat) (zs : List Int) (W : World) (h : Came .u8 W A n c zs) :
    Calls Try.prog 13 #[.slice A n c] W (Ret W (.bool true)) := by
  by_cases hbig : 65536 < n
  · go_enter Try.func13, Try.ntmps13
    go_wp2_with (go_at_call 45; refine (laws_rBig _ _ _ _).mono ?_; rintro e w' ⟨rfl, rfl⟩)
    go_ret
    exact ⟨rfl, Below.refl _ _⟩
  have hS : Src.ok ⟨A, n, c, zs⟩ W := came_src h (by omega)
  have HS := Lib.hid hS
  have B0 := Lib.hid (Below.refl W.heap.size W)
  clear h hS
  go_enter Try.func13, Try.ntmps13
  go_wp2_with (go_at_call 45; refine (laws_rBig _ _ _ _).mono ?_; rintro e w' ⟨rfl, rfl⟩)
  go_wp2_with fail
  refine (draw_CheapestFor _ _ (HS.out.below B0.out)).mono ?_
  rintro e w1 ⟨x0, x1, x2, x3, ups, downs, rfl, hb⟩
  have E1 := Lib.hid ((Below.thenn B0.out hb B0.out.size).alloc (Nat.le_trans B0.out.size hb.size) (.cells #[.int .i64 x0, .int .i64 x1, .int .i64 x2, .int .i64 x3] 39))
  have T1 := Lib.hid (Blk.new w1 39 #[.int .i64 x0, .int .i64 x1, .int .i64 x2, .int .i64 x3])
  clear hb B0
  have K1 := Lib.hid (impl_CheapestFor x0 x1 x2 x3 ups downs)
  have K2 := Lib.hid (spec_CheapestFor x0 x1 x2 x3 ups downs)
  have HPL := Lib.hid (fun (hk : chOk x0 x1 x2 x3 ups downs = true) => pr_law hk)
  have hvl := chV_len x0 x1 x2 x3 ups downs
  generalize chV x0 x1 x2 x3 ups downs = cv at *
  generalize chC x0 x1 x2 x3 ups downs = cc at *
  generalize chOk x0 x1 x2 x3 ups downs = ok at *
  go_wp2_with fail
  generalize w1.alloc (.cells #[.int .i64 x0, .int .i64 x1, .int .i64 x2, .int .i64 x3] 39) = v1 at *
  generalize w1.heap.size = q at *
  obtain ⟨c0, c1, c2, c3⟩ := T1.out.cells4
  go_wp2_with fail
  refine (K1.out v1).mono ?_
  rintro e w2 ⟨A2, c2', rfl, ho, hb⟩
  have O2 := Lib.hid ho
  have E2 := Lib.hid (Below.thenn E1.out hb E1.out.size)
  have T2 := Lib.hid (T1.out.below hb T1.out.lt)
  clear ho hb c0 c1 c2 c3 T1 E1
  obtain ⟨c0, c1, c2, c3⟩ := T2.out.cells4
  go_wp2_with fail
  refine (K2.out w2).mono ?_
  rintro e w3 ⟨A3, c3', rfl, ho, hb⟩
  have O3 := Lib.hid ho
  have P3 := Lib.hid (O2.out.below hb)
  have E3 := Lib.hid (Below.thenn E2.out hb E2.out.size)
  have T3 := Lib.hid (T2.out.below hb T2.out.lt)
  clear ho hb c0 c1 c2 c3 T2 E2 O2 K1 K2
  (go_wp2_with fail; refine (laws_rInts A2 A3 cv.length cv.length c2' c3' cv cv w3 P3.out.rd O3.out.rd (by omega) (by omega)).mono ?_; intro e w4 hq; obtain ⟨rfl, hb⟩ := hq.ret; have E4 := Lib.hid (Below.thenn E3.out hb E3.out.size); have Qw4 := Lib.hid hb; clear hb hq)
  have P4 := Lib.hid (P3.out.below Qw4.out)
  have T4 := Lib.hid (T3.out.below Qw4.out T3.out.lt)
  clear P3 O3 T3 E3 Qw4
  obtain ⟨c0, c1, c2, c3⟩ := T4.out.cells4
  have hq4 := T4.out.lt
  go_upto_if 66 with fail
  go_cut [] from 67 to 198 (fun wx => Hid (Below W.heap.size W wx))
  case first =>
    as_aux_lemma =>
      rcases ok with _ | _
      · go_wp2_with fail
        go_meet
        exact E4
      · obtain ⟨a, b, d, t, rfl, hC, ⟨ha, hb', hd, ht⟩, hcc, ⟨hp0, hp1, hp2, hp3⟩, hu, hdn⟩ := HPL.out rfl
        obtain ⟨bp, op, hAp, hpc⟩ := (Ow.rd P4.out).at_ (k := 0) (by simp)
        subst hAp
        have r0 := hpc 0 (by simp)
        have r1 := hpc 1 (by simp)
        have r2 := hpc 2 (by simp)
        have r3 := hpc 3 (by simp)
        simp only [List.getElem_cons_zero, List.getElem_cons_succ, Nat.add_zero] at r0 r1 r2 r3
        have hbl : bp < w4.heap.size := World.block_lt_of_cell? _ _ r0
        have m0 := mul_pr (a := a) (p := x0) (A := 20) ha hp0
        have m1 := mul_pr (a := b) (p := x1) (A := 20) hb' hp1
        have m2 := mul_pr (a := d) (p := x2) (A := 20) hd hp2
        have m3 := mul_pr (a := t) (p := x3) (A := 20) ht hp3
        have m4 := mul_pr (a := ups + downs) (p := x0) (A := 40) (by omega) hp0
        have y0 : IntKind.i64.wrap (a * x0) = a * x0 := IntWalk.i64_in _ (by omega)
        have y1 : IntKind.i64.wrap (b * x1) = b * x1 := IntWalk.i64_in _ (by omega)
        have y2 : IntKind.i64.wrap (d * x2) = d * x2 := IntWalk.i64_in _ (by omega)
        have y3 : IntKind.i64.wrap (t * x3) = t * x3 := IntWalk.i64_in _ (by omega)
        have y4 : IntKind.i64.wrap (a * x0 + b * x1) = a * x0 + b * x1 := IntWalk.i64_in _ (by omega)
        have y5 : IntKind.i64.wrap (a * x0 + b * x1 + d * x2) = a * x0 + b * x1 + d * x2 := IntWalk.i64_in _ (by omega)
        have y6 : IntKind.i64.wrap (a * x0 + b * x1 + d * x2 + t * x3) = cc := (IntWalk.i64_in _ (by omega)).trans hC
        have y7 : IntKind.i64.wrap (ups + downs) = ups + downs := IntWalk.i64_in _ (by omega)
        have y8 : IntKind.i64.wrap ((ups + downs) * x0) = (ups + downs) * x0 := IntWalk.i64_in _ (by omega)
        have EX := Lib.hid E4.out
        clear hpc HPL hvl hC m0 m1 m2 m3 m4 P4 E4
        generalize w4 = w at *
        have hB : Below w.heap.size w w := Below.refl _ _
        by_cases hs : ups + downs ≤ 20
        · have hs2 : decide (ups + downs ≤ 20) = true := decide_eq_true hs
          have hs3 : ¬ (ups + downs) * x0 < cc := by have := hcc hs; omega
          have hs4 : decide ((ups + downs) * x0 < cc) = false := decide_eq_false hs3
          clear hcc hs
          go_upto_region 9 with fail
          (refine wp_region_ext (by kernel_rfl) (by kernel_rfl) ?_; have hxe := ext_cells; (repeat (go_big_quiet_step (fail))); refine wpQuiet_nil ?_; intro w' hw'; obtain ⟨nx, hw''⟩ := hw'; have hbx := ext_out hw''; clear hw'' nx hxe; have hB : Below w.heap.size w w' := Below.thenn (by repeat (first | exact Below.refl _ _ | assumption | apply Below.drew | apply below_drewN | (refine Below.alloc ?_ (by first | omega | (simp; done) | (simp; omega)) _) | (refine Below.setCell ?_ (by first | omega | (simp; done) | (simp; omega)) _))) hbx (by first | omega | (simp; done) | (simp; omega)); have hz : w.heap.size ≤ w'.heap.size := hB.size; obtain ⟨hc, hf⟩ := bcell hbx; clear hbx)
          have EY := Lib.hid (Below.thenn EX.out hB EX.out.size)
          clear hc hf hz hB
          go_wp2_with fail
          go_meet
          exact EY
        · have hs2 : decide (ups + downs ≤ 20) = false := decide_eq_false hs
          clear hcc hs
          go_upto_region 9 with fail
          (refine wp_region_ext (by kernel_rfl) (by kernel_rfl) ?_; have hxe := ext_cells; (repeat (go_big_quiet_step (fail))); refine wpQuiet_nil ?_; intro w' hw'; obtain ⟨nx, hw''⟩ := hw'; have hbx := ext_out hw''; clear hw'' nx hxe; have hB : Below w.heap.size w w' := Below.thenn (by repeat (first | exact Below.refl _ _ | assumption | apply Below.drew | apply below_drewN | (refine Below.alloc ?_ (by first | omega | (simp; done) | (simp; omega)) _) | (refine Below.setCell ?_ (by first | omega | (simp; done) | (simp; omega)) _))) hbx (by first | omega | (simp; done) | (simp; omega)); have hz : w.heap.size ≤ w'.heap.size := hB.size; obtain ⟨hc, hf⟩ := bcell hbx; clear hbx)
          have EY := Lib.hid (Below.thenn EX.out hB EX.out.size)
          clear hc hf hz hB
          go_wp2_with fail
          go_meet
          exact EY
  case rest =>
    as_aux_lemma =>
      have C0 : Hid (Below W.heap.size W wc) := hcut
      clear hcut T4 P4 E4 HPL c0 c1 c2 c3 hq4 hvl
      go_wp2_with fail
      refine (draw_SalesOn _ _ (HS.out.below C0.out)).mono ?_
      rintro e w1 ⟨x0, x1, x2, x3, A2, c2, rows, day, rfl, hl, ho, hb⟩
      have E1 := Lib.hid ((Below.thenn C0.out hb C0.out.size).alloc (Nat.le_trans C0.out.size hb.size) (.cells #[.int .i64 x0, .int .i64 x1, .int .i64 x2, .int .i64 x3] 39))
      have T1 := Lib.hid (Blk.new w1 39 #[.int .i64 x0, .int .i64 x1, .int .i64 x2, .int .i64 x3])
      have R1 := Lib.hid ((ho.alloc (.cells #[.int .i64 x0, .int .i64 x1, .int .i64 x2, .int .i64 x3] 39)).rdR)
      clear hb C0 ho
      go_wp2_with fail
      generalize w1.alloc (.cells #[.int .i64 x0, .int .i64 x1, .int .i64 x2, .int .i64 x3] 39) = v1 at *
      generalize w1.heap.size = q2 at *
      obtain ⟨c0, c1, c2', c3⟩ := T1.out.cells4
      go_wp2_with fail
      refine (impl_SalesOn x0 x1 x2 x3 _ _ _ rows day v1 R1.out (by omega)).mono ?_
      rintro e w2 ⟨rfl, hb⟩
      have E2 := Lib.hid (Below.thenn E1.out hb E1.out.size)
      have T2 := Lib.hid (T1.out.below hb T1.out.lt)
      have R2 := Lib.hid (R1.out.below hb)
      clear hb c0 c1 c2' c3 T1 R1 E1
      obtain ⟨c0, c1, c2', c3⟩ := T2.out.cells4
      go_wp2_with fail
      refine (spec_SalesOn x0 x1 x2 x3 _ _ _ rows day w2 R2.out (by omega)).mono ?_
      rintro e w3 ⟨rfl, hb⟩
      have E3 := Lib.hid (Below.thenn E2.out hb E2.out.size)
      have R3 := Lib.hid (R2.out.below hb)
      clear hb c0 c1 c2' c3 T2 R2 E2
      have HSO := Lib.hid (fun (hk : saleOk x0 x1 x2 x3 rows day = true) => sale_one hk)
      generalize saleV x0 x1 x2 x3 rows day = sv at *
      generalize saleOk x0 x1 x2 x3 rows day = so at *
      go_upto_if 145 with fail
      go_cut [19, 20, 21, 22] from 146 to 198 (fun q19 q20 q21 q22 wx => Hid (Below W.heap.size W wx))
      case first =>
        as_aux_lemma =>
          rcases so with _ | _
          · go_wp2_with fail
            go_meet
            exact E3
          · obtain ⟨s1, s2, s3⟩ := HSO.out rfl
            have cs := impl_SalesOn 1 1 1 1 A2 rows.length c2 rows day w3 R3.out (by omega)
            rw [s1, s2] at cs
            have CS := Lib.hid cs
            have HSM : Hid (sumR (saleF 1 1 1 1 day) rows = sumR (saleF 1 1 1 1 day) (rows.take rows.length)) := Lib.hid (by rw [List.take_of_length_le (Nat.le_refl _)])
            clear cs HSO s1 s2
            generalize sumR (saleF 1 1 1 1 day) rows = N at *
            go_wp2_with fail
            refine CS.out.mono ?_
            rintro e w5 ⟨rfl, hb⟩
            have E5 := Lib.hid (Below.thenn E3.out hb E3.out.size)
            have R5 := Lib.hid (R3.out.below hb)
            clear hb
            go_wp2_with fail
            go_loopg [21, 22] rows.length (fun gg s i wr => ∃ (k : Nat) (z : Int), k ≤ rows.length ∧ rows.length ≤ k + gg ∧ i = .int .i64 k ∧ s = .int .i64 z ∧ 0 ≤ z ∧ z ≤ k ∧ w5 = wr ∧ Hid (z = sumR (saleF 1 1 1 1 day) (rows.take k)))
            case atStart => exact ⟨0, 0, by omega, by omega, rfl, rfl, by omega, by omega, rfl, (show (0 : Int) = sumR _ _ by rw [sumR_zero])⟩
            case round =>
              obtain ⟨k, z, hk1, hk2, rfl, rfl, hz0, hz1, rfl, HZ⟩ := hrel
              by_cases hlt : k < rows.length
              · obtain ⟨b, off, y0, y1, y2, y3, y4, rfl, hr, hblt, d0, d1, d2, d3, d4⟩ := R5.out.row5 hlt
                have HN := Lib.hid (sumR_next (f := saleF 1 1 1 1 day) hr)
                have HF := Lib.hid (saleF_one day [y0, y1, y2, y3, y4])
                clear hr
                by_cases hd : y2 = day
                · have hd2 : (y2 == day) = true := by simpa using hd
                  have HV : Hid (z + 1 = sumR (saleF 1 1 1 1 day) (rows.take (k + 1))) := Lib.hid (by rw [HN.out, HF.out, ← HZ.out]; simp [fld, hd])
                  have u1 : IntKind.i64.wrap (z + 1) = z + 1 := IntWalk.i64_in _ (by omega)
                  clear hd
                  go_wp2_with fail
                  go_roundg (rows.length - (k + 1))
                  case measure => omega
                  case rel => exact ⟨k + 1, z + 1, by omega, by omega, by go_num, rfl, by omega, by omega, rfl, HV.out⟩
                · have hd2 : (y2 == day) = false := by simpa using hd
                  have HV : Hid (z = sumR (saleF 1 1 1 1 day) (rows.take (k + 1))) := Lib.hid (by rw [HN.out, HF.out, ← HZ.out]; simp [fld, hd])
                  clear hd
                  go_wp2_with fail
                  go_roundg (rows.length - (k + 1))
                  case measure => omega
                  case rel => exact ⟨k + 1, z, by omega, by omega, by go_num, rfl, by omega, by omega, rfl, HV.out⟩
              · obtain hkn : k = rows.length := by omega
                have hzN : z = N := by rw [HZ.out, hkn, HSM.out]
                have h3 : ¬ (k : Int) < (rows.length : Int) := by omega
                subst hzN
                clear hkn
                go_wp2_with fail
                go_meet
                exact E5
      case rest =>
        as_aux_lemma =>
          have C0 : Hid (Below W.heap.size W wc) := hcut
          clear hcut R3 E3 HSO
          go_wp2_with fail
          refine (draw_StillUp _ _ (HS.out.below C0.out)).mono ?_
          rintro e w1 ⟨A3, c3, rows3, rfl, hl3, ho, hb⟩
          have E1 := Lib.hid (Below.thenn C0.out hb C0.out.size)
          have R1 := Lib.hid ho.rdR
          clear hb C0 ho
          go_wp2_with fail
          refine (impl_StillUp _ _ _ rows3 w1 R1.out (by omega)).mono ?_
          rintro e w2 ⟨rfl, hb⟩
          have E2 := Lib.hid (Below.thenn E1.out hb E1.out.size)
          have R2 := Lib.hid (R1.out.below hb)
          clear hb
          go_wp2_with fail
          refine (spec_StillUp _ _ _ rows3 w2 R2.out (by omega)).mono ?_
          rintro e w3 ⟨rfl, hb⟩
          have E3 := Lib.hid (Below.thenn E2.out hb E2.out.size)
          clear hb E1 E2 R1 R2
          have hnn := stillV_nn rows3
          generalize stillV rows3 = sv3 at *
          generalize good rows3 = gd3 at *
          have hd9 : decide (0 ≤ sv3) = true := decide_eq_true hnn
          go_wp2_with fail
          go_ret
          exact ⟨ret_bool (by simp [hnn]), E3.out⟩
end Go.Proofs.Ytobcgcdjoogfnaa
