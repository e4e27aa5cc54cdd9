/- The exact laws of the brakes: walks. -/
import Derived.Test.YthijklidjdhkdaaBrkV
import Derived.Test.YthijklidjdhkdaaBrkT
import Derived.Test.YthijklidjdhkdaaDrvL
import Derived.Deep.RegionHeld3
import Derived.Deep.DeepCutAuto
namespace Go.Proofs.Ythijklidjdhkdaa
open Go.RowKit
set_option linter.unusedVariables false
set_option linter.unusedSimpArgs false

set_option maxRecDepth 100000 in
set_option maxHeartbeats 4000000 in
theorem law_FnExactFewestBrakes (aD_0 : Int) (aD_1 : Int) (aD_2A : Option Addr) (aD_2n aD_2c : Nat) (aD_2 : List (List Int)) (aSpeed : Int) (aWay : Int) (W : World) (haD_2 : CameR 2 W aD_2A aD_2n aD_2c aD_2) :
    Calls Try.prog 11 #[.agg #[.int .i64 aD_0, .int .i64 aD_1, .slice aD_2A aD_2n aD_2c], .int .i64 aSpeed, .int .i64 aWay] W (Ret W (.bool true)) := by
  obtain ⟨hraD_2, hncaD_2, hcmaD_2, hwfaD_2, hnilaD_2⟩ := haD_2
  have hlaD_2 := hraD_2.2.2
  simp only [maxLen] at hcmaD_2
  go_enter Try.func11, Try.ntmps11
  go_wp2_with fail
  have hWV : Below W.heap.size W (W.alloc (.cells #[.int .i64 aD_0, .int .i64 aD_1, .slice aD_2A aD_2n aD_2c] 24)) := (Below.refl _ _).alloc (Nat.le_refl _) _
  have hV0 : W.heap.size < (W.alloc (.cells #[.int .i64 aD_0, .int .i64 aD_1, .slice aD_2A aD_2n aD_2c] 24)).heap.size := by simp
  have hv0 : (W.alloc (.cells #[.int .i64 aD_0, .int .i64 aD_1, .slice aD_2A aD_2n aD_2c] 24)).cell? ⟨W.heap.size, 0, none⟩ = some (.int .i64 aD_0) := by rw [cell_of_row _ _ _ _ _ _ (heap_alloc_new W _)]; rfl
  have hv1 : (W.alloc (.cells #[.int .i64 aD_0, .int .i64 aD_1, .slice aD_2A aD_2n aD_2c] 24)).cell? ⟨W.heap.size, 1, none⟩ = some (.int .i64 aD_1) := by rw [cell_of_row _ _ _ _ _ _ (heap_alloc_new W _)]; rfl
  have hv2 : (W.alloc (.cells #[.int .i64 aD_0, .int .i64 aD_1, .slice aD_2A aD_2n aD_2c] 24)).cell? ⟨W.heap.size, 2, none⟩ = some (.slice aD_2A aD_2n aD_2c) := by rw [cell_of_row _ _ _ _ _ _ (heap_alloc_new W _)]; rfl
  generalize W.alloc (.cells #[.int .i64 aD_0, .int .i64 aD_1, .slice aD_2A aD_2n aD_2c] 24) = V at hWV hV0 hv0 hv1 hv2 ⊢
  replace hraD_2 := hraD_2.below hWV
  have hB : Below V.heap.size V V := Below.refl _ _
  (try clear hc hf)
  (try clear hVl)
  have hVl := Nat.lt_of_lt_of_le hV0 hB.size
  obtain ⟨hc, hf⟩ := bcell hB
  by_cases hbig0 : 1048576 < (aD_2n : Int)
  · refine (laws_szDrive_big _ _ _ _ _ (1048576) _ (by omega) (by omega) (by omega) (by omega)).mono ?_
    rintro e wz ⟨rfl, hb⟩
    replace hB := Below.thenn hB hb hB.size
    go_wp2_with fail
    go_ret
    exact ⟨rfl, Below.thenn hWV hB hWV.size⟩
  refine (laws_szDrive _ _ _ _ _ (1048576) _ (by omega) (by omega)).mono ?_
  rintro e w1 ⟨rfl, hb⟩
  replace hB := Below.thenn hB hb hB.size
  clear hb
  (try clear hc hf)
  (try clear hVl)
  have hVl := Nat.lt_of_lt_of_le hV0 hB.size
  obtain ⟨hc, hf⟩ := bcell hB
  have hleft0 : ¬ (1048576 - (aD_2n : Int) < 0) := by omega
  have hsaD_2 : aD_2.length ≤ 1048576 := by omega
  obtain rfl : aD_2.length = aD_2n := hlaD_2
  clear hwfaD_2
  have hz1 : (fbV aD_0 aD_1 aD_2 aSpeed aWay).length ≤ 1048576 := fbV_len _ _ _ _ _
  go_wp2_with fail
  refine (laws_toDrive _ _ _ _ _ aD_2 _ (hraD_2.below hB) (by omega)).mono ?_
  have hW1 : V.heap.size ≤ w1.heap.size := hB.size
  rintro e w2 ⟨A1, c1, rfl, ho1, hb⟩
  replace hB := Below.thenn hB hb hB.size
  clear hb
  (try clear hc hf)
  (try clear hVl)
  have hVl := Nat.lt_of_lt_of_le hV0 hB.size
  obtain ⟨hc, hf⟩ := bcell hB
  go_wp2_with fail
  refine (spec_FewestBrakes aD_0 aD_1 _ _ _ aD_2 aSpeed aWay _ ho1.rdR (by omega)).mono ?_
  have hW2 : V.heap.size ≤ w2.heap.size := hB.size
  have hq1_2 := Lib.hid (OwR.block_lt ho1)
  rintro e w3 ⟨A2, c2, rfl, ho2, hb⟩
  replace hB := Below.thenn hB hb hB.size
  replace ho1 := ho1.below hb
  clear hb
  (try clear hc hf)
  (try clear hVl)
  have hVl := Nat.lt_of_lt_of_le hV0 hB.size
  obtain ⟨hc, hf⟩ := bcell hB
  go_wp2_with fail
  refine (laws_toDrive _ _ _ _ _ aD_2 _ (hraD_2.below hB) (by omega)).mono ?_
  have hW3 : V.heap.size ≤ w3.heap.size := hB.size
  have hq1_3 := Lib.hid (OwR.block_lt ho1)
  have hq2_3 := Lib.hid (Ow.block_lt ho2)
  rintro e w4 ⟨A3, c3, rfl, ho3, hb⟩
  replace hB := Below.thenn hB hb hB.size
  replace ho1 := ho1.below hb
  replace ho2 := ho2.below hb
  clear hb
  (try clear hc hf)
  (try clear hVl)
  have hVl := Nat.lt_of_lt_of_le hV0 hB.size
  obtain ⟨hc, hf⟩ := bcell hB
  go_wp2_with fail
  have hW4 : V.heap.size ≤ w4.heap.size := hB.size
  have hq1_4 := Lib.hid (OwR.block_lt ho1)
  have hq2_4 := Lib.hid (Ow.block_lt ho2)
  have hq3_4 := Lib.hid (OwR.block_lt ho3)
  have hb : Below w4.heap.size w4 (w4.alloc (.cells #[.int .i64 (aD_0), .int .i64 (aD_1), .slice A3 (aD_2).length c3] 29)) := (Below.refl _ _).alloc (Nat.le_refl _) _
  have ho4 : OwB (w4.alloc (.cells #[.int .i64 (aD_0), .int .i64 (aD_1), .slice A3 (aD_2).length c3] 29)) w4.heap.size w4.heap.size 29 #[.int .i64 (aD_0), .int .i64 (aD_1), .slice A3 (aD_2).length c3] := OwB.new _ _ _
  generalize w4.alloc (.cells #[.int .i64 (aD_0), .int .i64 (aD_1), .slice A3 (aD_2).length c3] 29) = w5 at hb ho4 ⊢
  replace hB := Below.thenn hB hb hB.size
  replace ho1 := ho1.below hb
  replace ho2 := ho2.below hb
  replace ho3 := ho3.below hb
  clear hb
  (try clear hc hf)
  (try clear hVl)
  have hVl := Nat.lt_of_lt_of_le hV0 hB.size
  obtain ⟨hc, hf⟩ := bcell hB
  obtain ⟨hx4_0, hx4_1, hx4_2⟩ := ho4.cells3
  have hxl4 := ho4.2.lt
  go_wp2_with fail
  clear hxl4 hx4_0 hx4_1 hx4_2
  refine (impl_FewestBrakes aD_0 aD_1 _ _ _ aD_2 aSpeed aWay _ ho3.rdR (by omega)).mono ?_
  have hW5 : V.heap.size ≤ w5.heap.size := hB.size
  have hq1_5 := Lib.hid (OwR.block_lt ho1)
  have hq2_5 := Lib.hid (Ow.block_lt ho2)
  have hq3_5 := Lib.hid (OwR.block_lt ho3)
  have hq4_5 := Lib.hid (OwB.block_lt ho4)
  rintro e w6 ⟨A5, c5, rfl, ho5, hb⟩
  replace hB := Below.thenn hB hb hB.size
  replace ho1 := ho1.below hb
  replace ho2 := ho2.below hb
  replace ho3 := ho3.below hb
  replace ho4 := ho4.below hb
  clear hb
  (try clear hc hf)
  (try clear hVl)
  have hVl := Nat.lt_of_lt_of_le hV0 hB.size
  obtain ⟨hc, hf⟩ := bcell hB
  obtain ⟨hx4_0, hx4_1, hx4_2⟩ := ho4.cells3
  have hxl4 := ho4.2.lt
  go_wp2_with fail
  clear hxl4 hx4_0 hx4_1 hx4_2
  refine (laws_eqIntS _ _ _ _ _ _ _ _ _ ho5.rd ho2.rd (by first | omega | (simp; omega) | (simp [iota_len]; omega)) (by first | omega | (simp; omega) | (simp [iota_len]; omega))).mono ?_
  intro e w7 hq
  obtain ⟨rfl, hb⟩ := hq.ret
  clear hq
  replace hB := Below.thenn hB hb hB.size
  replace ho1 := ho1.below hb
  replace ho2 := ho2.below hb
  replace ho3 := ho3.below hb
  replace ho4 := ho4.below hb
  replace ho5 := ho5.below hb
  clear hb
  (try clear hc hf)
  (try clear hVl)
  have hVl := Nat.lt_of_lt_of_le hV0 hB.size
  obtain ⟨hc, hf⟩ := bcell hB
  obtain ⟨hx4_0, hx4_1, hx4_2⟩ := ho4.cells3
  have hxl4 := ho4.2.lt
  go_wp2_with fail
  clear hxl4 hx4_0 hx4_1 hx4_2
  go_cut [53] (fun q wx => q = .bool false ∧ Below w7.heap.size w7 wx)
  case first =>
    obtain ⟨hx4_0, hx4_1, hx4_2⟩ := ho4.cells3
    have hgx4 := ho4.2.lt
    have hax0 := (hc W.heap.size 0 hV0).trans hv0
    have hax1 := (hc W.heap.size 1 hV0).trans hv1
    have hax2 := (hc W.heap.size 2 hV0).trans hv2
    have hgw : W.heap.size < w7.heap.size := Nat.lt_of_lt_of_le hV0 hB.size
    go_region_held3 (fun w' => w'.cell? ⟨w4.heap.size, 0, none⟩ = some (.int .i64 (aD_0)) ∧ w'.cell? ⟨w4.heap.size, 1, none⟩ = some (.int .i64 (aD_1)) ∧ w'.cell? ⟨w4.heap.size, 2, none⟩ = some (.slice A3 (aD_2).length c3) ∧ w'.cell? ⟨W.heap.size, 0, none⟩ = some (.int .i64 aD_0) ∧ w'.cell? ⟨W.heap.size, 1, none⟩ = some (.int .i64 aD_1) ∧ w'.cell? ⟨W.heap.size, 2, none⟩ = some (.slice aD_2A aD_2.length aD_2c)) (first | exact ⟨hx4_0, hx4_1, hx4_2, hax0, hax1, hax2⟩ | exact ⟨(hBz.cell (p := ⟨_, 0, none⟩) hgx4).trans hx4_0, (hBz.cell (p := ⟨_, 1, none⟩) hgx4).trans hx4_1, (hBz.cell (p := ⟨_, 2, none⟩) hgx4).trans hx4_2, (hBz.cell (p := ⟨_, 0, none⟩) hgw).trans hax0, (hBz.cell (p := ⟨_, 1, none⟩) hgw).trans hax1, (hBz.cell (p := ⟨_, 2, none⟩) hgw).trans hax2⟩ | exact ⟨(hBq.cell (p := ⟨_, 0, none⟩) hgx4).trans hx4_0, (hBq.cell (p := ⟨_, 1, none⟩) hgx4).trans hx4_1, (hBq.cell (p := ⟨_, 2, none⟩) hgx4).trans hx4_2, (hBq.cell (p := ⟨_, 0, none⟩) hgw).trans hax0, (hBq.cell (p := ⟨_, 1, none⟩) hgw).trans hax1, (hBq.cell (p := ⟨_, 2, none⟩) hgw).trans hax2⟩)
      (first | (go_at_call 16; refine (laws_toDrive _ _ _ _ _ aD_2 _ (hraD_2.below (by first | exact hB | exact Below.drew hB)) (by omega)).mono ?_; rintro e wq ⟨Aq, cq, rfl, hoq, hbq⟩; have hBq : Below w7.heap.size w7 wq := Below.thenn (by first | exact Below.refl _ _ | exact Below.drew (Below.refl _ _)) hbq (by first | omega | (simp; done) | (simp; omega)); have hzq : w7.heap.size ≤ wq.heap.size := hBq.size; clear hbq) | (go_at_call 18; refine (laws_eqDrive _ _ _ _ _ _ _ _ (aD_2) _ (ho3.below hBq).rdR hoq.rdR (by first | omega | (simp; omega) | (simp [iota_len]; omega))).mono ?_; rintro e wz ⟨rfl, hbz⟩; have hBz : Below w7.heap.size w7 wz := Below.thenn hBq hbz hzq; clear hbz))
    all_goals go_wp2_with fail
    all_goals go_meet
    all_goals exact ⟨rfl, hBz⟩
  case' rest => (obtain ⟨rfl, hb⟩ := hcut; obtain ⟨w8, rfl⟩ : ∃ x, x = wc := ⟨_, rfl⟩)
  replace hB := Below.thenn hB hb hB.size
  replace ho1 := ho1.below hb
  replace ho2 := ho2.below hb
  replace ho3 := ho3.below hb
  replace ho4 := ho4.below hb
  replace ho5 := ho5.below hb
  clear hb
  (try clear hc hf)
  (try clear hVl)
  have hVl := Nat.lt_of_lt_of_le hV0 hB.size
  obtain ⟨hc, hf⟩ := bcell hB
  obtain ⟨hx4_0, hx4_1, hx4_2⟩ := ho4.cells3
  have hxl4 := ho4.2.lt
  go_wp2_with fail
  clear hxl4 hx4_0 hx4_1 hx4_2
  refine (laws_markDrive _ _ _ _ _ _ _ (1) _ ho3.1 (by omega) (by first | omega | (simp; omega) | (simp [iota_len]; omega)) (by first | omega | (simp; omega) | (simp [iota_len]; omega))).mono ?_
  rintro e w9 ⟨rfl, ho3n, hg⟩
  replace hB := below_ownF hB ho3.1 hg hW3 hB.size
  replace ho1 := OwR.other2 ho1 hg hq1_3.out (OwR.block_ge ho3)
  replace ho2 := Ow.other2 ho2 hg hq2_3.out (OwR.block_ge ho3)
  replace ho4 := OwB.other ho4 hg hq3_4.out
  replace ho5 := Ow.other ho5 hg hq3_5.out
  (try clear hc hf)
  (try clear hVl)
  have hVl := Nat.lt_of_lt_of_le hV0 hB.size
  obtain ⟨hc, hf⟩ := bcell hB
  replace ho3 := ho3n
  clear hg
  obtain ⟨hx4_0, hx4_1, hx4_2⟩ := ho4.cells3
  have hxl4 := ho4.2.lt
  go_wp2_with fail
  clear hxl4 hx4_0 hx4_1 hx4_2
  refine (laws_eqIntS _ _ _ _ _ _ _ _ _ ho5.rd ho2.rd (by first | omega | (simp; omega) | (simp [iota_len]; omega)) (by first | omega | (simp; omega) | (simp [iota_len]; omega))).mono ?_
  intro e w10 hq
  obtain ⟨rfl, hb⟩ := hq.ret
  clear hq
  replace hB := Below.thenn hB hb hB.size
  replace ho1 := ho1.below hb
  replace ho2 := ho2.below hb
  replace ho3 := ho3.below hb
  replace ho4 := ho4.below hb
  replace ho5 := ho5.below hb
  clear hb
  (try clear hc hf)
  (try clear hVl)
  have hVl := Nat.lt_of_lt_of_le hV0 hB.size
  obtain ⟨hc, hf⟩ := bcell hB
  obtain ⟨hx4_0, hx4_1, hx4_2⟩ := ho4.cells3
  have hxl4 := ho4.2.lt
  go_wp2_with fail
  clear hxl4 hx4_0 hx4_1 hx4_2
  refine (laws_markIntS _ _ _ _ _ (1) _ ho5 (by omega) (by first | omega | (simp; omega) | (simp [iota_len]; omega)) (by first | omega | (simp; omega) | (simp [iota_len]; omega))).mono ?_
  rintro e w11 ⟨rfl, ho5n, hg⟩
  replace hB := below_own hB ho5 hg hW5 hB.size
  replace ho1 := OwR.other2 ho1 hg hq1_5.out (Ow.block_ge ho5)
  replace ho2 := Ow.other2 ho2 hg hq2_5.out (Ow.block_ge ho5)
  replace ho3 := OwF.other2 ho3 hg hq3_5.out (Ow.block_ge ho5)
  replace ho4 := OwB.other2 ho4 hg hq4_5.out (Ow.block_ge ho5)
  (try clear hc hf)
  (try clear hVl)
  have hVl := Nat.lt_of_lt_of_le hV0 hB.size
  obtain ⟨hc, hf⟩ := bcell hB
  replace ho5 := ho5n
  clear hg
  obtain ⟨hx4_0, hx4_1, hx4_2⟩ := ho4.cells3
  have hxl4 := ho4.2.lt
  go_wp2_with fail
  clear hxl4 hx4_0 hx4_1 hx4_2
  refine (laws_heldIntS _ _ _ (1) _ ho5.rd (by omega) (by first | omega | (simp; omega) | (simp [iota_len]; omega)) (by first | omega | (simp; omega) | (simp [iota_len]; omega))).mono ?_
  rintro e _ ⟨rfl, rfl⟩
  obtain ⟨hx4_0, hx4_1, hx4_2⟩ := ho4.cells3
  have hxl4 := ho4.2.lt
  go_wp2_with fail
  clear hxl4 hx4_0 hx4_1 hx4_2
  refine (laws_toDrive _ _ _ _ _ aD_2 _ (hraD_2.below hB) (by omega)).mono ?_
  have hW6 : V.heap.size ≤ w11.heap.size := hB.size
  have hq1_6 := Lib.hid (OwR.block_lt ho1)
  have hq2_6 := Lib.hid (Ow.block_lt ho2)
  have hq3_6 := Lib.hid (OwF.block_lt ho3)
  have hq4_6 := Lib.hid (OwB.block_lt ho4)
  have hq5_6 := Lib.hid (Ow.block_lt ho5)
  rintro e w12 ⟨A6, c6, rfl, ho6, hb⟩
  replace hB := Below.thenn hB hb hB.size
  replace ho1 := ho1.below hb
  replace ho2 := ho2.below hb
  replace ho3 := ho3.below hb
  replace ho4 := ho4.below hb
  replace ho5 := ho5.below hb
  clear hb
  (try clear hc hf)
  (try clear hVl)
  have hVl := Nat.lt_of_lt_of_le hV0 hB.size
  obtain ⟨hc, hf⟩ := bcell hB
  obtain ⟨hx4_0, hx4_1, hx4_2⟩ := ho4.cells3
  have hxl4 := ho4.2.lt
  go_wp2_with fail
  clear hxl4 hx4_0 hx4_1 hx4_2
  refine (impl_FewestBrakes aD_0 aD_1 _ _ _ aD_2 aSpeed aWay _ ho6.rdR (by omega)).mono ?_
  have hW7 : V.heap.size ≤ w12.heap.size := hB.size
  have hq1_7 := Lib.hid (OwR.block_lt ho1)
  have hq2_7 := Lib.hid (Ow.block_lt ho2)
  have hq3_7 := Lib.hid (OwF.block_lt ho3)
  have hq4_7 := Lib.hid (OwB.block_lt ho4)
  have hq5_7 := Lib.hid (Ow.block_lt ho5)
  have hq6_7 := Lib.hid (OwR.block_lt ho6)
  rintro e w13 ⟨A7, c7, rfl, ho7, hb⟩
  replace hB := Below.thenn hB hb hB.size
  replace ho1 := ho1.below hb
  replace ho2 := ho2.below hb
  replace ho3 := ho3.below hb
  replace ho4 := ho4.below hb
  replace ho5 := ho5.below hb
  replace ho6 := ho6.below hb
  clear hb
  (try clear hc hf)
  (try clear hVl)
  have hVl := Nat.lt_of_lt_of_le hV0 hB.size
  obtain ⟨hc, hf⟩ := bcell hB
  obtain ⟨hx4_0, hx4_1, hx4_2⟩ := ho4.cells3
  have hxl4 := ho4.2.lt
  go_wp2_with fail
  clear hxl4 hx4_0 hx4_1 hx4_2
  refine (laws_eqIntS _ _ _ _ _ _ _ _ _ ho7.rd ho2.rd (by first | omega | (simp; omega) | (simp [iota_len]; omega)) (by first | omega | (simp; omega) | (simp [iota_len]; omega))).mono ?_
  intro e w14 hq
  obtain ⟨rfl, hb⟩ := hq.ret
  clear hq
  replace hB := Below.thenn hB hb hB.size
  replace ho1 := ho1.below hb
  replace ho2 := ho2.below hb
  replace ho3 := ho3.below hb
  replace ho4 := ho4.below hb
  replace ho5 := ho5.below hb
  replace ho6 := ho6.below hb
  replace ho7 := ho7.below hb
  clear hb
  (try clear hc hf)
  (try clear hVl)
  have hVl := Nat.lt_of_lt_of_le hV0 hB.size
  obtain ⟨hc, hf⟩ := bcell hB
  obtain ⟨hx4_0, hx4_1, hx4_2⟩ := ho4.cells3
  have hxl4 := ho4.2.lt
  go_wp2_with fail
  clear hxl4 hx4_0 hx4_1 hx4_2
  refine (laws_heldIntS _ _ _ (1) _ ho5.rd (by omega) (by first | omega | (simp; omega) | (simp [iota_len]; omega)) (by first | omega | (simp; omega) | (simp [iota_len]; omega))).mono ?_
  rintro e _ ⟨rfl, rfl⟩
  obtain ⟨hx4_0, hx4_1, hx4_2⟩ := ho4.cells3
  have hxl4 := ho4.2.lt
  go_wp2_with fail
  clear hxl4 hx4_0 hx4_1 hx4_2
  go_ret
  exact ⟨rfl, Below.thenn hWV hB hWV.size⟩

end Go.Proofs.Ythijklidjdhkdaa
