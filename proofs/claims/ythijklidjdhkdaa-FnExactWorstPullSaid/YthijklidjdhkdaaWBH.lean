/- The exact laws of the brakes: walks. -/
import Derived.Test.YthijklidjdhkdaaBrkK
import Derived.Test.YthijklidjdhkdaaDrvL
import Derived.Deep.RegionHeld3
import Derived.Deep.DeepCutAuto
namespace Go.Proofs.Ythijklidjdhkdaa
open Go.RowKit
set_option linter.unusedVariables false
set_option linter.unusedSimpArgs false

set_option maxRecDepth 100000 in
set_option maxHeartbeats 4000000 in
theorem law_FnExactWorstPull (aD_0 : Int) (aD_1 : Int) (aD_2A : Option Addr) (aD_2n aD_2c : Nat) (aD_2 : List (List Int)) (aSpeed : Int) (aLow : Int) (aHigh : Int) (W : World) (haD_2 : CameR 2 W aD_2A aD_2n aD_2c aD_2) :
    Calls Try.prog 8 #[.agg #[.int .i64 aD_0, .int .i64 aD_1, .slice aD_2A aD_2n aD_2c], .int .i64 aSpeed, .int .i64 aLow, .int .i64 aHigh] W (Ret W (.bool true)) := by
  obtain ⟨hraD_2, hncaD_2, hcmaD_2, hwfaD_2, hnilaD_2⟩ := haD_2
  have hlaD_2 := hraD_2.2.2
  simp only [maxLen] at hcmaD_2
  go_enter Try.func8, Try.ntmps8
  go_wp2_with fail
  have hWV : Below W.heap.size W (W.alloc (.cells #[.int .i64 aD_0, .int .i64 aD_1, .slice aD_2A aD_2n aD_2c] 24)) := (Below.refl _ _).alloc (Nat.le_refl _) _
  have hV0 : W.heap.size < (W.alloc (.cells #[.int .i64 aD_0, .int .i64 aD_1, .slice aD_2A aD_2n aD_2c] 24)).heap.size := by simp
  have hv0 : (W.alloc (.cells #[.int .i64 aD_0, .int .i64 aD_1, .slice aD_2A aD_2n aD_2c] 24)).cell? ⟨W.heap.size, 0, none⟩ = some (.int .i64 aD_0) := by rw [cell_of_row _ _ _ _ _ _ (heap_alloc_new W _)]; rfl
  have hv1 : (W.alloc (.cells #[.int .i64 aD_0, .int .i64 aD_1, .slice aD_2A aD_2n aD_2c] 24)).cell? ⟨W.heap.size, 1, none⟩ = some (.int .i64 aD_1) := by rw [cell_of_row _ _ _ _ _ _ (heap_alloc_new W _)]; rfl
  have hv2 : (W.alloc (.cells #[.int .i64 aD_0, .int .i64 aD_1, .slice aD_2A aD_2n aD_2c] 24)).cell? ⟨W.heap.size, 2, none⟩ = some (.slice aD_2A aD_2n aD_2c) := by rw [cell_of_row _ _ _ _ _ _ (heap_alloc_new W _)]; rfl
  generalize W.alloc (.cells #[.int .i64 aD_0, .int .i64 aD_1, .slice aD_2A aD_2n aD_2c] 24) = V at hWV hV0 hv0 hv1 hv2 ⊢
  replace hraD_2 := hraD_2.below hWV
  have hB : Below V.heap.size V V := Below.refl _ _
  (try clear hc hf)
  obtain ⟨hc, hf⟩ := bcell hB
  by_cases hbig0 : 1048576 < (aD_2n : Int)
  · refine (laws_szDrive_big _ _ _ _ _ (1048576) _ (by omega) (by omega) (by omega) (by omega)).mono ?_
    rintro e wz ⟨rfl, hb⟩
    replace hB := Below.thenn hB hb hB.size
    go_wp2_with fail
    go_ret
    exact ⟨rfl, Below.thenn hWV hB hWV.size⟩
  refine (laws_szDrive _ _ _ _ _ (1048576) _ (by omega) (by omega)).mono ?_
  rintro e w1 ⟨rfl, hb⟩
  replace hB := Below.thenn hB hb hB.size
  clear hb
  (try clear hc hf)
  obtain ⟨hc, hf⟩ := bcell hB
  have hleft0 : ¬ (1048576 - (aD_2n : Int) < 0) := by omega
  have hsaD_2 : aD_2.length ≤ 1048576 := by omega
  obtain rfl : aD_2.length = aD_2n := hlaD_2
  clear hwfaD_2
  go_wp2_with fail
  refine (laws_toDrive _ _ _ _ _ aD_2 _ (hraD_2.below hB) (by omega)).mono ?_
  rintro e w2 ⟨A1, c1, rfl, ho1, hb⟩
  replace hB := Below.thenn hB hb hB.size
  clear hb
  (try clear hc hf)
  obtain ⟨hc, hf⟩ := bcell hB
  go_wp2_with fail
  refine (spec_WorstPull aD_0 aD_1 _ _ _ aD_2 aSpeed aLow aHigh _ ho1.rdR (by omega)).mono ?_
  rintro e w3 ⟨rfl, hb⟩
  replace hB := Below.thenn hB hb hB.size
  replace ho1 := ho1.below hb
  clear hb
  (try clear hc hf)
  obtain ⟨hc, hf⟩ := bcell hB
  go_wp2_with fail
  refine (laws_toDrive _ _ _ _ _ aD_2 _ (hraD_2.below hB) (by omega)).mono ?_
  rintro e w4 ⟨A2, c2, rfl, ho2, hb⟩
  replace hB := Below.thenn hB hb hB.size
  replace ho1 := ho1.below hb
  clear hb
  (try clear hc hf)
  obtain ⟨hc, hf⟩ := bcell hB
  go_wp2_with fail
  have hb : Below w4.heap.size w4 (w4.alloc (.cells #[.int .i64 (aD_0), .int .i64 (aD_1), .slice A2 (aD_2).length c2] 29)) := (Below.refl _ _).alloc (Nat.le_refl _) _
  have ho3 : OwB (w4.alloc (.cells #[.int .i64 (aD_0), .int .i64 (aD_1), .slice A2 (aD_2).length c2] 29)) w4.heap.size w4.heap.size 29 #[.int .i64 (aD_0), .int .i64 (aD_1), .slice A2 (aD_2).length c2] := OwB.new _ _ _
  generalize w4.alloc (.cells #[.int .i64 (aD_0), .int .i64 (aD_1), .slice A2 (aD_2).length c2] 29) = w5 at hb ho3 ⊢
  replace hB := Below.thenn hB hb hB.size
  replace ho1 := ho1.below hb
  replace ho2 := ho2.below hb
  clear hb
  (try clear hc hf)
  obtain ⟨hc, hf⟩ := bcell hB
  obtain ⟨hx3_0, hx3_1, hx3_2⟩ := ho3.cells3
  go_wp2_with fail
  clear hx3_0 hx3_1 hx3_2
  refine (impl_WorstPull aD_0 aD_1 _ _ _ aD_2 aSpeed aLow aHigh _ ho2.rdR (by omega)).mono ?_
  rintro e w6 ⟨rfl, hb⟩
  replace hB := Below.thenn hB hb hB.size
  replace ho1 := ho1.below hb
  replace ho2 := ho2.below hb
  replace ho3 := ho3.below hb
  clear hb
  (try clear hc hf)
  obtain ⟨hc, hf⟩ := bcell hB
  obtain ⟨hx3_0, hx3_1, hx3_2⟩ := ho3.cells3
  go_wp2_with fail
  clear hx3_0 hx3_1 hx3_2
  go_cut [60] (fun q wx => q = .bool false ∧ Below w6.heap.size w6 wx)
  case first =>
    obtain ⟨hx3_0, hx3_1, hx3_2⟩ := ho3.cells3
    have hgx3 := ho3.2.lt
    have hax0 := (hc W.heap.size 0 hV0).trans hv0
    have hax1 := (hc W.heap.size 1 hV0).trans hv1
    have hax2 := (hc W.heap.size 2 hV0).trans hv2
    have hgw : W.heap.size < w6.heap.size := Nat.lt_of_lt_of_le hV0 hB.size
    go_region_held3 (fun w' => w'.cell? ⟨w4.heap.size, 0, none⟩ = some (.int .i64 (aD_0)) ∧ w'.cell? ⟨w4.heap.size, 1, none⟩ = some (.int .i64 (aD_1)) ∧ w'.cell? ⟨w4.heap.size, 2, none⟩ = some (.slice A2 (aD_2).length c2) ∧ w'.cell? ⟨W.heap.size, 0, none⟩ = some (.int .i64 aD_0) ∧ w'.cell? ⟨W.heap.size, 1, none⟩ = some (.int .i64 aD_1) ∧ w'.cell? ⟨W.heap.size, 2, none⟩ = some (.slice aD_2A aD_2.length aD_2c)) (first | exact ⟨hx3_0, hx3_1, hx3_2, hax0, hax1, hax2⟩ | exact ⟨(hBz.cell (p := ⟨_, 0, none⟩) hgx3).trans hx3_0, (hBz.cell (p := ⟨_, 1, none⟩) hgx3).trans hx3_1, (hBz.cell (p := ⟨_, 2, none⟩) hgx3).trans hx3_2, (hBz.cell (p := ⟨_, 0, none⟩) hgw).trans hax0, (hBz.cell (p := ⟨_, 1, none⟩) hgw).trans hax1, (hBz.cell (p := ⟨_, 2, none⟩) hgw).trans hax2⟩ | exact ⟨(hBq.cell (p := ⟨_, 0, none⟩) hgx3).trans hx3_0, (hBq.cell (p := ⟨_, 1, none⟩) hgx3).trans hx3_1, (hBq.cell (p := ⟨_, 2, none⟩) hgx3).trans hx3_2, (hBq.cell (p := ⟨_, 0, none⟩) hgw).trans hax0, (hBq.cell (p := ⟨_, 1, none⟩) hgw).trans hax1, (hBq.cell (p := ⟨_, 2, none⟩) hgw).trans hax2⟩)
      (first | (go_at_call 16; refine (laws_toDrive _ _ _ _ _ aD_2 _ (hraD_2.below (by first | exact hB | exact Below.drew hB)) (by omega)).mono ?_; rintro e wq ⟨Aq, cq, rfl, hoq, hbq⟩; have hBq : Below w6.heap.size w6 wq := Below.thenn (by first | exact Below.refl _ _ | exact Below.drew (Below.refl _ _)) hbq (by first | omega | (simp; done) | (simp; omega)); have hzq : w6.heap.size ≤ wq.heap.size := hBq.size; clear hbq) | (go_at_call 18; refine (laws_eqDrive _ _ _ _ _ _ _ _ (aD_2) _ (ho2.below hBq).rdR hoq.rdR (by first | omega | (simp; omega) | (simp [iota_len]; omega))).mono ?_; rintro e wz ⟨rfl, hbz⟩; have hBz : Below w6.heap.size w6 wz := Below.thenn hBq hbz hzq; clear hbz))
    all_goals go_wp2_with fail
    all_goals go_meet
    all_goals exact ⟨rfl, hBz⟩
  case' rest => (obtain ⟨rfl, hb⟩ := hcut; obtain ⟨w7, rfl⟩ : ∃ x, x = wc := ⟨_, rfl⟩)
  replace hB := Below.thenn hB hb hB.size
  replace ho1 := ho1.below hb
  replace ho2 := ho2.below hb
  replace ho3 := ho3.below hb
  clear hb
  (try clear hc hf)
  obtain ⟨hc, hf⟩ := bcell hB
  obtain ⟨hx3_0, hx3_1, hx3_2⟩ := ho3.cells3
  go_wp2_with fail
  clear hx3_0 hx3_1 hx3_2
  go_ret
  exact ⟨rfl, Below.thenn hWV hB hWV.size⟩

end Go.Proofs.Ythijklidjdhkdaa
