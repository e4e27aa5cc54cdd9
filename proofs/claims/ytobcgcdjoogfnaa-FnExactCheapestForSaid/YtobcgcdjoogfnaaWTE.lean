/- The exact laws of the tickets: walks. -/
import Derived.Test.YtobcgcdjoogfnaaCheapS
import Derived.Test.YtobcgcdjoogfnaaCheapI
import Derived.Test.YtobcgcdjoogfnaaToPrices
import Derived.Test.YtobcgcdjoogfnaaFlTicket
namespace Go.Proofs.Ytobcgcdjoogfnaa
open Go.RowKit
set_option linter.unusedVariables false
set_option linter.unusedSimpArgs false

set_option maxRecDepth 100000 in
set_option maxHeartbeats 4000000 in
theorem law_FnExactCheapestFor (aP_0 aP_1 aP_2 aP_3 : Int) (aUps : Int) (aDowns : Int) (W : World)  :
    Calls Try.prog 6 #[.agg #[.int .i64 aP_0, .int .i64 aP_1, .int .i64 aP_2, .int .i64 aP_3], .int .i64 aUps, .int .i64 aDowns] W (Ret W (.bool true)) := by
  have hz1 : (chV aP_0 aP_1 aP_2 aP_3 aUps aDowns).length ≤ 1048576 := Nat.le_trans (chV_len _ _ _ _ _ _) (by decide)
  go_enter Try.func6, Try.ntmps6
  go_wp2_with fail
  have hWV : Below W.heap.size W (W.alloc (.cells #[.int .i64 aP_0, .int .i64 aP_1, .int .i64 aP_2, .int .i64 aP_3] 35)) := (Below.refl _ _).alloc (Nat.le_refl _) _
  have hV0 : W.heap.size < (W.alloc (.cells #[.int .i64 aP_0, .int .i64 aP_1, .int .i64 aP_2, .int .i64 aP_3] 35)).heap.size := by simp
  have hv0 : (W.alloc (.cells #[.int .i64 aP_0, .int .i64 aP_1, .int .i64 aP_2, .int .i64 aP_3] 35)).cell? ⟨W.heap.size, 0, none⟩ = some (.int .i64 aP_0) := by rw [cell_of_row _ _ _ _ _ _ (heap_alloc_new W _)]; rfl
  have hv1 : (W.alloc (.cells #[.int .i64 aP_0, .int .i64 aP_1, .int .i64 aP_2, .int .i64 aP_3] 35)).cell? ⟨W.heap.size, 1, none⟩ = some (.int .i64 aP_1) := by rw [cell_of_row _ _ _ _ _ _ (heap_alloc_new W _)]; rfl
  have hv2 : (W.alloc (.cells #[.int .i64 aP_0, .int .i64 aP_1, .int .i64 aP_2, .int .i64 aP_3] 35)).cell? ⟨W.heap.size, 2, none⟩ = some (.int .i64 aP_2) := by rw [cell_of_row _ _ _ _ _ _ (heap_alloc_new W _)]; rfl
  have hv3 : (W.alloc (.cells #[.int .i64 aP_0, .int .i64 aP_1, .int .i64 aP_2, .int .i64 aP_3] 35)).cell? ⟨W.heap.size, 3, none⟩ = some (.int .i64 aP_3) := by rw [cell_of_row _ _ _ _ _ _ (heap_alloc_new W _)]; rfl
  generalize W.alloc (.cells #[.int .i64 aP_0, .int .i64 aP_1, .int .i64 aP_2, .int .i64 aP_3] 35) = V at hWV hV0 hv0 hv1 hv2 hv3 ⊢
  have hB : Below V.heap.size V V := Below.refl _ _
  (try clear hc hf)
  (try clear hVl)
  have hVl := Nat.lt_of_lt_of_le hV0 hB.size
  obtain ⟨hc, hf⟩ := bcell hB
  go_wp2_with fail
  refine (laws_toPrices aP_0 aP_1 aP_2 aP_3 _).mono ?_
  rintro e w1 ⟨rfl, hb⟩
  replace hB := Below.thenn hB hb hB.size
  clear hb
  (try clear hc hf)
  (try clear hVl)
  have hVl := Nat.lt_of_lt_of_le hV0 hB.size
  obtain ⟨hc, hf⟩ := bcell hB
  go_wp2_with fail
  refine (spec_CheapestFor aP_0 aP_1 aP_2 aP_3 aUps aDowns _).mono ?_
  have hW1 : V.heap.size ≤ w1.heap.size := hB.size
  rintro e w2 ⟨A1, c1, rfl, ho1, hb⟩
  replace hB := Below.thenn hB hb hB.size
  clear hb
  (try clear hc hf)
  (try clear hVl)
  have hVl := Nat.lt_of_lt_of_le hV0 hB.size
  obtain ⟨hc, hf⟩ := bcell hB
  go_wp2_with fail
  refine (laws_toPrices aP_0 aP_1 aP_2 aP_3 _).mono ?_
  rintro e w3 ⟨rfl, hb⟩
  replace hB := Below.thenn hB hb hB.size
  replace ho1 := ho1.below hb
  clear hb
  (try clear hc hf)
  (try clear hVl)
  have hVl := Nat.lt_of_lt_of_le hV0 hB.size
  obtain ⟨hc, hf⟩ := bcell hB
  go_wp2_with fail
  refine (impl_CheapestFor aP_0 aP_1 aP_2 aP_3 aUps aDowns _).mono ?_
  have hW2 : V.heap.size ≤ w3.heap.size := hB.size
  have hq1_2 := Lib.hid (Ow.block_lt ho1)
  rintro e w4 ⟨A2, c2, rfl, ho2, hb⟩
  replace hB := Below.thenn hB hb hB.size
  replace ho1 := ho1.below hb
  clear hb
  (try clear hc hf)
  (try clear hVl)
  have hVl := Nat.lt_of_lt_of_le hV0 hB.size
  obtain ⟨hc, hf⟩ := bcell hB
  go_wp2_with fail
  refine (laws_eqIntS _ _ _ _ _ _ _ _ _ ho2.rd ho1.rd (by first | omega | (simp; omega) | (simp [iota_len]; omega)) (by first | omega | (simp; omega) | (simp [iota_len]; omega))).mono ?_
  intro e w5 hq
  obtain ⟨rfl, hb⟩ := hq.ret
  clear hq
  replace hB := Below.thenn hB hb hB.size
  replace ho1 := ho1.below hb
  replace ho2 := ho2.below hb
  clear hb
  (try clear hc hf)
  (try clear hVl)
  have hVl := Nat.lt_of_lt_of_le hV0 hB.size
  obtain ⟨hc, hf⟩ := bcell hB
  go_wp2_with fail
  refine (laws_markIntS _ _ _ _ _ (1) _ ho2 (by omega) (by first | omega | (simp; omega) | (simp [iota_len]; omega)) (by first | omega | (simp; omega) | (simp [iota_len]; omega))).mono ?_
  rintro e w6 ⟨rfl, ho2n, hg⟩
  replace hB := below_own hB ho2 hg hW2 hB.size
  replace ho1 := Ow.other2 ho1 hg hq1_2.out (Ow.block_ge ho2)
  (try clear hc hf)
  (try clear hVl)
  have hVl := Nat.lt_of_lt_of_le hV0 hB.size
  obtain ⟨hc, hf⟩ := bcell hB
  replace ho2 := ho2n
  clear hg
  go_wp2_with fail
  refine (laws_heldIntS _ _ _ (1) _ ho2.rd (by omega) (by first | omega | (simp; omega) | (simp [iota_len]; omega)) (by first | omega | (simp; omega) | (simp [iota_len]; omega))).mono ?_
  rintro e _ ⟨rfl, rfl⟩
  go_wp2_with fail
  refine (laws_toPrices aP_0 aP_1 aP_2 aP_3 _).mono ?_
  rintro e w7 ⟨rfl, hb⟩
  replace hB := Below.thenn hB hb hB.size
  replace ho1 := ho1.below hb
  replace ho2 := ho2.below hb
  clear hb
  (try clear hc hf)
  (try clear hVl)
  have hVl := Nat.lt_of_lt_of_le hV0 hB.size
  obtain ⟨hc, hf⟩ := bcell hB
  go_wp2_with fail
  refine (impl_CheapestFor aP_0 aP_1 aP_2 aP_3 aUps aDowns _).mono ?_
  have hW3 : V.heap.size ≤ w7.heap.size := hB.size
  have hq1_3 := Lib.hid (Ow.block_lt ho1)
  have hq2_3 := Lib.hid (Ow.block_lt ho2)
  rintro e w8 ⟨A3, c3, rfl, ho3, hb⟩
  replace hB := Below.thenn hB hb hB.size
  replace ho1 := ho1.below hb
  replace ho2 := ho2.below hb
  clear hb
  (try clear hc hf)
  (try clear hVl)
  have hVl := Nat.lt_of_lt_of_le hV0 hB.size
  obtain ⟨hc, hf⟩ := bcell hB
  go_wp2_with fail
  refine (laws_eqIntS _ _ _ _ _ _ _ _ _ ho3.rd ho1.rd (by first | omega | (simp; omega) | (simp [iota_len]; omega)) (by first | omega | (simp; omega) | (simp [iota_len]; omega))).mono ?_
  intro e w9 hq
  obtain ⟨rfl, hb⟩ := hq.ret
  clear hq
  replace hB := Below.thenn hB hb hB.size
  replace ho1 := ho1.below hb
  replace ho2 := ho2.below hb
  replace ho3 := ho3.below hb
  clear hb
  (try clear hc hf)
  (try clear hVl)
  have hVl := Nat.lt_of_lt_of_le hV0 hB.size
  obtain ⟨hc, hf⟩ := bcell hB
  go_wp2_with fail
  refine (laws_heldIntS _ _ _ (1) _ ho2.rd (by omega) (by first | omega | (simp; omega) | (simp [iota_len]; omega)) (by first | omega | (simp; omega) | (simp [iota_len]; omega))).mono ?_
  rintro e _ ⟨rfl, rfl⟩
  go_wp2_with fail
  go_ret
  exact ⟨rfl, Below.thenn hWV hB hWV.size⟩

end Go.Proofs.Ytobcgcdjoogfnaa
