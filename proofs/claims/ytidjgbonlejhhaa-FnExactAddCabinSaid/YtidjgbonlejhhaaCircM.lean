/- The circle: the smallest gap. -/
import Derived.Test.YtidjgbonlejhhaaCircL
namespace Go.Proofs.Ytidjgbonlejhhaa
open Go.RowKit
set_option linter.unusedVariables false
set_option linter.unusedSimpArgs false

def minF : Int → List Int → Int
  | m, [] => m
  | m, x :: xs => minF (min m x) xs
def minL : List Int → Int
  | [] => 0
  | x :: xs => minF x xs
theorem minF_next {m : Int} {zs : List Int} {k : Nat} {x : Int} (h : zs[k]? = some x) : minF m (zs.drop k) = minF (min m x) (zs.drop (k + 1)) := by rw [drop_atZ h]; rfl
theorem minF_end {m : Int} {zs : List Int} {n k : Nat} (h : zs.length = n) (hk : n ≤ k) : minF m (zs.drop k) = m := by rw [List.drop_of_length_le (by omega)]; rfl
theorem minL_start {zs : List Int} {x : Int} (h : zs[0]? = some x) : minF x (zs.drop 1) = minL zs := by
  cases zs with
  | nil => simp at h
  | cons a t => simp at h; subst h; rfl
set_option maxHeartbeats 1000000 in
theorem slices_Min (A : Option Addr) (n c : Nat) (zs : List Int) (w : World) (h : Rd w 1 A n (IV zs)) (h0 : 0 < n) (hm : n ≤ 1048577) :
    Calls Try.prog 63 #[.slice A n c] w fun e w' => e = .returned (.int .i64 (minL zs)) ∧ w = w' := by
  have hl := Lib.hid h.len
  obtain ⟨b, off, x0, rfl, hx0, c0⟩ := h.at1 h0
  have HS := Lib.hid (minL_start hx0)
  rw [Nat.add_zero] at c0
  have hn1 : ¬ ((n : Int) < 1) := by omega
  have hn2 : ¬ (n < 1) := by omega
  have hn3 : (0 : Int) < (n : Int) := by omega
  clear hx0
  go_enter Try.func63, Try.ntmps63
  go_wp2
  go_loopg [3, 4] n (fun g p i wr => ∃ (k : Nat) (v : Int), k ≤ n ∧ n ≤ k + g ∧ i = .int .i64 k ∧ p = .int .i64 v ∧ w = wr ∧ Hid (minF v (zs.drop k) = minL zs))
  case atStart => exact ⟨1, x0, by omega, by omega, rfl, rfl, rfl, HS.out⟩
  case round =>
    obtain ⟨k, v, hk1, hk2, rfl, rfl, rfl, ha⟩ := hrel
    by_cases hlt : k < n
    · obtain ⟨b', off', x, e', hx, hc⟩ := h.at1 hlt
      injection e' with e'
      injection e' with e1 e2
      subst e1 e2
      have HR := Lib.hid hx
      clear hx
      by_cases hle : v ≤ x
      · have HQ : Hid (minF v (zs.drop (k + 1)) = minL zs) := (show _ = _ by rw [← ha.out, minF_next HR.out, show min v x = v by omega])
        go_wp2_with fail
        all_goals go_roundg (n - (k + 1))
        all_goals first | omega | exact ⟨k + 1, v, by omega, by omega, by go_num, by first | rfl | (congr 1; omega), rfl, HQ.out⟩
      · have HQ : Hid (minF x (zs.drop (k + 1)) = minL zs) := (show _ = _ by rw [← ha.out, minF_next HR.out, show min v x = x by omega])
        go_wp2_with fail
        all_goals go_roundg (n - (k + 1))
        all_goals first | omega | exact ⟨k + 1, x, by omega, by omega, by go_num, by first | rfl | (congr 1; omega), rfl, HQ.out⟩
    · go_wp2_with fail
      go_ret
      exact ⟨ret_int (by rw [← ha.out, minF_end hl.out (by omega)]), rfl⟩
set_option maxHeartbeats 1000000 in
theorem spec_l8Smallest (l s : Int) (A : Option Addr) (n c : Nat) (zs : List Int) (wo : World) (h : Rd wo 1 A n (IV zs)) (hm : n ≤ 1048577) (hg : circOk l s zs = true) (h0 : 0 < n) :
    Calls Try.prog 62 #[.agg #[.int .i64 l, .int .i64 s, .slice A n c]] wo (Ret wo (.int .i64 (minL (gapsL l zs)))) := by
  have hln := h.len
  have hgl := gapsL_len l zs
  have hb := (circOk_iff.1 hg).2.2.2
  have CG := Lib.hid (fun w' (h' : Rd w' 1 A n (IV zs)) => spec_l8Gaps l s A n c zs w' h' hm hg)
  generalize gapsL l zs = gs at hgl CG ⊢
  have g0 : 0 < gs.length := by omega
  have g1 : (0 : Int) < (gs.length : Int) := by omega
  have g2 : gs.length ≤ 12 := by omega
  clear hln hgl hb hg
  go_enter Try.func62, Try.ntmps62
  (go_wp2_with fail; have hWV : Below wo.heap.size wo (wo.alloc (.cells #[.int .i64 l, .int .i64 s, .slice A n c] 27)) := (Below.refl _ _).alloc (Nat.le_refl _) _; have hV0 : wo.heap.size < (wo.alloc (.cells #[.int .i64 l, .int .i64 s, .slice A n c] 27)).heap.size := (by simp); have hv0 : (wo.alloc (.cells #[.int .i64 l, .int .i64 s, .slice A n c] 27)).cell? ⟨wo.heap.size, 0, none⟩ = some (.int .i64 l) := (by rw [cell_of_row _ _ _ _ _ _ (heap_alloc_new wo _)]; rfl); have hv1 : (wo.alloc (.cells #[.int .i64 l, .int .i64 s, .slice A n c] 27)).cell? ⟨wo.heap.size, 1, none⟩ = some (.int .i64 s) := (by rw [cell_of_row _ _ _ _ _ _ (heap_alloc_new wo _)]; rfl); have hv2 : (wo.alloc (.cells #[.int .i64 l, .int .i64 s, .slice A n c] 27)).cell? ⟨wo.heap.size, 2, none⟩ = some (.slice A n c) := (by rw [cell_of_row _ _ _ _ _ _ (heap_alloc_new wo _)]; rfl); generalize wo.alloc (.cells #[.int .i64 l, .int .i64 s, .slice A n c] 27) = w at hWV hV0 hv0 hv1 hv2 ⊢; have hr := h.below hWV)
  have hB : Below w.heap.size w w := Below.refl _ _
  go_wp2_with (go_at_call 60; refine (CG.out _ hr).mono ?_; rintro e w2 ⟨A1, c1, rfl, ho1, hb⟩; have HO1 := Lib.hid ho1.rd; have hB2 : Below w.heap.size w w2 := hb; clear hb ho1; obtain ⟨b1, off1, x0, hA1, hx0, cx0⟩ := HO1.out.at1 g0; subst hA1; rw [Nat.add_zero] at cx0; have HS := Lib.hid (minL_start hx0); clear hx0)
  go_loopg [4, 5] gs.length (fun g p i wr => ∃ (k : Nat) (v : Int), k ≤ gs.length ∧ gs.length ≤ k + g ∧ i = .int .i64 k ∧ p = .int .i64 v ∧ w2 = wr ∧ Hid (minF v (gs.drop k) = minL gs))
  case atStart => exact ⟨1, x0, by omega, by omega, rfl, rfl, rfl, HS.out⟩
  case round =>
    obtain ⟨k, v, hk1, hk2, rfl, rfl, rfl, ha⟩ := hrel
    by_cases hlt : k < gs.length
    · obtain ⟨b', off', x, e', hx, hcx⟩ := HO1.out.at1 hlt
      injection e' with e'
      injection e' with e1 e2
      subst e1 e2
      have HR := Lib.hid hx
      have HQ : Hid (minF (min v x) (gs.drop (k + 1)) = minL gs) := (show _ = _ by rw [← ha.out, minF_next hx])
      clear hx
      have CM := Lib.hid (fun w => spec_l1Least v x w)
      generalize min v x = M at CM HQ
      go_wp2_with (go_at_call 76; refine (CM.out _).mono ?_; rintro e w' ⟨rfl, rfl⟩)
      go_roundg (gs.length - (k + 1))
      case measure => omega
      case rel => exact ⟨k + 1, M, by omega, by omega, by go_num, rfl, rfl, HQ.out⟩
    · go_wp2_with fail
      go_ret
      exact ⟨ret_int (by rw [← ha.out, minF_end rfl (by omega)]), Below.thenn hWV hB2 hWV.size⟩
def smOk (l s : Int) (zs : List Int) : Bool := circOk l s zs && decide (zs.length ≠ 0)
def smV (l s : Int) (zs : List Int) : Int := if smOk l s zs then minL (gapsL l zs) else 0
set_option maxHeartbeats 1000000 in
theorem spec_SmallestGap (l s : Int) (A : Option Addr) (n c : Nat) (zs : List Int) (wo : World) (h : Rd wo 1 A n (IV zs)) (hm : n ≤ 1048577) :
    Calls Try.prog 36 #[.agg #[.int .i64 l, .int .i64 s, .slice A n c]] wo (Ret wo (.tuple #[.int .i64 (smV l s zs), .bool (smOk l s zs)])) := by
  have hln := h.len
  have cg := fun w' (h' : Rd w' 1 A n (IV zs)) => spec_l8Good l s A n c zs w' h' hm
  rcases hg : circOk l s zs with _ | _
  all_goals rw [hg] at cg
  all_goals have CG := Lib.hid cg
  all_goals clear cg
  · rw [show smV l s zs = 0 by simp [smV, smOk, hg], show smOk l s zs = false by simp [smOk, hg]]
    clear hln
    go_enter Try.func36, Try.ntmps36
    (go_wp2_with fail; have hWV : Below wo.heap.size wo (wo.alloc (.cells #[.int .i64 l, .int .i64 s, .slice A n c] 27)) := (Below.refl _ _).alloc (Nat.le_refl _) _; have hV0 : wo.heap.size < (wo.alloc (.cells #[.int .i64 l, .int .i64 s, .slice A n c] 27)).heap.size := (by simp); have hv0 : (wo.alloc (.cells #[.int .i64 l, .int .i64 s, .slice A n c] 27)).cell? ⟨wo.heap.size, 0, none⟩ = some (.int .i64 l) := (by rw [cell_of_row _ _ _ _ _ _ (heap_alloc_new wo _)]; rfl); have hv1 : (wo.alloc (.cells #[.int .i64 l, .int .i64 s, .slice A n c] 27)).cell? ⟨wo.heap.size, 1, none⟩ = some (.int .i64 s) := (by rw [cell_of_row _ _ _ _ _ _ (heap_alloc_new wo _)]; rfl); have hv2 : (wo.alloc (.cells #[.int .i64 l, .int .i64 s, .slice A n c] 27)).cell? ⟨wo.heap.size, 2, none⟩ = some (.slice A n c) := (by rw [cell_of_row _ _ _ _ _ _ (heap_alloc_new wo _)]; rfl); generalize wo.alloc (.cells #[.int .i64 l, .int .i64 s, .slice A n c] 27) = w at hWV hV0 hv0 hv1 hv2 ⊢; have hr := h.below hWV)
    have hB : Below w.heap.size w w := Below.refl _ _
    go_wp2_with (go_at_call 49; refine (CG.out _ hr).mono ?_; rintro e w' ⟨rfl, hb⟩; have hB : Below w.heap.size w w' := Below.thenn (by repeat (first | exact Below.refl _ _ | assumption | apply Below.drew | apply below_drewN | (refine Below.alloc ?_ (by first | omega | (simp; done) | (simp; omega)) _) | (refine Below.setCell ?_ (by first | omega | (simp; done) | (simp; omega)) _))) hb (by first | omega | (simp; done) | (simp; omega)); have hz : w.heap.size ≤ w'.heap.size := hB.size; (try (have hz1 : w.heap.size + 1 ≤ w'.heap.size := (by have h := hb.size; (try simp at h); omega))); obtain ⟨hc, hf⟩ := bcell hb; clear hb)
    go_ret2
    exact ⟨rfl, Below.thenn hWV hB hWV.size⟩
  by_cases h0n : n = 0
  · subst h0n
    rw [show smV l s zs = 0 by simp [smV, smOk, hln], show smOk l s zs = false by simp [smOk, hln]]
    clear hln hg
    go_enter Try.func36, Try.ntmps36
    (go_wp2_with fail; have hWV : Below wo.heap.size wo (wo.alloc (.cells #[.int .i64 l, .int .i64 s, .slice A 0 c] 27)) := (Below.refl _ _).alloc (Nat.le_refl _) _; have hV0 : wo.heap.size < (wo.alloc (.cells #[.int .i64 l, .int .i64 s, .slice A 0 c] 27)).heap.size := (by simp); have hv0 : (wo.alloc (.cells #[.int .i64 l, .int .i64 s, .slice A 0 c] 27)).cell? ⟨wo.heap.size, 0, none⟩ = some (.int .i64 l) := (by rw [cell_of_row _ _ _ _ _ _ (heap_alloc_new wo _)]; rfl); have hv1 : (wo.alloc (.cells #[.int .i64 l, .int .i64 s, .slice A 0 c] 27)).cell? ⟨wo.heap.size, 1, none⟩ = some (.int .i64 s) := (by rw [cell_of_row _ _ _ _ _ _ (heap_alloc_new wo _)]; rfl); have hv2 : (wo.alloc (.cells #[.int .i64 l, .int .i64 s, .slice A 0 c] 27)).cell? ⟨wo.heap.size, 2, none⟩ = some (.slice A 0 c) := (by rw [cell_of_row _ _ _ _ _ _ (heap_alloc_new wo _)]; rfl); generalize wo.alloc (.cells #[.int .i64 l, .int .i64 s, .slice A 0 c] 27) = w at hWV hV0 hv0 hv1 hv2 ⊢; have hr := h.below hWV)
    have hB : Below w.heap.size w w := Below.refl _ _
    go_wp2_with (go_at_call 49; refine (CG.out _ hr).mono ?_; rintro e w' ⟨rfl, hb⟩; have hB : Below w.heap.size w w' := Below.thenn (by repeat (first | exact Below.refl _ _ | assumption | apply Below.drew | apply below_drewN | (refine Below.alloc ?_ (by first | omega | (simp; done) | (simp; omega)) _) | (refine Below.setCell ?_ (by first | omega | (simp; done) | (simp; omega)) _))) hb (by first | omega | (simp; done) | (simp; omega)); have hz : w.heap.size ≤ w'.heap.size := hB.size; (try (have hz1 : w.heap.size + 1 ≤ w'.heap.size := (by have h := hb.size; (try simp at h); omega))); obtain ⟨hc, hf⟩ := bcell hb; have hor := Nat.lt_of_lt_of_le hV0 hz; clear hb)
    go_ret2
    exact ⟨rfl, Below.thenn hWV hB hWV.size⟩
  have hok : smOk l s zs = true := by simp [smOk, hg]; intro e; subst e; simp at hln; omega
  rw [show smV l s zs = minL (gapsL l zs) by simp [smV, hok], hok]
  have h0b : ((n : Int) == 0) = false := by simp; omega
  have hn0 : 0 < n := by omega
  have CS := Lib.hid (fun w' (h' : Rd w' 1 A n (IV zs)) => spec_l8Smallest l s A n c zs w' h' hm hg hn0)
  clear hg hok hln h0n
  go_enter Try.func36, Try.ntmps36
  (go_wp2_with fail; have hWV : Below wo.heap.size wo (wo.alloc (.cells #[.int .i64 l, .int .i64 s, .slice A n c] 27)) := (Below.refl _ _).alloc (Nat.le_refl _) _; have hV0 : wo.heap.size < (wo.alloc (.cells #[.int .i64 l, .int .i64 s, .slice A n c] 27)).heap.size := (by simp); have hv0 : (wo.alloc (.cells #[.int .i64 l, .int .i64 s, .slice A n c] 27)).cell? ⟨wo.heap.size, 0, none⟩ = some (.int .i64 l) := (by rw [cell_of_row _ _ _ _ _ _ (heap_alloc_new wo _)]; rfl); have hv1 : (wo.alloc (.cells #[.int .i64 l, .int .i64 s, .slice A n c] 27)).cell? ⟨wo.heap.size, 1, none⟩ = some (.int .i64 s) := (by rw [cell_of_row _ _ _ _ _ _ (heap_alloc_new wo _)]; rfl); have hv2 : (wo.alloc (.cells #[.int .i64 l, .int .i64 s, .slice A n c] 27)).cell? ⟨wo.heap.size, 2, none⟩ = some (.slice A n c) := (by rw [cell_of_row _ _ _ _ _ _ (heap_alloc_new wo _)]; rfl); generalize wo.alloc (.cells #[.int .i64 l, .int .i64 s, .slice A n c] 27) = w at hWV hV0 hv0 hv1 hv2 ⊢; have hr := h.below hWV)
  have hB : Below w.heap.size w w := Below.refl _ _
  go_wp2_with (first | (go_at_call 49; refine (CG.out _ hr).mono ?_; rintro e w' ⟨rfl, hb⟩; have hB : Below w.heap.size w w' := Below.thenn (by repeat (first | exact Below.refl _ _ | assumption | apply Below.drew | apply below_drewN | (refine Below.alloc ?_ (by first | omega | (simp; done) | (simp; omega)) _) | (refine Below.setCell ?_ (by first | omega | (simp; done) | (simp; omega)) _))) hb (by first | omega | (simp; done) | (simp; omega)); have hz : w.heap.size ≤ w'.heap.size := hB.size; (try (have hz1 : w.heap.size + 1 ≤ w'.heap.size := (by have h := hb.size; (try simp at h); omega))); obtain ⟨hc, hf⟩ := bcell hb; have hor := Nat.lt_of_lt_of_le hV0 hz; clear hb) | (go_at_call 62; refine (CS.out _ (hr.below hB)).mono ?_; rintro e w2 ⟨rfl, hb⟩; have hB2 : Below w.heap.size w w2 := Below.thenn hB hb hz; clear hb))
  go_ret2
  exact ⟨rfl, Below.thenn hWV hB2 hWV.size⟩
set_option maxHeartbeats 1000000 in
theorem impl_SmallestGap (l s : Int) (A : Option Addr) (n c : Nat) (zs : List Int) (wo : World) (h : Rd wo 1 A n (IV zs)) (hm : n ≤ 1048577) :
    Calls Try.prog 37 #[.agg #[.int .i64 l, .int .i64 s, .slice A n c]] wo (Ret wo (.tuple #[.int .i64 (smV l s zs), .bool (smOk l s zs)])) := by
  have hln := h.len
  have cg := fun w' (h' : Rd w' 1 A n (IV zs)) => impl_IsCircle l s A n c zs w' h' hm
  rcases hg : circOk l s zs with _ | _
  all_goals rw [hg] at cg
  all_goals have CG := Lib.hid cg
  all_goals clear cg
  · rw [show smV l s zs = 0 by simp [smV, smOk, hg], show smOk l s zs = false by simp [smOk, hg]]
    clear hln
    go_enter Try.func37, Try.ntmps37
    (go_wp2_with fail; have hWV : Below wo.heap.size wo (wo.alloc (.cells #[.int .i64 l, .int .i64 s, .slice A n c] 27)) := (Below.refl _ _).alloc (Nat.le_refl _) _; have hV0 : wo.heap.size < (wo.alloc (.cells #[.int .i64 l, .int .i64 s, .slice A n c] 27)).heap.size := (by simp); have hv0 : (wo.alloc (.cells #[.int .i64 l, .int .i64 s, .slice A n c] 27)).cell? ⟨wo.heap.size, 0, none⟩ = some (.int .i64 l) := (by rw [cell_of_row _ _ _ _ _ _ (heap_alloc_new wo _)]; rfl); have hv1 : (wo.alloc (.cells #[.int .i64 l, .int .i64 s, .slice A n c] 27)).cell? ⟨wo.heap.size, 1, none⟩ = some (.int .i64 s) := (by rw [cell_of_row _ _ _ _ _ _ (heap_alloc_new wo _)]; rfl); have hv2 : (wo.alloc (.cells #[.int .i64 l, .int .i64 s, .slice A n c] 27)).cell? ⟨wo.heap.size, 2, none⟩ = some (.slice A n c) := (by rw [cell_of_row _ _ _ _ _ _ (heap_alloc_new wo _)]; rfl); generalize wo.alloc (.cells #[.int .i64 l, .int .i64 s, .slice A n c] 27) = w at hWV hV0 hv0 hv1 hv2 ⊢; have hr := h.below hWV)
    have hB : Below w.heap.size w w := Below.refl _ _
    go_wp2_with (go_at_call 17; refine (CG.out _ hr).mono ?_; rintro e w' ⟨rfl, hb⟩; have hB : Below w.heap.size w w' := Below.thenn (by repeat (first | exact Below.refl _ _ | assumption | apply Below.drew | apply below_drewN | (refine Below.alloc ?_ (by first | omega | (simp; done) | (simp; omega)) _) | (refine Below.setCell ?_ (by first | omega | (simp; done) | (simp; omega)) _))) hb (by first | omega | (simp; done) | (simp; omega)); have hz : w.heap.size ≤ w'.heap.size := hB.size; (try (have hz1 : w.heap.size + 1 ≤ w'.heap.size := (by have h := hb.size; (try simp at h); omega))); obtain ⟨hc, hf⟩ := bcell hb; clear hb)
    go_ret2
    exact ⟨rfl, Below.thenn hWV hB hWV.size⟩
  by_cases h0n : n = 0
  · subst h0n
    rw [show smV l s zs = 0 by simp [smV, smOk, hln], show smOk l s zs = false by simp [smOk, hln]]
    clear hln hg
    go_enter Try.func37, Try.ntmps37
    (go_wp2_with fail; have hWV : Below wo.heap.size wo (wo.alloc (.cells #[.int .i64 l, .int .i64 s, .slice A 0 c] 27)) := (Below.refl _ _).alloc (Nat.le_refl _) _; have hV0 : wo.heap.size < (wo.alloc (.cells #[.int .i64 l, .int .i64 s, .slice A 0 c] 27)).heap.size := (by simp); have hv0 : (wo.alloc (.cells #[.int .i64 l, .int .i64 s, .slice A 0 c] 27)).cell? ⟨wo.heap.size, 0, none⟩ = some (.int .i64 l) := (by rw [cell_of_row _ _ _ _ _ _ (heap_alloc_new wo _)]; rfl); have hv1 : (wo.alloc (.cells #[.int .i64 l, .int .i64 s, .slice A 0 c] 27)).cell? ⟨wo.heap.size, 1, none⟩ = some (.int .i64 s) := (by rw [cell_of_row _ _ _ _ _ _ (heap_alloc_new wo _)]; rfl); have hv2 : (wo.alloc (.cells #[.int .i64 l, .int .i64 s, .slice A 0 c] 27)).cell? ⟨wo.heap.size, 2, none⟩ = some (.slice A 0 c) := (by rw [cell_of_row _ _ _ _ _ _ (heap_alloc_new wo _)]; rfl); generalize wo.alloc (.cells #[.int .i64 l, .int .i64 s, .slice A 0 c] 27) = w at hWV hV0 hv0 hv1 hv2 ⊢; have hr := h.below hWV)
    have hB : Below w.heap.size w w := Below.refl _ _
    go_wp2_with (go_at_call 17; refine (CG.out _ hr).mono ?_; rintro e w' ⟨rfl, hb⟩; have hB : Below w.heap.size w w' := Below.thenn (by repeat (first | exact Below.refl _ _ | assumption | apply Below.drew | apply below_drewN | (refine Below.alloc ?_ (by first | omega | (simp; done) | (simp; omega)) _) | (refine Below.setCell ?_ (by first | omega | (simp; done) | (simp; omega)) _))) hb (by first | omega | (simp; done) | (simp; omega)); have hz : w.heap.size ≤ w'.heap.size := hB.size; (try (have hz1 : w.heap.size + 1 ≤ w'.heap.size := (by have h := hb.size; (try simp at h); omega))); obtain ⟨hc, hf⟩ := bcell hb; have hor := Nat.lt_of_lt_of_le hV0 hz; clear hb)
    go_ret2
    exact ⟨rfl, Below.thenn hWV hB hWV.size⟩
  have hok : smOk l s zs = true := by simp [smOk, hg]; intro e; subst e; simp at hln; omega
  rw [show smV l s zs = minL (gapsL l zs) by simp [smV, hok], hok]
  have h0b : ((n : Int) == 0) = false := by simp; omega
  have hn0 : 0 < n := by omega
  have hgl := gapsL_len l zs
  have hb12 := (circOk_iff.1 hg).2.2.2
  have CS := Lib.hid (fun w' (h' : Rd w' 1 A n (IV zs)) => impl_gapsOf l s A n c zs w' h' hm hg)
  generalize gapsL l zs = gs at hgl CS ⊢
  have g0 : 0 < gs.length := by omega
  have g2 : gs.length ≤ 1048577 := by omega
  clear hg hok hln h0n hgl hb12
  go_enter Try.func37, Try.ntmps37
  (go_wp2_with fail; have hWV : Below wo.heap.size wo (wo.alloc (.cells #[.int .i64 l, .int .i64 s, .slice A n c] 27)) := (Below.refl _ _).alloc (Nat.le_refl _) _; have hV0 : wo.heap.size < (wo.alloc (.cells #[.int .i64 l, .int .i64 s, .slice A n c] 27)).heap.size := (by simp); have hv0 : (wo.alloc (.cells #[.int .i64 l, .int .i64 s, .slice A n c] 27)).cell? ⟨wo.heap.size, 0, none⟩ = some (.int .i64 l) := (by rw [cell_of_row _ _ _ _ _ _ (heap_alloc_new wo _)]; rfl); have hv1 : (wo.alloc (.cells #[.int .i64 l, .int .i64 s, .slice A n c] 27)).cell? ⟨wo.heap.size, 1, none⟩ = some (.int .i64 s) := (by rw [cell_of_row _ _ _ _ _ _ (heap_alloc_new wo _)]; rfl); have hv2 : (wo.alloc (.cells #[.int .i64 l, .int .i64 s, .slice A n c] 27)).cell? ⟨wo.heap.size, 2, none⟩ = some (.slice A n c) := (by rw [cell_of_row _ _ _ _ _ _ (heap_alloc_new wo _)]; rfl); generalize wo.alloc (.cells #[.int .i64 l, .int .i64 s, .slice A n c] 27) = w at hWV hV0 hv0 hv1 hv2 ⊢; have hr := h.below hWV)
  have hB : Below w.heap.size w w := Below.refl _ _
  go_wp2_with (first | (go_at_call 17; refine (CG.out _ hr).mono ?_; rintro e w' ⟨rfl, hb⟩; have hB : Below w.heap.size w w' := Below.thenn (by repeat (first | exact Below.refl _ _ | assumption | apply Below.drew | apply below_drewN | (refine Below.alloc ?_ (by first | omega | (simp; done) | (simp; omega)) _) | (refine Below.setCell ?_ (by first | omega | (simp; done) | (simp; omega)) _))) hb (by first | omega | (simp; done) | (simp; omega)); have hz : w.heap.size ≤ w'.heap.size := hB.size; (try (have hz1 : w.heap.size + 1 ≤ w'.heap.size := (by have h := hb.size; (try simp at h); omega))); obtain ⟨hc, hf⟩ := bcell hb; have hor := Nat.lt_of_lt_of_le hV0 hz; clear hb) | (go_at_call 61; refine (CS.out _ (hr.below hB)).mono ?_; rintro e w2 ⟨A1, c1, rfl, ho1, hb⟩; have HO1 := Lib.hid ho1.rd; have hB2 : Below w.heap.size w w2 := Below.thenn hB hb hz; clear hb ho1) | (go_at_call 63; refine (slices_Min _ _ _ gs _ HO1.out g0 g2).mono ?_; rintro e w' ⟨rfl, rfl⟩))
  go_ret2
  exact ⟨rfl, Below.thenn hWV hB2 hWV.size⟩
end Go.Proofs.Ytidjgbonlejhhaa
