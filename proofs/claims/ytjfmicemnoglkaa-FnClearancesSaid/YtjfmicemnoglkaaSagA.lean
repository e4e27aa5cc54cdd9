/- The parts of a span: the program's and the reference's. -/
import Derived.Test.YtjfmicemnoglkaaSupC
import Derived.Test.YtjfmicemnoglkaaFrcB
import Derived.Test.YtjfmicemnoglkaaSagP
namespace Go.Proofs.Ytjfmicemnoglkaa
open Go.RowKit
set_option linter.unusedVariables false
set_option linter.unusedSimpArgs false

theorem impl_IsRope (x p : Int) (w : World) : Calls Try.prog 13 #[.agg #[.int .i64 x, .int .i64 p]] w (Ret w (.bool (ropeOk x p))) := by
  go_enter Try.func13, Try.ntmps13
  go_wp2_with (go_at_call 98; refine (impl_within _ _ _ _).mono ?_; rintro e w' ⟨rfl, rfl⟩)
  all_goals (go_ret; exact ⟨ret_bool (by (rw [Bool.eq_iff_iff]; simp [ropeOk, inr] at *; omega)), (by repeat (first | exact Below.refl _ _ | assumption | apply Below.drew | apply below_drewN | (refine Below.alloc ?_ (by first | omega | (simp; done) | (simp; omega)) _) | (refine Below.setCell ?_ (by first | omega | (simp; done) | (simp; omega)) _)))⟩)
theorem spec_l4Rope (x p : Int) (w : World) : Calls Try.prog 105 #[.agg #[.int .i64 x, .int .i64 p]] w (Ret w (.bool (ropeOk x p))) := by
  go_enter Try.func105, Try.ntmps105
  go_wp2_with (go_at_call 102; refine (spec_l1In _ _ _ _).mono ?_; rintro e w' ⟨rfl, rfl⟩)
  all_goals (go_ret; exact ⟨ret_bool (by (rw [Bool.eq_iff_iff]; simp [ropeOk, inr] at *; omega)), (by repeat (first | exact Below.refl _ _ | assumption | apply Below.drew | apply below_drewN | (refine Below.alloc ?_ (by first | omega | (simp; done) | (simp; omega)) _) | (refine Below.setCell ?_ (by first | omega | (simp; done) | (simp; omega)) _)))⟩)
theorem spec_IsRope (x p : Int) (w : World) : Calls Try.prog 14 #[.agg #[.int .i64 x, .int .i64 p]] w (Ret w (.bool (ropeOk x p))) := by
  have CI := Lib.hid (fun w => spec_l4Rope x p w)
  generalize ropeOk x p = z at CI ⊢
  go_enter Try.func14, Try.ntmps14
  go_wp2_with (go_at_call 105; refine (CI.out _).mono ?_; rintro e w' ⟨rfl, hb⟩; have hB : Below w.heap.size w w' := Below.thenn (by repeat (first | exact Below.refl _ _ | assumption | apply Below.drew | apply below_drewN | (refine Below.alloc ?_ (by first | omega | (simp; done) | (simp; omega)) _) | (refine Below.setCell ?_ (by first | omega | (simp; done) | (simp; omega)) _))) hb (by first | omega | (simp; done) | (simp; omega)); have hz : w.heap.size < w'.heap.size := (by have h := hb.size; (try simp at h); omega); obtain ⟨hc, hf⟩ := bcell hb; clear hb)
  go_ret
  exact ⟨rfl, (by repeat (first | exact Below.refl _ _ | assumption | apply Below.drew | apply below_drewN | (refine Below.alloc ?_ (by first | omega | (simp; done) | (simp; omega)) _) | (refine Below.setCell ?_ (by first | omega | (simp; done) | (simp; omega)) _)))⟩
theorem parts {w : World} {A : Option Addr} {n : Nat} {rows : List (List Int)} {place : Int} (h : RdL w A n rows) (ho : onOk rows place = true) :
    ∃ b off x y, A = some ⟨b, off, none⟩ ∧ b < w.heap.size ∧ spanN rows place + 1 < n ∧ n ≤ 8 ∧ w.cell? ⟨b, off + spanN rows place * 3, none⟩ = some (.int .i64 x) ∧ w.cell? ⟨b, off + (spanN rows place + 1) * 3, none⟩ = some (.int .i64 y) ∧
      (0 ≤ x ∧ x ≤ place ∧ place ≤ y ∧ y ≤ 3000) ∧ lX rows place = place - x ∧ lY rows place = y - place ∧ lL rows place = y - x := by
  obtain ⟨hl, h0, h1⟩ := onOk_iff.1 ho
  have L := lineOk_line hl
  have S := L.span h0 h1
  have hs := S.lt
  have a1 := L.at_ _ S.lt
  have a2 := L.at_ (spanN rows place) (by omega)
  have a3 := S.lo
  have a4 := S.hi
  have hn := h.2.1
  have hi := L.hi
  obtain ⟨b, off, rfl, hb, c0, _, _⟩ := h.rowN (k := spanN rows place) (by omega)
  obtain ⟨b', off', e', _, d0, _, _⟩ := h.rowN (k := spanN rows place + 1) (by omega)
  injection e' with e'
  injection e' with e1 e2
  subst e1 e2
  exact ⟨b, off, _, _, rfl, hb, by omega, by omega, c0, d0, ⟨a2.1, a3, a4, a1.2⟩, rfl, rfl, rfl⟩
set_option maxHeartbeats 2000000 in
theorem impl_bend (A : Option Addr) (n c : Nat) (rows : List (List Int)) (place : Int) (w : World) (h : RdL w A n rows) (hm : n ≤ 1048577) (ho : onOk rows place = true) :
    Calls Try.prog 99 #[.slice A n c, .int .i64 place] w (Ret w (.tuple #[.int .i64 (bdV rows place), .int .i64 (lL rows place)])) := by
  have cs := impl_spanAt A n c rows place w h hm ((lineOk_line (onOk_iff.1 ho).1).span (onOk_iff.1 ho).2.1 (onOk_iff.1 ho).2.2)
  obtain ⟨b, off, x, y, rfl, hb, hk, hn8, c0, d0, hx, e1, e2, e3⟩ := parts h ho
  unfold bdV
  rw [e1, e2, e3]
  have CS := Lib.hid cs
  clear cs ho e1 e2 e3 h
  generalize spanN rows place = k at *
  have hp := mulB (a := place - x) (b := y - place) (A := 3000) (B := 3000) (by omega) (by omega) (by omega) (by omega)
  have u1 : IntKind.i64.wrap ((place - x) * (y - place)) = (place - x) * (y - place) := IntWalk.i64_in _ (by omega)
  have u2 : IntKind.i64.wrap (y - x - (place - x)) = y - place := (IntWalk.i64_in _ (by omega)).trans (by omega)
  have u3 : IntKind.i64.wrap (y - x) = y - x := IntWalk.i64_in _ (by omega)
  have u4 : IntKind.i64.wrap (place - x) = place - x := IntWalk.i64_in _ (by omega)
  have u5 : IntKind.i64.wrap ((k : Int) + 1) = (k : Int) + 1 := IntWalk.i64_in _ (by omega)
  have k1 : 0 ≤ (k : Int) + 1 := by omega
  have k2 : ((k : Int) + 1).toNat = k + 1 := by omega
  go_enter Try.func99, Try.ntmps99
  go_wp2_with (go_at_call 118; refine (CS.out).mono ?_; rintro e w' ⟨rfl, rfl⟩)
  (refine wp_region_ext (by kernel_rfl) (by kernel_rfl) ?_; have hxe := ext_cells; (repeat (go_big_quiet_step (fail))); refine wpQuiet_nil ?_; intro w' hw'; obtain ⟨nx, hw''⟩ := hw'; have hbx := ext_out hw''; clear hw'' nx hxe; have hB : Below w.heap.size w w' := Below.thenn (by repeat (first | exact Below.refl _ _ | assumption | apply Below.drew | apply below_drewN | (refine Below.alloc ?_ (by first | omega | (simp; done) | (simp; omega)) _) | (refine Below.setCell ?_ (by first | omega | (simp; done) | (simp; omega)) _))) hbx (by first | omega | (simp; done) | (simp; omega)); have hz : w.heap.size ≤ w'.heap.size := hB.size; obtain ⟨hc, hf⟩ := bcell hbx; clear hbx)
  go_wp2_with fail
  go_ret2
  exact ⟨by first | rfl | (rw [u2]), hB⟩
set_option maxHeartbeats 2000000 in
theorem spec_l4Parts (A : Option Addr) (n c : Nat) (rows : List (List Int)) (place : Int) (w : World) (h : RdL w A n rows) (hm : n ≤ 1048577) (ho : onOk rows place = true) :
    Calls Try.prog 103 #[.slice A n c, .int .i64 place] w (Ret w (.tuple #[.int .i64 (lX rows place), .int .i64 (lY rows place)])) := by
  have cs := spec_l2Span A n c rows place w h hm ((lineOk_line (onOk_iff.1 ho).1).span (onOk_iff.1 ho).2.1 (onOk_iff.1 ho).2.2)
  obtain ⟨b, off, x, y, rfl, hb, hk, hn8, c0, d0, hx, e1, e2, e3⟩ := parts h ho
  rw [e1, e2]
  have CS := Lib.hid cs
  clear cs ho e1 e2 e3 h
  generalize spanN rows place = k at *
  have u3 : IntKind.i64.wrap (y - place) = y - place := IntWalk.i64_in _ (by omega)
  have u4 : IntKind.i64.wrap (place - x) = place - x := IntWalk.i64_in _ (by omega)
  have u5 : IntKind.i64.wrap ((k : Int) + 1) = (k : Int) + 1 := IntWalk.i64_in _ (by omega)
  have k1 : 0 ≤ (k : Int) + 1 := by omega
  have k2 : ((k : Int) + 1).toNat = k + 1 := by omega
  go_enter Try.func103, Try.ntmps103
  go_wp2_with (go_at_call 119; refine (CS.out).mono ?_; rintro e w' ⟨rfl, rfl⟩)
  (refine wp_region_ext (by kernel_rfl) (by kernel_rfl) ?_; have hxe := ext_cells; (repeat (go_big_quiet_step (fail))); refine wpQuiet_nil ?_; intro w' hw'; obtain ⟨nx, hw''⟩ := hw'; have hbx := ext_out hw''; clear hw'' nx hxe; have hB : Below w.heap.size w w' := Below.thenn (by repeat (first | exact Below.refl _ _ | assumption | apply Below.drew | apply below_drewN | (refine Below.alloc ?_ (by first | omega | (simp; done) | (simp; omega)) _) | (refine Below.setCell ?_ (by first | omega | (simp; done) | (simp; omega)) _))) hbx (by first | omega | (simp; done) | (simp; omega)); have hz : w.heap.size ≤ w'.heap.size := hB.size; obtain ⟨hc, hf⟩ := bcell hbx; clear hbx)
  go_wp2_with fail
  go_ret2
  exact ⟨rfl, hB⟩
set_option maxHeartbeats 2000000 in
theorem impl_sagAt (A : Option Addr) (n c : Nat) (rows : List (List Int)) (x p place : Int) (wo : World) (h : RdL wo A n rows) (hm : n ≤ 1048577) (ho : sagOk rows x p place = true) :
    Calls Try.prog 106 #[.slice A n c, .agg #[.int .i64 x, .int .i64 p], .int .i64 place] wo (Ret wo (.agg #[.int .i64 (x * bdV rows place), .int .i64 (2 * p)])) := by
  have hon : onOk rows place = true := by simp only [sagOk, Bool.and_eq_true] at ho; exact ho.1
  have CB := Lib.hid (fun w' (h' : RdL w' A n rows) => impl_bend A n c rows place w' h' hm hon)
  obtain ⟨⟨hl, h0, h1⟩, hr⟩ := sagOk_iff.1 ho
  have hb := wb (lineOk_line hl) hr h0 h1
  obtain ⟨r1, r2⟩ := ropeOk_iff.1 hr
  clear ho hon hl h0 h1 hr
  generalize bdV rows place = z at *
  generalize lL rows place = l at *
  have u1 : IntKind.i64.wrap (x * z) = x * z := IntWalk.i64_in _ (by omega)
  go_enter Try.func106, Try.ntmps106
  go_wp2_with fail
  (have hWV : Below wo.heap.size wo (wo.alloc (.cells #[.int .i64 x, .int .i64 p] 26)) := (Below.refl _ _).alloc (Nat.le_refl _) _; have hV0 : wo.heap.size < (wo.alloc (.cells #[.int .i64 x, .int .i64 p] 26)).heap.size := (by simp); have hv0 : (wo.alloc (.cells #[.int .i64 x, .int .i64 p] 26)).cell? ⟨wo.heap.size, 0, none⟩ = some (.int .i64 x) := (by rw [cell_of_row _ _ _ _ _ _ (heap_alloc_new wo _)]; rfl); have hv1 : (wo.alloc (.cells #[.int .i64 x, .int .i64 p] 26)).cell? ⟨wo.heap.size, 1, none⟩ = some (.int .i64 p) := (by rw [cell_of_row _ _ _ _ _ _ (heap_alloc_new wo _)]; rfl); have HHW := Lib.hid hWV; have HV1 : Hid (wo.heap.size + 1 = (wo.alloc (.cells #[.int .i64 x, .int .i64 p] 26)).heap.size) := (show _ = _ by simp); generalize wo.alloc (.cells #[.int .i64 x, .int .i64 p] 26) = w at hWV HHW hV0 HV1 hv0 hv1 ⊢; have HH := Lib.hid (h.below hWV); have hB : Below w.heap.size w w := Below.refl _ _; have hwz : wo.heap.size ≤ w.heap.size := hWV.size; (try rw [HV1.out]); clear hWV)
  go_wp2_with (go_at_call 99; refine (CB.out _ (by exact HH.out.below (by repeat (first | exact Below.refl _ _ | assumption | apply Below.drew | apply below_drewN | (refine Below.alloc ?_ (by first | omega | (simp; done) | (simp; omega)) _) | (refine Below.setCell ?_ (by first | omega | (simp; done) | (simp; omega)) _))))).mono ?_; rintro e w' ⟨rfl, hb⟩; have hB : Below w.heap.size w w' := Below.thenn (by repeat (first | exact Below.refl _ _ | assumption | apply Below.drew | apply below_drewN | (refine Below.alloc ?_ (by first | omega | (simp; done) | (simp; omega)) _) | (refine Below.setCell ?_ (by first | omega | (simp; done) | (simp; omega)) _))) hb (by first | omega | (simp; done) | (simp; omega)); have hz : w.heap.size < w'.heap.size := (by have h := hb.size; (try simp at h); omega); obtain ⟨hc, hf⟩ := bcell hb; clear hb)
  go_wp2_with fail
  go_light
  refine bodyPost_ret (v := .agg #[.int .i64 (x * z), .int .i64 (2 * p)]) ?_ rfl ⟨rfl, Below.thenn HHW.out (show Below w.heap.size w _ from (by repeat (first | exact Below.refl _ _ | assumption | apply Below.drew | apply below_drewN | (refine Below.alloc ?_ (by first | omega | (simp; done) | (simp; omega)) _) | (refine Below.setCell ?_ (by first | omega | (simp; done) | (simp; omega)) _)))) HHW.out.size⟩
  simp [results, Try.results106, go_sem, hc, hz]
end Go.Proofs.Ytjfmicemnoglkaa
