/- Chords: the reference's chord at a place. -/
import Derived.Test.YtjfmicemnoglkaaChoB
namespace Go.Proofs.Ytjfmicemnoglkaa
open Go.RowKit
set_option linter.unusedVariables false
set_option linter.unusedSimpArgs false

set_option maxRecDepth 100000 in
set_option maxHeartbeats 2000000 in
theorem spec_l2Chord (A : Option Addr) (n c : Nat) (rows : List (List Int)) (place : Int) (w : World) (h : RdL w A n rows) (hm : n ≤ 1048577) (ho : onOk rows place = true) :
    Calls Try.prog 117 #[.slice A n c, .int .i64 place] w (Ret w (.tuple #[.int .i64 (chN rows place), .int .i64 (lL rows place)])) := by
  have cs := fun w' (h' : RdL w' A n rows) => spec_l2Span A n c rows place w' h' hm ((lineOk_line (onOk_iff.1 ho).1).span (onOk_iff.1 ho).2.1 (onOk_iff.1 ho).2.2)
  have HH := Lib.hid h
  obtain ⟨b, off, x, y, hx, hy, sx, sy, rfl, hb, hk, hn8, ⟨c0, c1, c2⟩, ⟨d0, d1, d2⟩, hxy, hhx, hhy, e1, _, e2, q1, _, _, q2, q3⟩ := chparts h ho
  rw [e1, ← e2]
  rw [← e2] at q1
  have CS := Lib.hid cs
  clear cs ho e1 e2 h
  generalize spanN rows place = k at *
  have u1 : IntKind.i64.wrap (hx * (y - place)) = hx * (y - place) := IntWalk.i64_in _ (by omega)
  have u2 : IntKind.i64.wrap (hy * (place - x)) = hy * (place - x) := IntWalk.i64_in _ (by omega)
  have u3 : IntKind.i64.wrap (y - x) = y - x := IntWalk.i64_in _ (by omega)
  have u4 : IntKind.i64.wrap (place - x) = place - x := IntWalk.i64_in _ (by omega)
  have u5 : IntKind.i64.wrap ((k : Int) + 1) = (k : Int) + 1 := IntWalk.i64_in _ (by omega)
  have u6 : IntKind.i64.wrap (y - place) = y - place := IntWalk.i64_in _ (by omega)
  have u7 : IntKind.i64.wrap (hx * (y - place) + hy * (place - x)) = hx * (y - place) + hy * (place - x) := IntWalk.i64_in _ (by omega)
  have k1 : 0 ≤ (k : Int) + 1 := by omega
  have k2 : ((k : Int) + 1).toNat = k + 1 := by omega
  have k3 : (k : Int) + 1 < (n : Int) := by omega
  have hkn : k < n := by omega
  have hB : Below w.heap.size w w := Below.refl _ _
  go_enter Try.func117, Try.ntmps117
  go_wp2_with fail
  go_region_held3 (fun w' => w'.cell? ⟨b, off + k * 3, none⟩ = some (.int .i64 x) ∧ w'.cell? ⟨b, off + k * 3 + 1, none⟩ = some (.int .i64 hx) ∧ w'.cell? ⟨b, off + k * 3 + 2, none⟩ = some (.bool sx) ∧ w'.cell? ⟨b, off + (k + 1) * 3, none⟩ = some (.int .i64 y) ∧ w'.cell? ⟨b, off + (k + 1) * 3 + 1, none⟩ = some (.int .i64 hy) ∧ w'.cell? ⟨b, off + (k + 1) * 3 + 2, none⟩ = some (.bool sy)) (((try dsimp only); (repeat' apply And.intro) <;> first | assumption | (refine (hc _ _ ?_).trans ?_ <;> first | assumption | omega | (simp; done) | (simp; omega) | (simp [*]; done) | (simp [World.cell?_alloc_some, *]; done)) | (simp [*, World.cell?_alloc_some, World.cell?_setCell_far]; done) | (simp; omega) | (exact (by repeat (first | exact Below.refl _ _ | assumption | apply Below.drew | apply below_drewN | (refine Below.alloc ?_ (by first | omega | (simp; done) | (simp; omega)) _) | (refine Below.setCell ?_ (by first | omega | (simp; done) | (simp; omega)) _)))))) (((go_at_call 119; refine (CS.out _ (by exact HH.out.below (by repeat (first | exact Below.refl _ _ | assumption | apply Below.drew | apply below_drewN | (refine Below.alloc ?_ (by first | omega | (simp; done) | (simp; omega)) _) | (refine Below.setCell ?_ (by first | omega | (simp; done) | (simp; omega)) _))))).mono ?_; rintro e w' ⟨rfl, rfl⟩)))
  all_goals go_wp2_with fail
  all_goals go_quiet (fail)
  all_goals go_wp2_with fail
  all_goals go_ret2
  all_goals exact ⟨rfl, (by repeat (first | exact Below.refl _ _ | assumption | apply Below.drew | apply below_drewN | (refine Below.alloc ?_ (by first | omega | (simp; done) | (simp; omega)) _) | (refine Below.setCell ?_ (by first | omega | (simp; done) | (simp; omega)) _)))⟩
end Go.Proofs.Ytjfmicemnoglkaa
