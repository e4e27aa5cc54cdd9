/- How the rope presses: the slopes of two spans. -/
import Derived.Test.YtjfmicemnoglkaaSafA
namespace Go.Proofs.Ytjfmicemnoglkaa
open Go.RowKit
set_option linter.unusedVariables false
set_option linter.unusedSimpArgs false

theorem slope_rows {w : World} {A : Option Addr} {n i : Nat} {rows : List (List Int)} (h : RdL w A n rows) (L : Line rows) (hi : i + 1 < n) :
    ∃ b off x0 x1 y0 y1, A = some ⟨b, off, none⟩ ∧ b < w.heap.size ∧ w.cell? ⟨b, off + i * 3, none⟩ = some (.int .i64 x0) ∧ w.cell? ⟨b, off + i * 3 + 1, none⟩ = some (.int .i64 y0) ∧ w.cell? ⟨b, off + (i + 1) * 3, none⟩ = some (.int .i64 x1) ∧ w.cell? ⟨b, off + (i + 1) * 3 + 1, none⟩ = some (.int .i64 y1) ∧
      (0 ≤ x0 ∧ x0 < x1 ∧ x1 ≤ 3000) ∧ (0 ≤ y0 ∧ y0 ≤ 2000) ∧ (0 ≤ y1 ∧ y1 ≤ 2000) ∧ slN rows i = ((y1 - y0) * 1000).tdiv (x1 - x0) := by
  have hn := h.2.1
  obtain ⟨b, off, e1, hb, d0, d1, _⟩ := h.rowN (k := i) (by omega)
  obtain ⟨b', off', e2, _, g0, g1, _⟩ := h.rowN (k := i + 1) hi
  rw [e1] at e2
  injection e2 with e2
  injection e2 with e3 e4
  subst e3 e4
  have a1 := L.at_ i (by omega)
  have a2 := L.at_ (i + 1) (by omega)
  have a3 := L.rise i (by omega)
  exact ⟨b, off, _, _, _, _, e1, hb, d0, d1, g0, g1, by omega, L.ht i (by omega), L.ht (i + 1) (by omega), rfl⟩
set_option maxRecDepth 100000 in
set_option maxHeartbeats 4000000 in
theorem impl_slope (A : Option Addr) (n c q i : Nat) (z : Int) (rows : List (List Int)) (w : World) (h : RdL w A n rows) (hl : lineOk rows = true) (hz : z = (i : Int)) (hi : i + 1 < n) (hq : w.cell? ⟨q, 0, none⟩ = some (.slice A n c)) :
    Calls Try.prog 133 #[.int .i64 z, .pointer (some ⟨q, 0, none⟩)] w (Ret w (.int .i64 (slN rows i))) := by
  subst hz
  have L := lineOk_line hl
  have hn := h.2.1
  have hhi := L.hi
  obtain ⟨b, off, x0, x1, y0, y1, rfl, hb, d0, d1, g0, g1, hx, hy0, hy1, es⟩ := slope_rows h L hi
  have sb := sl_bd L (i := i) (by omega)
  rw [es] at sb ⊢
  have hql := World.block_lt_of_cell? _ _ hq
  have hn8 : n ≤ 8 := by omega
  clear es L hl h hn
  have u1 : IntKind.i64.wrap ((i : Int) + 1) = (i : Int) + 1 := IntWalk.i64_in _ (by omega)
  have u2 : IntKind.i64.wrap (y1 - y0) = y1 - y0 := IntWalk.i64_in _ (by omega)
  have u3 : IntKind.i64.wrap ((y1 - y0) * 1000) = (y1 - y0) * 1000 := IntWalk.i64_in _ (by omega)
  have u4 : IntKind.i64.wrap (x1 - x0) = x1 - x0 := IntWalk.i64_in _ (by omega)
  have u5 : IntKind.i64.wrap (((y1 - y0) * 1000).tdiv (x1 - x0)) = ((y1 - y0) * 1000).tdiv (x1 - x0) := IntWalk.i64_in _ (by omega)
  have e1 : (x1 - x0 == 0) = false := by simp; omega
  have k1 : ((i : Int) + 1).toNat = i + 1 := by omega
  have k2 : 0 ≤ (i : Int) + 1 := by omega
  have hB : Below w.heap.size w w := Below.refl _ _
  go_enter Try.func133, Try.ntmps133
  go_wp2_with fail
  (refine wp_region_ext (by kernel_rfl) (by kernel_rfl) ?_; have hxe := ext_cells; (repeat (go_big_quiet_step (fail))); refine wpQuiet_nil ?_; intro w' hw'; obtain ⟨nx, hw''⟩ := hw'; have hbx := ext_out hw''; clear hw'' nx hxe; have hB : Below w.heap.size w w' := Below.thenn (by repeat (first | exact Below.refl _ _ | assumption | apply Below.drew | apply below_drewN | (refine Below.alloc ?_ (by first | omega | (simp; done) | (simp; omega)) _) | (refine Below.setCell ?_ (by first | omega | (simp; done) | (simp; omega)) _))) hbx (by first | omega | (simp; done) | (simp; omega)); have hz : w.heap.size ≤ w'.heap.size := hB.size; obtain ⟨hc, hf⟩ := bcell hbx; clear hbx)
  go_wp2_with fail
  go_ret
  exact ⟨rfl, hB⟩
set_option maxRecDepth 100000 in
set_option maxHeartbeats 4000000 in
theorem spec_l6Slope (A : Option Addr) (n c i : Nat) (z : Int) (rows : List (List Int)) (w : World) (h : RdL w A n rows) (hl : lineOk rows = true) (hz : z = (i : Int)) (hi : i + 1 < n) :
    Calls Try.prog 134 #[.slice A n c, .int .i64 z] w (Ret w (.int .i64 (slN rows i))) := by
  subst hz
  have L := lineOk_line hl
  have hn := h.2.1
  have hhi := L.hi
  obtain ⟨b, off, x0, x1, y0, y1, rfl, hb, d0, d1, g0, g1, hx, hy0, hy1, es⟩ := slope_rows h L hi
  have sb := sl_bd L (i := i) (by omega)
  rw [Int.mul_comm] at es
  rw [es] at sb ⊢
  have hn8 : n ≤ 8 := by omega
  clear es L hl h hn
  have u1 : IntKind.i64.wrap ((i : Int) + 1) = (i : Int) + 1 := IntWalk.i64_in _ (by omega)
  have u2 : IntKind.i64.wrap (y1 - y0) = y1 - y0 := IntWalk.i64_in _ (by omega)
  have u3 : IntKind.i64.wrap (1000 * (y1 - y0)) = 1000 * (y1 - y0) := IntWalk.i64_in _ (by omega)
  have u4 : IntKind.i64.wrap (x1 - x0) = x1 - x0 := IntWalk.i64_in _ (by omega)
  have u5 : IntKind.i64.wrap ((1000 * (y1 - y0)).tdiv (x1 - x0)) = (1000 * (y1 - y0)).tdiv (x1 - x0) := IntWalk.i64_in _ (by omega)
  have e1 : (x1 - x0 == 0) = false := by simp; omega
  have k1 : ((i : Int) + 1).toNat = i + 1 := by omega
  have k2 : 0 ≤ (i : Int) + 1 := by omega
  have hB : Below w.heap.size w w := Below.refl _ _
  go_enter Try.func134, Try.ntmps134
  go_wp2_with fail
  (refine wp_region_ext (by kernel_rfl) (by kernel_rfl) ?_; have hxe := ext_cells; (repeat (go_big_quiet_step (fail))); refine wpQuiet_nil ?_; intro w' hw'; obtain ⟨nx, hw''⟩ := hw'; have hbx := ext_out hw''; clear hw'' nx hxe; have hB : Below w.heap.size w w' := Below.thenn (by repeat (first | exact Below.refl _ _ | assumption | apply Below.drew | apply below_drewN | (refine Below.alloc ?_ (by first | omega | (simp; done) | (simp; omega)) _) | (refine Below.setCell ?_ (by first | omega | (simp; done) | (simp; omega)) _))) hbx (by first | omega | (simp; done) | (simp; omega)); have hz : w.heap.size ≤ w'.heap.size := hB.size; obtain ⟨hc, hf⟩ := bcell hbx; clear hbx)
  go_wp2_with fail
  go_ret
  exact ⟨rfl, hB⟩
end Go.Proofs.Ytjfmicemnoglkaa
