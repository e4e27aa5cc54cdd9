/- Chords: the chord at a place. -/
import Derived.Test.YtjfmicemnoglkaaChoA
namespace Go.Proofs.Ytjfmicemnoglkaa
open Go.RowKit
set_option linter.unusedVariables false
set_option linter.unusedSimpArgs false

theorem chparts {w : World} {A : Option Addr} {n : Nat} {rows : List (List Int)} {place : Int} (h : RdL w A n rows) (ho : onOk rows place = true) :
    ∃ b off x y hx hy, ∃ sx sy : Bool, A = some ⟨b, off, none⟩ ∧ b < w.heap.size ∧ spanN rows place + 1 < n ∧ n ≤ 8 ∧
      (w.cell? ⟨b, off + spanN rows place * 3, none⟩ = some (.int .i64 x) ∧ w.cell? ⟨b, off + spanN rows place * 3 + 1, none⟩ = some (.int .i64 hx) ∧ w.cell? ⟨b, off + spanN rows place * 3 + 2, none⟩ = some (.bool sx)) ∧
      (w.cell? ⟨b, off + (spanN rows place + 1) * 3, none⟩ = some (.int .i64 y) ∧ w.cell? ⟨b, off + (spanN rows place + 1) * 3 + 1, none⟩ = some (.int .i64 hy) ∧ w.cell? ⟨b, off + (spanN rows place + 1) * 3 + 2, none⟩ = some (.bool sy)) ∧
      (0 ≤ x ∧ x ≤ place ∧ place ≤ y ∧ y ≤ 3000 ∧ x < y) ∧ (0 ≤ hx ∧ hx ≤ 2000) ∧ (0 ≤ hy ∧ hy ≤ 2000) ∧ lL rows place = y - x ∧ chN rows place = hx * (y - x) + (hy - hx) * (place - x) ∧ hx * (y - place) + hy * (place - x) = chN rows place ∧
      (0 ≤ chN rows place ∧ chN rows place ≤ 12000000) ∧ (0 ≤ hx * (y - x) ∧ hx * (y - x) ≤ 6000000) ∧ (-6000000 ≤ (hy - hx) * (place - x) ∧ (hy - hx) * (place - x) ≤ 6000000) ∧ (0 ≤ hx * (y - place) ∧ hx * (y - place) ≤ 6000000) ∧ (0 ≤ hy * (place - x) ∧ hy * (place - x) ≤ 6000000) := by
  obtain ⟨hl, h0, h1⟩ := onOk_iff.1 ho
  have L := lineOk_line hl
  have S := L.span h0 h1
  have hs := S.lt
  have a1 := L.at_ _ S.lt
  have a2 := L.at_ (spanN rows place) (by omega)
  have a3 := S.lo
  have a4 := S.hi
  have a5 := L.rise (spanN rows place) S.lt
  have hn := h.2.1
  have hi := L.hi
  obtain ⟨b, off, rfl, hb, c0, c1, c2⟩ := h.rowN (k := spanN rows place) (by omega)
  obtain ⟨b', off', e', _, d0, d1, d2⟩ := h.rowN (k := spanN rows place + 1) (by omega)
  injection e' with e'
  injection e' with e1 e2
  subst e1 e2
  obtain ⟨p1, p2, p3, p4, p5⟩ := ch_bd L h0 h1
  exact ⟨b, off, _, _, _, _, _, _, rfl, hb, by omega, by omega, ⟨c0, c1, c2⟩, ⟨d0, d1, d2⟩, ⟨a2.1, a3, a4, a1.2, a5⟩, L.ht _ (by omega), L.ht _ S.lt, rfl, rfl, ch_spec L h0 h1, p1, p2, p3, p4, p5⟩
set_option maxRecDepth 100000 in
set_option maxHeartbeats 1000000 in
theorem impl_chordAt (A : Option Addr) (n c : Nat) (rows : List (List Int)) (place : Int) (w : World) (h : RdL w A n rows) (hm : n ≤ 1048577) (ho : onOk rows place = true) :
    Calls Try.prog 115 #[.slice A n c, .int .i64 place] w (Ret w (.agg #[.int .i64 (chN rows place), .int .i64 (lL rows place)])) := by
  have cs := fun w' (h' : RdL w' A n rows) => impl_spanAt A n c rows place w' h' hm ((lineOk_line (onOk_iff.1 ho).1).span (onOk_iff.1 ho).2.1 (onOk_iff.1 ho).2.2)
  have HH := Lib.hid h
  obtain ⟨b, off, x, y, hx, hy, sx, sy, rfl, hb, hk, hn8, ⟨c0, c1, c2⟩, ⟨d0, d1, d2⟩, hxy, hhx, hhy, e1, e2, _, q1, q2, q3, _, _⟩ := chparts h ho
  rw [e1, e2]
  rw [e2] at q1
  have CS := Lib.hid cs
  clear cs ho e1 e2 h
  generalize spanN rows place = k at *
  have u1 : IntKind.i64.wrap (hx * (y - x)) = hx * (y - x) := IntWalk.i64_in _ (by omega)
  have u2 : IntKind.i64.wrap ((hy - hx) * (place - x)) = (hy - hx) * (place - x) := IntWalk.i64_in _ (by omega)
  have u3 : IntKind.i64.wrap (y - x) = y - x := IntWalk.i64_in _ (by omega)
  have u4 : IntKind.i64.wrap (place - x) = place - x := IntWalk.i64_in _ (by omega)
  have u5 : IntKind.i64.wrap ((k : Int) + 1) = (k : Int) + 1 := IntWalk.i64_in _ (by omega)
  have u6 : IntKind.i64.wrap (hy - hx) = hy - hx := IntWalk.i64_in _ (by omega)
  have u7 : IntKind.i64.wrap (hx * (y - x) + (hy - hx) * (place - x)) = hx * (y - x) + (hy - hx) * (place - x) := IntWalk.i64_in _ (by omega)
  have k1 : 0 ≤ (k : Int) + 1 := by omega
  have k2 : ((k : Int) + 1).toNat = k + 1 := by omega
  have k3 : (k : Int) + 1 < (n : Int) := by omega
  have hB : Below w.heap.size w w := Below.refl _ _
  go_enter Try.func115, Try.ntmps115
  go_wp2_with (go_at_call 118; refine (CS.out _ (by exact HH.out.below (by repeat (first | exact Below.refl _ _ | assumption | apply Below.drew | apply below_drewN | (refine Below.alloc ?_ (by first | omega | (simp; done) | (simp; omega)) _) | (refine Below.setCell ?_ (by first | omega | (simp; done) | (simp; omega)) _))))).mono ?_; rintro e w' ⟨rfl, rfl⟩)
  have HW2 := Lib.hid (Blk.new w 115 #[.int .i64 0, .int .i64 0])
  have B2 := Lib.hid (hB.alloc (Nat.le_refl _) (.cells #[.int .i64 0, .int .i64 0] 115))
  have r0 := (B2.out.cell (p := ⟨b, off + k * 3, none⟩) hb).trans c0
  have r1 := (B2.out.cell (p := ⟨b, off + k * 3 + 1, none⟩) hb).trans c1
  have r2 := (B2.out.cell (p := ⟨b, off + k * 3 + 2, none⟩) hb).trans c2
  have t0 := (B2.out.cell (p := ⟨b, off + (k + 1) * 3, none⟩) hb).trans d0
  have t1 := (B2.out.cell (p := ⟨b, off + (k + 1) * 3 + 1, none⟩) hb).trans d1
  have t2 := (B2.out.cell (p := ⟨b, off + (k + 1) * 3 + 2, none⟩) hb).trans d2
  have hgv : w.heap.size < (w.alloc (.cells #[.int .i64 0, .int .i64 0] 115)).heap.size := HW2.out.lt
  have hb2 : b < (w.alloc (.cells #[.int .i64 0, .int .i64 0] 115)).heap.size := by omega
  have y0 := HW2.out.frozen 0
  have y1 := HW2.out.frozen 1
  generalize w.alloc (.cells #[.int .i64 0, .int .i64 0] 115) = v at *
  have z0 : v.cell? ⟨w.heap.size, 0, none⟩ = some (.int .i64 0) := by simpa using HW2.out.cell 0
  have z1 : v.cell? ⟨w.heap.size, 1, none⟩ = some (.int .i64 0) := by simpa using HW2.out.cell 1
  have hBv := B2.out
  have hkn : k < n := by omega
  go_region
  all_goals go_wp2_with fail
  all_goals
    have T5 := (HW2.out.set_ 0 (.int .i64 (hx * (y - x) + (hy - hx) * (place - x)))).set_ 1 (.int .i64 (y - x))
    have s0 := T5.cell 0
    have s1 := T5.cell 1
    have hlt := T5.lt
    have hB5 : Below w.heap.size w ((v.setCell ⟨w.heap.size, 0, none⟩ (.int .i64 (hx * (y - x) + (hy - hx) * (place - x)))).setCell ⟨w.heap.size, 1, none⟩ (.int .i64 (y - x))) := (by repeat (first | exact Below.refl _ _ | assumption | apply Below.drew | apply below_drewN | (refine Below.alloc ?_ (by first | omega | (simp; done) | (simp; omega)) _) | (refine Below.setCell ?_ (by first | omega | (simp; done) | (simp; omega)) _)))
    simp only [List.getElem?_toArray, Array.getElem?_setIfInBounds] at s0 s1
    simp at s0 s1
    go_light
    generalize (v.setCell ⟨w.heap.size, 0, none⟩ (.int .i64 (hx * (y - x) + (hy - hx) * (place - x)))).setCell ⟨w.heap.size, 1, none⟩ (.int .i64 (y - x)) = v5 at *
    have E0 : ∀ o1 o2 : Obj, ((v5.alloc o1).alloc o2).cell? ⟨w.heap.size, 0, none⟩ = some (.int .i64 (hx * (y - x) + (hy - hx) * (place - x))) := fun o1 o2 => ((((Below.refl v5.heap.size v5).alloc (Nat.le_refl _) o1).alloc (by simp) o2).cell (p := ⟨w.heap.size, 0, none⟩) hlt).trans s0
    have E1 : ∀ o1 o2 : Obj, ((v5.alloc o1).alloc o2).cell? ⟨w.heap.size, 1, none⟩ = some (.int .i64 (y - x)) := fun o1 o2 => ((((Below.refl v5.heap.size v5).alloc (Nat.le_refl _) o1).alloc (by simp) o2).cell (p := ⟨w.heap.size, 1, none⟩) hlt).trans s1
    have hz5 := hB5.size
    (refine bodyPost_ret (v := .agg #[.int .i64 (hx * (y - x) + (hy - hx) * (place - x)), .int .i64 (y - x)]) ?_ rfl ⟨rfl, (by repeat (first | exact Below.refl _ _ | assumption | apply Below.drew | apply below_drewN | (refine Below.alloc ?_ (by first | omega | (simp; done) | (simp; omega)) _) | (refine Below.setCell ?_ (by first | omega | (simp; done) | (simp; omega)) _)))⟩)
    simp [results, Try.results115, go_sem, E0, E1]
end Go.Proofs.Ytjfmicemnoglkaa
