/- The grips: the weakest grip. -/
import Derived.Test.YtfnpbmndkbaodaaGripE
namespace Go.Proofs.Ytfnpbmndkbaodaa
open Go.RowKit
set_option linter.unusedVariables false
set_option linter.unusedSimpArgs false

def wkB (r b : List Int) : Bool := decide (fld r 1 < fld b 1 ∨ fld r 1 = fld b 1 ∧ fld b 2 < fld r 2)
def wk : List Int → List (List Int) → List Int
  | b, [] => b
  | b, r :: rs => wk (if wkB r b then r else b) rs
def wkOk (rows : List (List Int)) : Bool := good rows && decide (rows.length ≠ 0)
def wkV (rows : List (List Int)) : Int := if wkOk rows then fld (wk (rows.headD []) rows) 0 else 0
theorem wk_yes {b r : List Int} {rows : List (List Int)} {k : Nat} (h : rows[k]? = some r) (hb : wkB r b = true) : wk r (rows.drop (k + 1)) = wk b (rows.drop k) := by
  rw [drop_atR h]; simp [wk, hb]
theorem wk_no {b r : List Int} {rows : List (List Int)} {k : Nat} (h : rows[k]? = some r) (hb : wkB r b = false) : wk b (rows.drop (k + 1)) = wk b (rows.drop k) := by
  rw [drop_atR h]; simp [wk, hb]
theorem wk_end {b : List Int} {rows : List (List Int)} {n k : Nat} (h : rows.length = n) (hk : n ≤ k) : wk b (rows.drop k) = b := by
  rw [List.drop_of_length_le (by omega)]; rfl
theorem wk_self (r : List Int) : wkB r r = false := by simp [wkB]
theorem wk_head {rows : List (List Int)} {r : List Int} (h : rows[0]? = some r) : rows.headD [] = r := by
  cases rows with
  | nil => simp at h
  | cons a t => simp at h; simp [h]
theorem wkB_yes {x0 x1 x2 x3 x4 y0 y1 y2 y3 y4 : Int} (h : x1 < y1 ∨ x1 = y1 ∧ y2 < x2) : wkB [x0, x1, x2, x3, x4] [y0, y1, y2, y3, y4] = true := by simp [wkB, fld, h]
theorem wkB_no {x0 x1 x2 x3 x4 y0 y1 y2 y3 y4 : Int} (h : ¬ (x1 < y1 ∨ x1 = y1 ∧ y2 < x2)) : wkB [x0, x1, x2, x3, x4] [y0, y1, y2, y3, y4] = false := by
  unfold wkB; simpa [fld] using h
theorem Blk.over5 {w : World} {g : Nat} {t : TypeId} {a0 a1 a2 a3 a4 : Value} (h : Blk w g t #[a0, a1, a2, a3, a4]) (b0 b1 b2 b3 b4 : Value) :
    Blk (((((w.setCell ⟨g, 0, none⟩ b0).setCell ⟨g, 1, none⟩ b1).setCell ⟨g, 2, none⟩ b2).setCell ⟨g, 3, none⟩ b3).setCell ⟨g, 4, none⟩ b4) g t #[b0, b1, b2, b3, b4] := by
  have := ((((h.set_ 0 b0).set_ 1 b1).set_ 2 b2).set_ 3 b3).set_ 4 b4
  simpa using this
theorem Below.over5 {B : Nat} {a w : World} {g : Nat} (h : Below B a w) (hg : B ≤ g) (b0 b1 b2 b3 b4 : Value) :
    Below B a (((((w.setCell ⟨g, 0, none⟩ b0).setCell ⟨g, 1, none⟩ b1).setCell ⟨g, 2, none⟩ b2).setCell ⟨g, 3, none⟩ b3).setCell ⟨g, 4, none⟩ b4) :=
  ((((h.setCell (p := ⟨g, 0, none⟩) hg _).setCell (p := ⟨g, 1, none⟩) hg _).setCell (p := ⟨g, 2, none⟩) hg _).setCell (p := ⟨g, 3, none⟩) hg _).setCell (p := ⟨g, 4, none⟩) hg _
theorem size_over5 {w : World} {g : Nat} (b0 b1 b2 b3 b4 : Value) : (((((w.setCell ⟨g, 0, none⟩ b0).setCell ⟨g, 1, none⟩ b1).setCell ⟨g, 2, none⟩ b2).setCell ⟨g, 3, none⟩ b3).setCell ⟨g, 4, none⟩ b4).heap.size = w.heap.size := by simp [World.setCell]
theorem lt_alloc {w : World} {n : Nat} (h : n < w.heap.size) (o : Obj) : n < (w.alloc o).heap.size := by simp; omega
set_option maxHeartbeats 2000000 in
theorem impl_WeakestGrip (A : Option Addr) (n c : Nat) (rows : List (List Int)) (w : World) (h : RdR w 5 A n rows) (hm : n ≤ 1048577) :
    Calls Try.prog 13 #[.slice A n c] w (Ret w (.tuple #[.int .i64 (wkV rows), .bool (wkOk rows)])) := by
  have hl := Lib.hid h.2.2
  have cg := fun w' (h' : RdR w' 5 A n rows) => impl_AreGrips A n c rows w' h' hm
  rcases hg : good rows with _ | _
  · rw [hg] at cg
    have CG := Lib.hid cg
    rw [show wkV rows = 0 by simp [wkV, wkOk, hg], show wkOk rows = false by simp [wkOk, hg]]
    clear cg hg
    go_enter Try.func13, Try.ntmps13
    go_wp2_with (go_at_call 41; refine (CG.out _ h).mono ?_; rintro e w' ⟨rfl, hb⟩; have hB : Below w.heap.size w w' := Below.thenn (by repeat (first | exact Below.refl _ _ | assumption | apply Below.drew | apply below_drewN | (refine Below.alloc ?_ (by first | omega | (simp; done) | (simp; omega)) _) | (refine Below.setCell ?_ (by first | omega | (simp; done) | (simp; omega)) _))) hb (by first | omega | (simp; done) | (simp; omega)); have hz : w.heap.size ≤ w'.heap.size := hB.size; (try (have hz1 : w.heap.size + 1 ≤ w'.heap.size := (by have h := hb.size; (try simp at h); omega))); obtain ⟨hc, hf⟩ := bcell hb; clear hb)
    go_ret2
    exact ⟨rfl, (by repeat (first | exact Below.refl _ _ | assumption | apply Below.drew | apply below_drewN | (refine Below.alloc ?_ (by first | omega | (simp; done) | (simp; omega)) _) | (refine Below.setCell ?_ (by first | omega | (simp; done) | (simp; omega)) _)))⟩
  rw [hg] at cg
  have CG := Lib.hid cg
  clear cg
  by_cases h0n : n = 0
  · subst h0n
    rw [show wkV rows = 0 by simp [wkV, wkOk, hl.out], show wkOk rows = false by simp [wkOk, hl.out]]
    clear hg
    go_enter Try.func13, Try.ntmps13
    go_wp2_with (go_at_call 41; refine (CG.out _ h).mono ?_; rintro e w' ⟨rfl, hb⟩; have hB : Below w.heap.size w w' := Below.thenn (by repeat (first | exact Below.refl _ _ | assumption | apply Below.drew | apply below_drewN | (refine Below.alloc ?_ (by first | omega | (simp; done) | (simp; omega)) _) | (refine Below.setCell ?_ (by first | omega | (simp; done) | (simp; omega)) _))) hb (by first | omega | (simp; done) | (simp; omega)); have hz : w.heap.size ≤ w'.heap.size := hB.size; (try (have hz1 : w.heap.size + 1 ≤ w'.heap.size := (by have h := hb.size; (try simp at h); omega))); obtain ⟨hc, hf⟩ := bcell hb; clear hb)
    go_ret2
    exact ⟨rfl, (by repeat (first | exact Below.refl _ _ | assumption | apply Below.drew | apply below_drewN | (refine Below.alloc ?_ (by first | omega | (simp; done) | (simp; omega)) _) | (refine Below.setCell ?_ (by first | omega | (simp; done) | (simp; omega)) _)))⟩
  have h0 : 0 < n := by omega
  obtain ⟨b, off, x0, x1, x2, x3, x4, rfl, hr, hblt, c0, c1, c2, c3, c4⟩ := h.row5 h0
  have hok : wkOk rows = true := by simp [wkOk, hg, hl.out]; omega
  rw [show wkV rows = fld (wk [x0, x1, x2, x3, x4] (rows.drop 0)) 0 by unfold wkV; rw [hok, if_pos rfl, wk_head hr, List.drop_zero], hok]
  generalize hE : wk [x0, x1, x2, x3, x4] (rows.drop 0) = E
  have HE := Lib.hid hE
  have h0b : ((n : Int) == 0) = false := by simp; omega
  have h0z : (0 : Int) < (n : Int) := by omega
  simp only [Nat.zero_mul, Nat.add_zero] at c0 c1 c2 c3 c4
  clear hok hg hE hr h0n
  go_enter Try.func13, Try.ntmps13
  go_wp2_with (go_at_call 41; refine (CG.out _ h).mono ?_; rintro e w' ⟨rfl, hb⟩; have hB : Below w.heap.size w w' := Below.thenn (by repeat (first | exact Below.refl _ _ | assumption | apply Below.drew | apply below_drewN | (refine Below.alloc ?_ (by first | omega | (simp; done) | (simp; omega)) _) | (refine Below.setCell ?_ (by first | omega | (simp; done) | (simp; omega)) _))) hb (by first | omega | (simp; done) | (simp; omega)); have hz : w.heap.size ≤ w'.heap.size := hB.size; (try (have hz1 : w.heap.size + 1 ≤ w'.heap.size := (by have h := hb.size; (try simp at h); omega))); obtain ⟨hc, hf⟩ := bcell hb; rw [← hc b _ hblt] at c0 c1 c2 c3 c4; have hbw : b < w'.heap.size := Nat.lt_of_lt_of_le hblt hb.size; clear hb)
  obtain ⟨w1, rfl⟩ : ∃ w1, w1 = w' := ⟨_, rfl⟩
  go_loopg [20] n (fun gg i wr => ∃ (k : Nat) (y0 y1 y2 y3 y4 : Int), k ≤ n ∧ n ≤ k + gg ∧ i = .int .i64 k ∧ Below w.heap.size w wr ∧ w1.heap.size < wr.heap.size ∧ Hid (Blk wr w1.heap.size 48 #[.int .i64 y0, .int .i64 y1, .int .i64 y2, .int .i64 y3, .int .i64 y4]) ∧ Hid (wk [y0, y1, y2, y3, y4] (rows.drop k) = E))
  case atStart => exact ⟨0, x0, x1, x2, x3, x4, by omega, by omega, rfl, (by repeat (first | exact Below.refl _ _ | assumption | apply Below.drew | apply below_drewN | (refine Below.alloc ?_ (by first | omega | (simp; done) | (simp; omega)) _) | (refine Below.setCell ?_ (by first | omega | (simp; done) | (simp; omega)) _))), by simp, Blk.new _ _ _, HE.out⟩
  case round =>
    clear c0 c1 c2 c3 c4 hc hf
    obtain ⟨k, y0, y1, y2, y3, y4, hk1, hk2, rfl, hBr, hzr, hbk, ha⟩ := hrel
    have b0 := hbk.out.cell 0
    have b1 := hbk.out.cell 1
    have b2 := hbk.out.cell 2
    have b3 := hbk.out.cell 3
    have b4 := hbk.out.cell 4
    have f0 := hbk.out.frozen 0
    have f1 := hbk.out.frozen 1
    have f2 := hbk.out.frozen 2
    have f3 := hbk.out.frozen 3
    have f4 := hbk.out.frozen 4
    simp at b0 b1 b2 b3 b4
    by_cases hlt : k < n
    · obtain ⟨b', off', z0, z1, z2, z3, z4, e', hr, _, c0, c1, c2, c3, c4⟩ := h.row5 hlt
      injection e' with e'
      injection e' with e1 e2
      subst e1 e2
      rw [← hBr.cell (p := ⟨b, _, none⟩) hblt] at c0 c1 c2 c3 c4
      have hbr : b < wr.heap.size := by omega
      have HR := Lib.hid hr
      have HH := Lib.hid h
      clear hr h
      rcases Int.lt_trichotomy z1 y1 with hq | hq | hq
      · have HW := Lib.hid (wkB_yes (x0 := z0) (x1 := z1) (x2 := z2) (x3 := z3) (x4 := z4) (y0 := y0) (y1 := y1) (y2 := y2) (y3 := y3) (y4 := y4) (.inl hq))
        go_wp2_with fail
        go_roundg (n - (k + 1))
        case measure => omega
        case rel => exact ⟨k + 1, z0, z1, z2, z3, z4, by omega, by omega, by go_num, (Below.over5 hBr hz _ _ _ _ _).alloc (by rw [size_over5]; omega) _, lt_alloc (by rw [size_over5]; exact hzr) _, (Blk.over5 hbk.out _ _ _ _ _).alloc _, (wk_yes HR.out HW.out).trans ha.out⟩
      · subst hq
        by_cases hq2 : y2 < z2
        · have HW := Lib.hid (wkB_yes (x0 := z0) (x1 := z1) (x2 := z2) (x3 := z3) (x4 := z4) (y0 := y0) (y1 := z1) (y2 := y2) (y3 := y3) (y4 := y4) (.inr ⟨rfl, hq2⟩))
          go_wp2_with fail
          go_roundg (n - (k + 1))
          case measure => omega
          case rel => exact ⟨k + 1, z0, z1, z2, z3, z4, by omega, by omega, by go_num, (Below.over5 hBr hz _ _ _ _ _).alloc (by rw [size_over5]; omega) _, lt_alloc (by rw [size_over5]; exact hzr) _, (Blk.over5 hbk.out _ _ _ _ _).alloc _, (wk_yes HR.out HW.out).trans ha.out⟩
        · have HW := Lib.hid (wkB_no (x0 := z0) (x1 := z1) (x2 := z2) (x3 := z3) (x4 := z4) (y0 := y0) (y1 := z1) (y2 := y2) (y3 := y3) (y4 := y4) (by omega))
          go_wp2_with fail
          go_roundg (n - (k + 1))
          case measure => omega
          case rel => exact ⟨k + 1, y0, z1, y2, y3, y4, by omega, by omega, by go_num, hBr.alloc (by omega) _, lt_alloc hzr _, hbk.out.alloc _, (wk_no HR.out HW.out).trans ha.out⟩
      · have HW := Lib.hid (wkB_no (x0 := z0) (x1 := z1) (x2 := z2) (x3 := z3) (x4 := z4) (y0 := y0) (y1 := y1) (y2 := y2) (y3 := y3) (y4 := y4) (by omega))
        have hne : (z1 == y1) = false := by simp; omega
        go_wp2_with fail
        go_roundg (n - (k + 1))
        case measure => omega
        case rel => exact ⟨k + 1, y0, y1, y2, y3, y4, by omega, by omega, by go_num, hBr.alloc (by omega) _, lt_alloc hzr _, hbk.out.alloc _, (wk_no HR.out HW.out).trans ha.out⟩
    · go_wp2_with fail
      go_ret2
      exact ⟨ret_ib (by rw [← ha.out, wk_end hl.out (by omega)]; rfl) rfl, hBr⟩
end Go.Proofs.Ytfnpbmndkbaodaa
