/- The grips: a grip is opened or tested, the reference's. -/
import Derived.Test.YtfnpbmndkbaodaaGripJ
namespace Go.Proofs.Ytfnpbmndkbaodaa
open Go.RowKit
set_option linter.unusedVariables false
set_option linter.unusedSimpArgs false

def opR (r : List Int) (slip : Int) : List Int := [fld r 0, fld r 1, fld r 2 + slip, fld r 3 + 1, fld r 4]
def rowAt (rows : List (List Int)) (cab : Int) : List Int := rows.getD (atV rows cab).toNat []
def opL (rows : List (List Int)) (cab slip : Int) : List (List Int) := rows.set (atV rows cab).toNat (opR (rowAt rows cab) slip)
def opOk (rows : List (List Int)) (cab slip : Int) : Bool := good rows && (decide (0 ≤ atV rows cab) && (inr slip 0 99 && good (opL rows cab slip)))
def opV (rows : List (List Int)) (cab slip : Int) : List (List Int) := if opOk rows cab slip then opL rows cab slip else []
def tgL (rows : List (List Int)) (cab force day : Int) : List (List Int) := rows.set (atV rows cab).toNat [cab, force, 0, 0, day]
def tgOk (rows : List (List Int)) (cab force day : Int) : Bool := good rows && (decide (0 ≤ atV rows cab) && (decide (fld (rowAt rows cab) 4 ≤ day) && good (tgL rows cab force day)))
def tgV (rows : List (List Int)) (cab force day : Int) : List (List Int) := if tgOk rows cab force day then tgL rows cab force day else []
theorem opV_len {rows : List (List Int)} {cab slip : Int} (h : rows.length ≤ 1048576) : (opV rows cab slip).length ≤ 1048576 := by
  unfold opV opL; split <;> simp <;> omega
theorem tgV_len {rows : List (List Int)} {cab force day : Int} (h : rows.length ≤ 1048576) : (tgV rows cab force day).length ≤ 1048576 := by
  unfold tgV tgL; split <;> simp <;> omega
/-- The cabin has no grip, or it has grip number j. -/
theorem atV_at (rows : List (List Int)) (cab : Int) : atV rows cab = -1 ∨ ∃ (j : Nat) (r : List Int), atV rows cab = (j : Int) ∧ rows[j]? = some r ∧ rowAt rows cab = r := by
  rcases idxR_at (numP cab) rows with h | ⟨j, r, h1, h2, _⟩
  · exact .inl h
  · refine .inr ⟨j, r, h1, h2, ?_⟩
    unfold rowAt atV
    rw [h1]
    simp [List.getD, h2]
theorem RetRB.lit {w : World} {e : TypeId} {F : Nat} {w0 : World} (h : Below w0.heap.size w0 w) : RetRB w0 e F [] false (.returned (.tuple #[.slice (some ⟨w.heap.size, 0, none⟩) 0 0, .bool false])) (w.alloc (.cells #[] e)) :=
  ⟨_, _, rfl, OwR.lit0 _ _ _ _ h.size, h.alloc h.size _⟩
theorem RetRB.nil {w w' : World} {e : TypeId} {F : Nat} (h : Below w.heap.size w w') : RetRB w e F [] false (.returned (.tuple #[.slice none 0 0, .bool false])) w' := ⟨none, 0, rfl, OwR.nil _ _ _ _, h⟩
set_option maxHeartbeats 2000000 in
theorem spec_OpenGrip (A : Option Addr) (n c : Nat) (rows : List (List Int)) (cab slip : Int) (w : World) (h : RdR w 5 A n rows) (hm : n ≤ 1048577) :
    Calls Try.prog 27 #[.slice A n c, .int .i64 cab, .int .i64 slip] w (RetRB w 48 5 (opV rows cab slip) (opOk rows cab slip)) := by
  obtain rfl : rows.length = n := h.2.2
  have cg := fun w' (h' : RdR w' 5 A rows.length rows) => spec_l7Good A rows.length c rows w' h' hm
  have cf := fun w' (h' : RdR w' 5 A rows.length rows) => spec_l7Find A rows.length c rows cab w' h' hm
  generalize hV : opV rows cab slip = V
  generalize hO : opOk rows cab slip = O
  have HV := Lib.hid hV
  have HO := Lib.hid hO
  clear hV hO
  rcases hg : good rows with _ | _
  · obtain rfl : V = [] := by rw [← HV.out]; simp [opV, opOk, hg]
    obtain rfl : O = false := by rw [← HO.out]; simp [opOk, hg]
    rw [hg] at cg
    have CG := Lib.hid cg
    have CF := Lib.hid cf
    generalize atV rows cab = z at CF
    clear cg cf hg HV HO
    go_enter Try.func27, Try.ntmps27
    go_wp2_with (first | (go_at_call 62; refine (CF.out _ h).mono ?_; rintro e w' ⟨rfl, rfl⟩) | (go_at_call 50; refine (CG.out _ h).mono ?_; rintro e w' ⟨rfl, hb⟩; have hB : Below w.heap.size w w' := Below.thenn (by repeat (first | exact Below.refl _ _ | assumption | apply Below.drew | apply below_drewN | (refine Below.alloc ?_ (by first | omega | (simp; done) | (simp; omega)) _) | (refine Below.setCell ?_ (by first | omega | (simp; done) | (simp; omega)) _))) hb (by first | omega | (simp; done) | (simp; omega)); have hz : w.heap.size ≤ w'.heap.size := hB.size; (try (have hz1 : w.heap.size + 1 ≤ w'.heap.size := (by have h := hb.size; (try simp at h); omega))); obtain ⟨hc, hf⟩ := bcell hb; clear hb))
    go_ret2
    exact RetRB.lit hB
  rw [hg] at cg
  have CG := Lib.hid cg
  rcases atV_at rows cab with ha | ⟨j, r, ha, hr, hra⟩
  · obtain rfl : V = [] := by rw [← HV.out]; simp [opV, opOk, ha]
    obtain rfl : O = false := by rw [← HO.out]; simp [opOk, ha]
    rw [ha] at cf
    have CF := Lib.hid cf
    clear cg cf hg HV HO ha
    go_enter Try.func27, Try.ntmps27
    go_wp2_with (first | (go_at_call 62; refine (CF.out _ h).mono ?_; rintro e w' ⟨rfl, rfl⟩) | (go_at_call 50; refine (CG.out _ h).mono ?_; rintro e w' ⟨rfl, hb⟩; have hB : Below w.heap.size w w' := Below.thenn (by repeat (first | exact Below.refl _ _ | assumption | apply Below.drew | apply below_drewN | (refine Below.alloc ?_ (by first | omega | (simp; done) | (simp; omega)) _) | (refine Below.setCell ?_ (by first | omega | (simp; done) | (simp; omega)) _))) hb (by first | omega | (simp; done) | (simp; omega)); have hz : w.heap.size ≤ w'.heap.size := hB.size; (try (have hz1 : w.heap.size + 1 ≤ w'.heap.size := (by have h := hb.size; (try simp at h); omega))); obtain ⟨hc, hf⟩ := bcell hb; clear hb))
    go_ret2
    exact RetRB.lit hB
  rw [ha] at cf
  have CF := Lib.hid cf
  rcases hs : inr slip 0 99 with _ | _
  · obtain rfl : V = [] := by rw [← HV.out]; simp [opV, opOk, hs]
    obtain rfl : O = false := by rw [← HO.out]; simp [opOk, hs]
    clear cg cf hg HV HO ha hr hra
    go_enter Try.func27, Try.ntmps27
    go_wp2_with (first | (go_at_call 62; refine (CF.out _ h).mono ?_; rintro e w' ⟨rfl, rfl⟩) | (go_at_call 50; refine (CG.out _ h).mono ?_; rintro e w' ⟨rfl, hb⟩; have hB : Below w.heap.size w w' := Below.thenn (by repeat (first | exact Below.refl _ _ | assumption | apply Below.drew | apply below_drewN | (refine Below.alloc ?_ (by first | omega | (simp; done) | (simp; omega)) _) | (refine Below.setCell ?_ (by first | omega | (simp; done) | (simp; omega)) _))) hb (by first | omega | (simp; done) | (simp; omega)); have hz : w.heap.size ≤ w'.heap.size := hB.size; (try (have hz1 : w.heap.size + 1 ≤ w'.heap.size := (by have h := hb.size; (try simp at h); omega))); obtain ⟨hc, hf⟩ := bcell hb; clear hb) | (go_at_call 67; refine (spec_l1In _ _ _ _).mono ?_; rintro e w' ⟨rfl, rfl⟩))
    go_ret2
    exact RetRB.lit hB
  have hj : j < rows.length := (List.getElem?_eq_some_iff.1 hr).1
  obtain ⟨b, off, x0, x1, x2, x3, x4, rfl, hrj, hblt, c0, c1, c2, c3, c4⟩ := h.row5 hj
  have hd := goodR hg hrj
  have hsb := (show 0 ≤ slip ∧ slip ≤ 99 by simpa [inr] using hs)
  have s0 := hsb.1
  have s1 := hsb.2
  have x20 := hd.2.2.1.1
  have x21 := hd.2.2.1.2
  have x30 := hd.2.2.2.1.1
  have x31 := hd.2.2.2.1.2
  obtain rfl : r = [x0, x1, x2, x3, x4] := by rw [hr] at hrj; injection hrj
  have hL : opL rows cab slip = rows.set j [x0, x1, x2 + slip, x3 + 1, x4] := by unfold opL; rw [hra, ha]; simp [opR, fld]
  obtain rfl : withV rows j [x0, x1, x2 + slip, x3 + 1, x4] = V := by rw [← HV.out]; unfold opV opOk withV; rw [hL, hg, hs, ha]; simp
  obtain rfl : withOk rows j [x0, x1, x2 + slip, x3 + 1, x4] = O := by rw [← HO.out]; unfold opOk withOk; rw [hL, hg, hs, ha]; simp
  have CW := Lib.hid (fun w' (h' : RdR w' 5 (some ⟨b, off, none⟩) rows.length rows) => spec_l7With (some ⟨b, off, none⟩) rows.length c j rows x0 x1 (x2 + slip) (x3 + 1) x4 w' h' hm hj)
  generalize withV rows j [x0, x1, x2 + slip, x3 + 1, x4] = V at CW ⊢
  generalize withOk rows j [x0, x1, x2 + slip, x3 + 1, x4] = O at CW ⊢
  have hjz : (j : Int) < (rows.length : Int) := by omega
  have hj0 : ¬ ((j : Int) < 0) := by omega
  clear cg cf hg HV HO ha hr hra hrj hd hsb hL
  go_enter Try.func27, Try.ntmps27
  go_wp2_with (first | (go_at_call 62; refine (CF.out _ h).mono ?_; rintro e w' ⟨rfl, rfl⟩) | (go_at_call 50; refine (CG.out _ h).mono ?_; rintro e w' ⟨rfl, hb⟩; have hB : Below w.heap.size w w' := Below.thenn (by repeat (first | exact Below.refl _ _ | assumption | apply Below.drew | apply below_drewN | (refine Below.alloc ?_ (by first | omega | (simp; done) | (simp; omega)) _) | (refine Below.setCell ?_ (by first | omega | (simp; done) | (simp; omega)) _))) hb (by first | omega | (simp; done) | (simp; omega)); have hz : w.heap.size ≤ w'.heap.size := hB.size; (try (have hz1 : w.heap.size + 1 ≤ w'.heap.size := (by have h := hb.size; (try simp at h); omega))); obtain ⟨hc, hf⟩ := bcell hb; rw [← hc b _ hblt] at c0 c1 c2 c3 c4; have hbw : b < w'.heap.size := Nat.lt_of_lt_of_le hblt hb.size; clear hb) | (go_at_call 67; refine (spec_l1In _ _ _ _).mono ?_; rintro e w' ⟨rfl, rfl⟩) | (go_at_call 63; refine (CW.out _ (h.below (by repeat (first | exact Below.refl _ _ | assumption | apply Below.drew | apply below_drewN | (refine Below.alloc ?_ (by first | omega | (simp; done) | (simp; omega)) _) | (refine Below.setCell ?_ (by first | omega | (simp; done) | (simp; omega)) _))))).mono ?_; rintro e w2 ⟨A2, c2, rfl, ho2, hb⟩; have hB2 : Below w.heap.size w w2 := Below.thenn (by repeat (first | exact Below.refl _ _ | assumption | apply Below.drew | apply below_drewN | (refine Below.alloc ?_ (by first | omega | (simp; done) | (simp; omega)) _) | (refine Below.setCell ?_ (by first | omega | (simp; done) | (simp; omega)) _))) hb (by first | omega | (simp; done) | (simp; omega)); have HO2 := Lib.hid (OwR.base (B' := w.heap.size) ho2 (by first | omega | (simp; done) | (simp; omega))); clear hb ho2))
  go_ret2
  exact ⟨A2, c2, rfl, HO2.out, hB2⟩
set_option maxHeartbeats 2000000 in
theorem spec_TestGrip (A : Option Addr) (n c : Nat) (rows : List (List Int)) (cab force day : Int) (w : World) (h : RdR w 5 A n rows) (hm : n ≤ 1048577) :
    Calls Try.prog 24 #[.slice A n c, .int .i64 cab, .int .i64 force, .int .i64 day] w (RetRB w 48 5 (tgV rows cab force day) (tgOk rows cab force day)) := by
  obtain rfl : rows.length = n := h.2.2
  have cg := fun w' (h' : RdR w' 5 A rows.length rows) => spec_l7Good A rows.length c rows w' h' hm
  have cf := fun w' (h' : RdR w' 5 A rows.length rows) => spec_l7Find A rows.length c rows cab w' h' hm
  generalize hV : tgV rows cab force day = V
  generalize hO : tgOk rows cab force day = O
  have HV := Lib.hid hV
  have HO := Lib.hid hO
  clear hV hO
  rcases hg : good rows with _ | _
  · obtain rfl : V = [] := by rw [← HV.out]; simp [tgV, tgOk, hg]
    obtain rfl : O = false := by rw [← HO.out]; simp [tgOk, hg]
    rw [hg] at cg
    have CG := Lib.hid cg
    have CF := Lib.hid cf
    generalize atV rows cab = z at CF
    clear cg cf hg HV HO
    go_enter Try.func24, Try.ntmps24
    go_wp2_with (first | (go_at_call 62; refine (CF.out _ h).mono ?_; rintro e w' ⟨rfl, rfl⟩) | (go_at_call 50; refine (CG.out _ h).mono ?_; rintro e w' ⟨rfl, hb⟩; have hB : Below w.heap.size w w' := Below.thenn (by repeat (first | exact Below.refl _ _ | assumption | apply Below.drew | apply below_drewN | (refine Below.alloc ?_ (by first | omega | (simp; done) | (simp; omega)) _) | (refine Below.setCell ?_ (by first | omega | (simp; done) | (simp; omega)) _))) hb (by first | omega | (simp; done) | (simp; omega)); have hz : w.heap.size ≤ w'.heap.size := hB.size; (try (have hz1 : w.heap.size + 1 ≤ w'.heap.size := (by have h := hb.size; (try simp at h); omega))); obtain ⟨hc, hf⟩ := bcell hb; clear hb))
    go_ret2
    exact RetRB.lit hB
  rw [hg] at cg
  have CG := Lib.hid cg
  rcases atV_at rows cab with ha | ⟨j, r, ha, hr, hra⟩
  · obtain rfl : V = [] := by rw [← HV.out]; simp [tgV, tgOk, ha]
    obtain rfl : O = false := by rw [← HO.out]; simp [tgOk, ha]
    rw [ha] at cf
    have CF := Lib.hid cf
    clear cg cf hg HV HO ha
    go_enter Try.func24, Try.ntmps24
    go_wp2_with (first | (go_at_call 62; refine (CF.out _ h).mono ?_; rintro e w' ⟨rfl, rfl⟩) | (go_at_call 50; refine (CG.out _ h).mono ?_; rintro e w' ⟨rfl, hb⟩; have hB : Below w.heap.size w w' := Below.thenn (by repeat (first | exact Below.refl _ _ | assumption | apply Below.drew | apply below_drewN | (refine Below.alloc ?_ (by first | omega | (simp; done) | (simp; omega)) _) | (refine Below.setCell ?_ (by first | omega | (simp; done) | (simp; omega)) _))) hb (by first | omega | (simp; done) | (simp; omega)); have hz : w.heap.size ≤ w'.heap.size := hB.size; (try (have hz1 : w.heap.size + 1 ≤ w'.heap.size := (by have h := hb.size; (try simp at h); omega))); obtain ⟨hc, hf⟩ := bcell hb; clear hb))
    go_ret2
    exact RetRB.lit hB
  rw [ha] at cf
  have CF := Lib.hid cf
  have hj : j < rows.length := (List.getElem?_eq_some_iff.1 hr).1
  obtain ⟨b, off, x0, x1, x2, x3, x4, rfl, hrj, hblt, c0, c1, c2, c3, c4⟩ := h.row5 hj
  obtain rfl : r = [x0, x1, x2, x3, x4] := by rw [hr] at hrj; injection hrj
  have hjz : (j : Int) < (rows.length : Int) := by omega
  have hj0 : ¬ ((j : Int) < 0) := by omega
  by_cases hq : day < x4
  · have hq2 : ¬ x4 ≤ day := by omega
    obtain rfl : V = [] := by rw [← HV.out]; unfold tgV tgOk; rw [hra]; simp [fld, hq2]
    obtain rfl : O = false := by rw [← HO.out]; unfold tgOk; rw [hra]; simp [fld, hq2]
    clear cg cf hg HV HO ha hr hra hrj hq2
    go_enter Try.func24, Try.ntmps24
    go_wp2_with (first | (go_at_call 62; refine (CF.out _ h).mono ?_; rintro e w' ⟨rfl, rfl⟩) | (go_at_call 50; refine (CG.out _ h).mono ?_; rintro e w' ⟨rfl, hb⟩; have hB : Below w.heap.size w w' := Below.thenn (by repeat (first | exact Below.refl _ _ | assumption | apply Below.drew | apply below_drewN | (refine Below.alloc ?_ (by first | omega | (simp; done) | (simp; omega)) _) | (refine Below.setCell ?_ (by first | omega | (simp; done) | (simp; omega)) _))) hb (by first | omega | (simp; done) | (simp; omega)); have hz : w.heap.size ≤ w'.heap.size := hB.size; (try (have hz1 : w.heap.size + 1 ≤ w'.heap.size := (by have h := hb.size; (try simp at h); omega))); obtain ⟨hc, hf⟩ := bcell hb; rw [← hc b _ hblt] at c0 c1 c2 c3 c4; have hbw : b < w'.heap.size := Nat.lt_of_lt_of_le hblt hb.size; clear hb))
    go_ret2
    exact RetRB.lit hB
  have hq2 : x4 ≤ day := by omega
  have hL : tgL rows cab force day = rows.set j [cab, force, 0, 0, day] := by unfold tgL; rw [ha]; simp
  obtain rfl : withV rows j [cab, force, 0, 0, day] = V := by rw [← HV.out]; unfold tgV tgOk withV; rw [hL, hg, hra, ha]; simp [fld, hq2]
  obtain rfl : withOk rows j [cab, force, 0, 0, day] = O := by rw [← HO.out]; unfold tgOk withOk; rw [hL, hg, hra, ha]; simp [fld, hq2]
  have CW := Lib.hid (fun w' (h' : RdR w' 5 (some ⟨b, off, none⟩) rows.length rows) => spec_l7With (some ⟨b, off, none⟩) rows.length c j rows cab force 0 0 day w' h' hm hj)
  generalize withV rows j [cab, force, 0, 0, day] = V at CW ⊢
  generalize withOk rows j [cab, force, 0, 0, day] = O at CW ⊢
  clear cg cf hg HV HO ha hr hra hrj hL hq2
  go_enter Try.func24, Try.ntmps24
  go_wp2_with (first | (go_at_call 62; refine (CF.out _ h).mono ?_; rintro e w' ⟨rfl, rfl⟩) | (go_at_call 50; refine (CG.out _ h).mono ?_; rintro e w' ⟨rfl, hb⟩; have hB : Below w.heap.size w w' := Below.thenn (by repeat (first | exact Below.refl _ _ | assumption | apply Below.drew | apply below_drewN | (refine Below.alloc ?_ (by first | omega | (simp; done) | (simp; omega)) _) | (refine Below.setCell ?_ (by first | omega | (simp; done) | (simp; omega)) _))) hb (by first | omega | (simp; done) | (simp; omega)); have hz : w.heap.size ≤ w'.heap.size := hB.size; (try (have hz1 : w.heap.size + 1 ≤ w'.heap.size := (by have h := hb.size; (try simp at h); omega))); obtain ⟨hc, hf⟩ := bcell hb; rw [← hc b _ hblt] at c0 c1 c2 c3 c4; have hbw : b < w'.heap.size := Nat.lt_of_lt_of_le hblt hb.size; clear hb) | (go_at_call 63; refine (CW.out _ (h.below (by repeat (first | exact Below.refl _ _ | assumption | apply Below.drew | apply below_drewN | (refine Below.alloc ?_ (by first | omega | (simp; done) | (simp; omega)) _) | (refine Below.setCell ?_ (by first | omega | (simp; done) | (simp; omega)) _))))).mono ?_; rintro e w2 ⟨A2, c2, rfl, ho2, hb⟩; have hB2 : Below w.heap.size w w2 := Below.thenn (by repeat (first | exact Below.refl _ _ | assumption | apply Below.drew | apply below_drewN | (refine Below.alloc ?_ (by first | omega | (simp; done) | (simp; omega)) _) | (refine Below.setCell ?_ (by first | omega | (simp; done) | (simp; omega)) _))) hb (by first | omega | (simp; done) | (simp; omega)); have HO2 := Lib.hid (OwR.base (B' := w.heap.size) ho2 (by first | omega | (simp; done) | (simp; omega))); clear hb ho2))
  go_ret2
  exact ⟨A2, c2, rfl, HO2.out, hB2⟩
end Go.Proofs.Ytfnpbmndkbaodaa
