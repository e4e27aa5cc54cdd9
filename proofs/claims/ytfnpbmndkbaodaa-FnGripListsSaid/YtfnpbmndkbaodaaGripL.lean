/- The grips: a grip is opened or tested, the program's. -/
import Derived.Test.YtfnpbmndkbaodaaGripK
namespace Go.Proofs.Ytfnpbmndkbaodaa
open Go.RowKit
set_option linter.unusedVariables false
set_option linter.unusedSimpArgs false

theorem checked_yes (A : Option Addr) (n c : Nat) (rows : List (List Int)) (w : World) (h : RdR w 5 A n rows) (hm : n ≤ 1048577) (hg : good rows = true) :
    Calls Try.prog 66 #[.slice A n c] w (Ret w (.tuple #[.slice A n c, .bool true])) := by
  have CG := Lib.hid (hg ▸ impl_AreGrips A n c rows w h hm)
  go_enter Try.func66, Try.ntmps66
  go_wp2_with (go_at_call 41; refine (CG.out).mono ?_; rintro e w' ⟨rfl, hb⟩; have hB : Below w.heap.size w w' := Below.thenn (by repeat (first | exact Below.refl _ _ | assumption | apply Below.drew | apply below_drewN | (refine Below.alloc ?_ (by first | omega | (simp; done) | (simp; omega)) _) | (refine Below.setCell ?_ (by first | omega | (simp; done) | (simp; omega)) _))) hb (by first | omega | (simp; done) | (simp; omega)); have hz : w.heap.size ≤ w'.heap.size := hB.size; (try (have hz1 : w.heap.size + 1 ≤ w'.heap.size := (by have h := hb.size; (try simp at h); omega))); obtain ⟨hc, hf⟩ := bcell hb; clear hb)
  go_ret2
  exact ⟨rfl, hB⟩
theorem checked_no (A : Option Addr) (n c : Nat) (rows : List (List Int)) (w : World) (h : RdR w 5 A n rows) (hm : n ≤ 1048577) (hg : good rows = false) :
    Calls Try.prog 66 #[.slice A n c] w (Ret w (.tuple #[.slice none 0 0, .bool false])) := by
  have CG := Lib.hid (hg ▸ impl_AreGrips A n c rows w h hm)
  go_enter Try.func66, Try.ntmps66
  go_wp2_with (go_at_call 41; refine (CG.out).mono ?_; rintro e w' ⟨rfl, hb⟩; have hB : Below w.heap.size w w' := Below.thenn (by repeat (first | exact Below.refl _ _ | assumption | apply Below.drew | apply below_drewN | (refine Below.alloc ?_ (by first | omega | (simp; done) | (simp; omega)) _) | (refine Below.setCell ?_ (by first | omega | (simp; done) | (simp; omega)) _))) hb (by first | omega | (simp; done) | (simp; omega)); have hz : w.heap.size ≤ w'.heap.size := hB.size; (try (have hz1 : w.heap.size + 1 ≤ w'.heap.size := (by have h := hb.size; (try simp at h); omega))); obtain ⟨hc, hf⟩ := bcell hb; clear hb)
  go_ret2
  exact ⟨rfl, hB⟩
set_option maxHeartbeats 2000000 in
theorem impl_OpenGrip (A : Option Addr) (n c : Nat) (rows : List (List Int)) (cab slip : Int) (w : World) (h : RdR w 5 A n rows) (hm : n ≤ 1048577) (hA : A = none → c = 0 ∧ rows.length = 0) :
    Calls Try.prog 28 #[.slice A n c, .int .i64 cab, .int .i64 slip] w (RetRB w 48 5 (opV rows cab slip) (opOk rows cab slip)) := by
  obtain rfl : rows.length = n := h.2.2
  have cf := fun w' (h' : RdR w' 5 A rows.length rows) => impl_gripOf A rows.length c rows cab w' h' hm
  generalize hV : opV rows cab slip = V
  generalize hO : opOk rows cab slip = O
  have HV := Lib.hid hV
  have HO := Lib.hid hO
  clear hV hO
  rcases hg : good rows with _ | _
  · obtain rfl : V = [] := by rw [← HV.out]; simp [opV, opOk, hg]
    obtain rfl : O = false := by rw [← HO.out]; simp [opOk, hg]
    rw [show atG rows cab = -1 by simp [atG, hg]] at cf
    have CF := Lib.hid cf
    clear cf hg HV HO
    go_enter Try.func28, Try.ntmps28
    go_wp2_with (go_at_call 64; refine (CF.out _ h).mono ?_; rintro e w' ⟨rfl, hb⟩; have hB : Below w.heap.size w w' := Below.thenn (by repeat (first | exact Below.refl _ _ | assumption | apply Below.drew | apply below_drewN | (refine Below.alloc ?_ (by first | omega | (simp; done) | (simp; omega)) _) | (refine Below.setCell ?_ (by first | omega | (simp; done) | (simp; omega)) _))) hb (by first | omega | (simp; done) | (simp; omega)); have hz : w.heap.size ≤ w'.heap.size := hB.size; (try (have hz1 : w.heap.size + 1 ≤ w'.heap.size := (by have h := hb.size; (try simp at h); omega))); obtain ⟨hc, hf⟩ := bcell hb; clear hb)
    go_ret2
    exact RetRB.nil hB
  rw [show atG rows cab = atV rows cab by simp [atG, hg]] at cf
  rcases atV_at rows cab with ha | ⟨j, r, ha, hr, hra⟩
  · obtain rfl : V = [] := by rw [← HV.out]; simp [opV, opOk, ha]
    obtain rfl : O = false := by rw [← HO.out]; simp [opOk, ha]
    rw [ha] at cf
    have CF := Lib.hid cf
    clear cf hg HV HO ha
    go_enter Try.func28, Try.ntmps28
    go_wp2_with (go_at_call 64; refine (CF.out _ h).mono ?_; rintro e w' ⟨rfl, hb⟩; have hB : Below w.heap.size w w' := Below.thenn (by repeat (first | exact Below.refl _ _ | assumption | apply Below.drew | apply below_drewN | (refine Below.alloc ?_ (by first | omega | (simp; done) | (simp; omega)) _) | (refine Below.setCell ?_ (by first | omega | (simp; done) | (simp; omega)) _))) hb (by first | omega | (simp; done) | (simp; omega)); have hz : w.heap.size ≤ w'.heap.size := hB.size; (try (have hz1 : w.heap.size + 1 ≤ w'.heap.size := (by have h := hb.size; (try simp at h); omega))); obtain ⟨hc, hf⟩ := bcell hb; clear hb)
    go_ret2
    exact RetRB.nil hB
  rw [ha] at cf
  have CF := Lib.hid cf
  have hj0 : ¬ ((j : Int) < 0) := by omega
  rcases hs : inr slip 0 99 with _ | _
  · obtain rfl : V = [] := by rw [← HV.out]; simp [opV, opOk, hs]
    obtain rfl : O = false := by rw [← HO.out]; simp [opOk, hs]
    clear cf hg HV HO ha hr hra
    go_enter Try.func28, Try.ntmps28
    go_wp2_with (first | (go_at_call 64; refine (CF.out _ h).mono ?_; rintro e w' ⟨rfl, hb⟩; have hB : Below w.heap.size w w' := Below.thenn (by repeat (first | exact Below.refl _ _ | assumption | apply Below.drew | apply below_drewN | (refine Below.alloc ?_ (by first | omega | (simp; done) | (simp; omega)) _) | (refine Below.setCell ?_ (by first | omega | (simp; done) | (simp; omega)) _))) hb (by first | omega | (simp; done) | (simp; omega)); have hz : w.heap.size ≤ w'.heap.size := hB.size; (try (have hz1 : w.heap.size + 1 ≤ w'.heap.size := (by have h := hb.size; (try simp at h); omega))); obtain ⟨hc, hf⟩ := bcell hb; clear hb) | (go_at_call 54; refine (impl_within _ _ _ _).mono ?_; rintro e w' ⟨rfl, rfl⟩))
    go_ret2
    exact RetRB.nil hB
  have hj : j < rows.length := (List.getElem?_eq_some_iff.1 hr).1
  obtain ⟨b, off, x0, x1, x2, x3, x4, rfl, hrj, hblt, _⟩ := h.row5 hj
  have hd := goodR hg hrj
  have hsb := (show 0 ≤ slip ∧ slip ≤ 99 by simpa [inr] using hs)
  have s0 := hsb.1
  have s1 := hsb.2
  have x20 := hd.2.2.1.1
  have x21 := hd.2.2.1.2
  have x30 := hd.2.2.2.1.1
  have x31 := hd.2.2.2.1.2
  obtain rfl : r = [x0, x1, x2, x3, x4] := by rw [hr] at hrj; injection hrj
  have hL : opL rows cab slip = rows.set j [x0, x1, x2 + slip, x3 + 1, x4] := by unfold opL; rw [hra, ha]; simp [opR, fld]
  have HVW : Hid (withV rows j [x0, x1, x2 + slip, x3 + 1, x4] = V) := (show _ = _ by rw [← HV.out]; unfold opV opOk withV; rw [hL, hg, hs, ha]; simp)
  have HOW : Hid (withOk rows j [x0, x1, x2 + slip, x3 + 1, x4] = O) := (show _ = _ by rw [← HO.out]; unfold opOk withOk; rw [hL, hg, hs, ha]; simp)
  have HRK := Lib.hid hrj
  have HLS : Hid ((rows.set j [x0, x1, x2 + slip, x3 + 1, x4]).length = rows.length) := (show _ = _ by rw [List.length_set])
  have CCl := Lib.hid (fun w' (h' : RdR w' 5 (some ⟨b, off, none⟩) rows.length rows) => slices_Clone_Grip (some ⟨b, off, none⟩) rows.length c rows w' h' hm (fun e => by cases e))
  have hjz : (j : Int) < (rows.length : Int) := by omega
  clear cf hg HV HO ha hr hra hrj hd hsb hL hA
  rcases hg2 : good (rows.set j [x0, x1, x2 + slip, x3 + 1, x4]) with _ | _
  · obtain rfl : V = [] := by rw [← HVW.out]; unfold withV; rw [hg2]; rfl
    obtain rfl : O = false := by rw [← HOW.out]; exact hg2
    have CC := Lib.hid (fun w' (A' : Option Addr) (c' : Nat) (h' : RdR w' 5 A' rows.length (rows.set j [x0, x1, x2 + slip, x3 + 1, x4])) => checked_no A' rows.length c' _ w' h' hm hg2)
    clear HVW HOW hg2
    go_enter Try.func28, Try.ntmps28
    go_wp2_with (first | (go_at_call 64; refine (CF.out _ h).mono ?_; rintro e w' ⟨rfl, hb⟩; have hB : Below w.heap.size w w' := Below.thenn (by repeat (first | exact Below.refl _ _ | assumption | apply Below.drew | apply below_drewN | (refine Below.alloc ?_ (by first | omega | (simp; done) | (simp; omega)) _) | (refine Below.setCell ?_ (by first | omega | (simp; done) | (simp; omega)) _))) hb (by first | omega | (simp; done) | (simp; omega)); have hz : w.heap.size ≤ w'.heap.size := hB.size; (try (have hz1 : w.heap.size + 1 ≤ w'.heap.size := (by have h := hb.size; (try simp at h); omega))); obtain ⟨hc, hf⟩ := bcell hb; clear hb) | (go_at_call 54; refine (impl_within _ _ _ _).mono ?_; rintro e w' ⟨rfl, rfl⟩) | (go_at_call 65; refine (CCl.out _ (h.below hB)).mono ?_; rintro e w1 ⟨A1, c1, rfl, ho1, hb1⟩; have hB1 : Below w.heap.size w w1 := Below.thenn hB hb1 hz; obtain ⟨g, rfl, hgB, hgl, ⟨c0, c1', c2, c3, c4⟩, hfs⟩ := ho1.cells5 HRK.out; have HO1 := Lib.hid (ho1.put2 (y2 := x2 + slip) (y3 := x3 + 1) rfl HRK.out); have hgw : w.heap.size ≤ g := Nat.le_trans hz hgB; have HBP := Lib.hid (Below.put2 (k := j * 5) hB1 hgw (.int .i64 (x3 + 1)) (.int .i64 (x2 + slip))); clear ho1 hb1 hB1) | (go_at_call 66; refine (CC.out _ _ _ (RdR.castN HO1.out.rdR HLS.out)).mono ?_; rintro e w2 ⟨rfl, hb⟩; have hB2 : Below w.heap.size w w2 := Below.thenn HBP.out hb HBP.out.size; have HO2 := Lib.hid (HO1.out.below hb); clear hb))
    go_ret2
    exact RetRB.nil hB2
  · obtain rfl : V = rows.set j [x0, x1, x2 + slip, x3 + 1, x4] := by rw [← HVW.out]; unfold withV; rw [hg2]; rfl
    obtain rfl : O = true := by rw [← HOW.out]; exact hg2
    have CC := Lib.hid (fun w' (A' : Option Addr) (c' : Nat) (h' : RdR w' 5 A' rows.length (rows.set j [x0, x1, x2 + slip, x3 + 1, x4])) => checked_yes A' rows.length c' _ w' h' hm hg2)
    clear HVW HOW hg2
    go_enter Try.func28, Try.ntmps28
    go_wp2_with (first | (go_at_call 64; refine (CF.out _ h).mono ?_; rintro e w' ⟨rfl, hb⟩; have hB : Below w.heap.size w w' := Below.thenn (by repeat (first | exact Below.refl _ _ | assumption | apply Below.drew | apply below_drewN | (refine Below.alloc ?_ (by first | omega | (simp; done) | (simp; omega)) _) | (refine Below.setCell ?_ (by first | omega | (simp; done) | (simp; omega)) _))) hb (by first | omega | (simp; done) | (simp; omega)); have hz : w.heap.size ≤ w'.heap.size := hB.size; (try (have hz1 : w.heap.size + 1 ≤ w'.heap.size := (by have h := hb.size; (try simp at h); omega))); obtain ⟨hc, hf⟩ := bcell hb; clear hb) | (go_at_call 54; refine (impl_within _ _ _ _).mono ?_; rintro e w' ⟨rfl, rfl⟩) | (go_at_call 65; refine (CCl.out _ (h.below hB)).mono ?_; rintro e w1 ⟨A1, c1, rfl, ho1, hb1⟩; have hB1 : Below w.heap.size w w1 := Below.thenn hB hb1 hz; obtain ⟨g, rfl, hgB, hgl, ⟨c0, c1', c2, c3, c4⟩, hfs⟩ := ho1.cells5 HRK.out; have HO1 := Lib.hid (ho1.put2 (y2 := x2 + slip) (y3 := x3 + 1) rfl HRK.out); have hgw : w.heap.size ≤ g := Nat.le_trans hz hgB; have HBP := Lib.hid (Below.put2 (k := j * 5) hB1 hgw (.int .i64 (x3 + 1)) (.int .i64 (x2 + slip))); clear ho1 hb1 hB1) | (go_at_call 66; refine (CC.out _ _ _ (RdR.castN HO1.out.rdR HLS.out)).mono ?_; rintro e w2 ⟨rfl, hb⟩; have hB2 : Below w.heap.size w w2 := Below.thenn HBP.out hb HBP.out.size; have HO2 := Lib.hid (HO1.out.below hb); clear hb))
    go_ret2
    exact ⟨_, _, ret_ssb HLS.out.symm, OwR.cast_ (HO2.out.base hz) HLS.out.symm, hB2⟩
set_option maxHeartbeats 2000000 in
theorem impl_TestGrip (A : Option Addr) (n c : Nat) (rows : List (List Int)) (cab force day : Int) (w : World) (h : RdR w 5 A n rows) (hm : n ≤ 1048577) (hA : A = none → c = 0 ∧ rows.length = 0) :
    Calls Try.prog 25 #[.slice A n c, .int .i64 cab, .int .i64 force, .int .i64 day] w (RetRB w 48 5 (tgV rows cab force day) (tgOk rows cab force day)) := by
  obtain rfl : rows.length = n := h.2.2
  have cf := fun w' (h' : RdR w' 5 A rows.length rows) => impl_gripOf A rows.length c rows cab w' h' hm
  generalize hV : tgV rows cab force day = V
  generalize hO : tgOk rows cab force day = O
  have HV := Lib.hid hV
  have HO := Lib.hid hO
  clear hV hO
  rcases hg : good rows with _ | _
  · obtain rfl : V = [] := by rw [← HV.out]; simp [tgV, tgOk, hg]
    obtain rfl : O = false := by rw [← HO.out]; simp [tgOk, hg]
    rw [show atG rows cab = -1 by simp [atG, hg]] at cf
    have CF := Lib.hid cf
    clear cf hg HV HO
    go_enter Try.func25, Try.ntmps25
    go_wp2_with (go_at_call 64; refine (CF.out _ h).mono ?_; rintro e w' ⟨rfl, hb⟩; have hB : Below w.heap.size w w' := Below.thenn (by repeat (first | exact Below.refl _ _ | assumption | apply Below.drew | apply below_drewN | (refine Below.alloc ?_ (by first | omega | (simp; done) | (simp; omega)) _) | (refine Below.setCell ?_ (by first | omega | (simp; done) | (simp; omega)) _))) hb (by first | omega | (simp; done) | (simp; omega)); have hz : w.heap.size ≤ w'.heap.size := hB.size; (try (have hz1 : w.heap.size + 1 ≤ w'.heap.size := (by have h := hb.size; (try simp at h); omega))); obtain ⟨hc, hf⟩ := bcell hb; clear hb)
    go_ret2
    exact RetRB.nil hB
  rw [show atG rows cab = atV rows cab by simp [atG, hg]] at cf
  rcases atV_at rows cab with ha | ⟨j, r, ha, hr, hra⟩
  · obtain rfl : V = [] := by rw [← HV.out]; simp [tgV, tgOk, ha]
    obtain rfl : O = false := by rw [← HO.out]; simp [tgOk, ha]
    rw [ha] at cf
    have CF := Lib.hid cf
    clear cf hg HV HO ha
    go_enter Try.func25, Try.ntmps25
    go_wp2_with (go_at_call 64; refine (CF.out _ h).mono ?_; rintro e w' ⟨rfl, hb⟩; have hB : Below w.heap.size w w' := Below.thenn (by repeat (first | exact Below.refl _ _ | assumption | apply Below.drew | apply below_drewN | (refine Below.alloc ?_ (by first | omega | (simp; done) | (simp; omega)) _) | (refine Below.setCell ?_ (by first | omega | (simp; done) | (simp; omega)) _))) hb (by first | omega | (simp; done) | (simp; omega)); have hz : w.heap.size ≤ w'.heap.size := hB.size; (try (have hz1 : w.heap.size + 1 ≤ w'.heap.size := (by have h := hb.size; (try simp at h); omega))); obtain ⟨hc, hf⟩ := bcell hb; clear hb)
    go_ret2
    exact RetRB.nil hB
  rw [ha] at cf
  have CF := Lib.hid cf
  have hj0 : ¬ ((j : Int) < 0) := by omega
  have hj : j < rows.length := (List.getElem?_eq_some_iff.1 hr).1
  obtain ⟨b, off, x0, x1, x2, x3, x4, rfl, hrj, hblt, d0, d1, d2, d3, d4⟩ := h.row5 hj
  obtain rfl : r = [x0, x1, x2, x3, x4] := by rw [hr] at hrj; injection hrj
  have hjz : (j : Int) < (rows.length : Int) := by omega
  clear d0 d1 d2 d3
  by_cases hq : day < x4
  · have hq2 : ¬ x4 ≤ day := by omega
    obtain rfl : V = [] := by rw [← HV.out]; unfold tgV tgOk; rw [hra]; simp [fld, hq2]
    obtain rfl : O = false := by rw [← HO.out]; unfold tgOk; rw [hra]; simp [fld, hq2]
    clear cf hg HV HO ha hr hra hrj hq2
    go_enter Try.func25, Try.ntmps25
    go_wp2_with (go_at_call 64; refine (CF.out _ h).mono ?_; rintro e w' ⟨rfl, hb⟩; have hB : Below w.heap.size w w' := Below.thenn (by repeat (first | exact Below.refl _ _ | assumption | apply Below.drew | apply below_drewN | (refine Below.alloc ?_ (by first | omega | (simp; done) | (simp; omega)) _) | (refine Below.setCell ?_ (by first | omega | (simp; done) | (simp; omega)) _))) hb (by first | omega | (simp; done) | (simp; omega)); have hz : w.heap.size ≤ w'.heap.size := hB.size; (try (have hz1 : w.heap.size + 1 ≤ w'.heap.size := (by have h := hb.size; (try simp at h); omega))); obtain ⟨hc, hf⟩ := bcell hb; rw [← hc b _ hblt] at d4; have hbw : b < w'.heap.size := Nat.lt_of_lt_of_le hblt hb.size; clear hb)
    go_ret2
    exact RetRB.nil hB
  have hq2 : x4 ≤ day := by omega
  have hL : tgL rows cab force day = rows.set j [cab, force, 0, 0, day] := by unfold tgL; rw [ha]; simp
  have HVW : Hid (withV rows j [cab, force, 0, 0, day] = V) := (show _ = _ by rw [← HV.out]; unfold tgV tgOk withV; rw [hL, hg, hra, ha]; simp [fld, hq2])
  have HOW : Hid (withOk rows j [cab, force, 0, 0, day] = O) := (show _ = _ by rw [← HO.out]; unfold tgOk withOk; rw [hL, hg, hra, ha]; simp [fld, hq2])
  have HRK := Lib.hid hrj
  have HLS : Hid ((rows.set j [cab, force, 0, 0, day]).length = rows.length) := (show _ = _ by rw [List.length_set])
  have CCl := Lib.hid (fun w' (h' : RdR w' 5 (some ⟨b, off, none⟩) rows.length rows) => slices_Clone_Grip (some ⟨b, off, none⟩) rows.length c rows w' h' hm (fun e => by cases e))
  clear cf hg HV HO ha hr hra hrj hL hA hq2
  rcases hg2 : good (rows.set j [cab, force, 0, 0, day]) with _ | _
  · obtain rfl : V = [] := by rw [← HVW.out]; unfold withV; rw [hg2]; rfl
    obtain rfl : O = false := by rw [← HOW.out]; exact hg2
    have CC := Lib.hid (fun w' (A' : Option Addr) (c' : Nat) (h' : RdR w' 5 A' rows.length (rows.set j [cab, force, 0, 0, day])) => checked_no A' rows.length c' _ w' h' hm hg2)
    clear HVW HOW hg2
    go_enter Try.func25, Try.ntmps25
    go_wp2_with (first | (go_at_call 64; refine (CF.out _ h).mono ?_; rintro e w' ⟨rfl, hb⟩; have hB : Below w.heap.size w w' := Below.thenn (by repeat (first | exact Below.refl _ _ | assumption | apply Below.drew | apply below_drewN | (refine Below.alloc ?_ (by first | omega | (simp; done) | (simp; omega)) _) | (refine Below.setCell ?_ (by first | omega | (simp; done) | (simp; omega)) _))) hb (by first | omega | (simp; done) | (simp; omega)); have hz : w.heap.size ≤ w'.heap.size := hB.size; (try (have hz1 : w.heap.size + 1 ≤ w'.heap.size := (by have h := hb.size; (try simp at h); omega))); obtain ⟨hc, hf⟩ := bcell hb; rw [← hc b _ hblt] at d4; have hbw : b < w'.heap.size := Nat.lt_of_lt_of_le hblt hb.size; clear hb) | (go_at_call 65; refine (CCl.out _ (h.below hB)).mono ?_; rintro e w1 ⟨A1, c1, rfl, ho1, hb1⟩; have hB1 : Below w.heap.size w w1 := Below.thenn hB hb1 hz; obtain ⟨g, rfl, hgB, hgl, ⟨c0, c1', c2, c3, c4⟩, hfs⟩ := ho1.cells5 HRK.out; have HO1 := Lib.hid (ho1.put5 (y0 := cab) (y1 := force) (y2 := 0) (y3 := 0) (y4 := day) rfl HRK.out); have hgw : w.heap.size ≤ g := Nat.le_trans hz hgB; have HBP := Lib.hid (Below.put5 (k := j * 5) hB1 hgw (.int .i64 cab) (.int .i64 force) (.int .i64 0) (.int .i64 0) (.int .i64 day)); clear ho1 hb1 hB1) | (go_at_call 66; refine (CC.out _ _ _ (RdR.castN HO1.out.rdR HLS.out)).mono ?_; rintro e w2 ⟨rfl, hb⟩; have hB2 : Below w.heap.size w w2 := Below.thenn HBP.out hb HBP.out.size; have HO2 := Lib.hid (HO1.out.below hb); clear hb))
    go_ret2
    exact RetRB.nil hB2
  · obtain rfl : V = rows.set j [cab, force, 0, 0, day] := by rw [← HVW.out]; unfold withV; rw [hg2]; rfl
    obtain rfl : O = true := by rw [← HOW.out]; exact hg2
    have CC := Lib.hid (fun w' (A' : Option Addr) (c' : Nat) (h' : RdR w' 5 A' rows.length (rows.set j [cab, force, 0, 0, day])) => checked_yes A' rows.length c' _ w' h' hm hg2)
    clear HVW HOW hg2
    go_enter Try.func25, Try.ntmps25
    go_wp2_with (first | (go_at_call 64; refine (CF.out _ h).mono ?_; rintro e w' ⟨rfl, hb⟩; have hB : Below w.heap.size w w' := Below.thenn (by repeat (first | exact Below.refl _ _ | assumption | apply Below.drew | apply below_drewN | (refine Below.alloc ?_ (by first | omega | (simp; done) | (simp; omega)) _) | (refine Below.setCell ?_ (by first | omega | (simp; done) | (simp; omega)) _))) hb (by first | omega | (simp; done) | (simp; omega)); have hz : w.heap.size ≤ w'.heap.size := hB.size; (try (have hz1 : w.heap.size + 1 ≤ w'.heap.size := (by have h := hb.size; (try simp at h); omega))); obtain ⟨hc, hf⟩ := bcell hb; rw [← hc b _ hblt] at d4; have hbw : b < w'.heap.size := Nat.lt_of_lt_of_le hblt hb.size; clear hb) | (go_at_call 65; refine (CCl.out _ (h.below hB)).mono ?_; rintro e w1 ⟨A1, c1, rfl, ho1, hb1⟩; have hB1 : Below w.heap.size w w1 := Below.thenn hB hb1 hz; obtain ⟨g, rfl, hgB, hgl, ⟨c0, c1', c2, c3, c4⟩, hfs⟩ := ho1.cells5 HRK.out; have HO1 := Lib.hid (ho1.put5 (y0 := cab) (y1 := force) (y2 := 0) (y3 := 0) (y4 := day) rfl HRK.out); have hgw : w.heap.size ≤ g := Nat.le_trans hz hgB; have HBP := Lib.hid (Below.put5 (k := j * 5) hB1 hgw (.int .i64 cab) (.int .i64 force) (.int .i64 0) (.int .i64 0) (.int .i64 day)); clear ho1 hb1 hB1) | (go_at_call 66; refine (CC.out _ _ _ (RdR.castN HO1.out.rdR HLS.out)).mono ?_; rintro e w2 ⟨rfl, hb⟩; have hB2 : Below w.heap.size w w2 := Below.thenn HBP.out hb HBP.out.size; have HO2 := Lib.hid (HO1.out.below hb); clear hb))
    go_ret2
    exact ⟨_, _, ret_ssb HLS.out.symm, OwR.cast_ (HO2.out.base hz) HLS.out.symm, hB2⟩
end Go.Proofs.Ytfnpbmndkbaodaa
