/- The tickets: a ticket is used, the program's. -/
import Derived.Test.YtobcgcdjoogfnaaTickJ
import Derived.Test.YtobcgcdjoogfnaaIxTicket
import Derived.Shelf.Abstract
namespace Go.Proofs.Ytobcgcdjoogfnaa
open Go.RowKit
set_option linter.unusedVariables false
set_option linter.unusedSimpArgs false

theorem useTicket_1 (x0 x1 x2 x3 x4 v : Int) (g : Nat) (W : World) (hc : W.cell? ⟨g, 0, none⟩ = some (.int .i64 v)) (hg : g < W.heap.size) :
    Calls Try.prog 74 #[.agg #[.int .i64 x0, .int .i64 x1, .int .i64 x2, .int .i64 x3, .int .i64 x4], .pointer (some ⟨g, 0, none⟩)] W (Ret W (.bool (numP v [x0, x1, x2, x3, x4]))) := by
  go_enter Try.func74, Try.ntmps74
  go_wp2
  go_ret
  exact ⟨ret_bool (by simp [numP, fld]), (by repeat (first | exact Below.refl _ _ | assumption | apply Below.drew | apply below_drewN | (refine Below.alloc ?_ (by first | omega | (simp; done) | (simp; omega)) _) | (refine Below.setCell ?_ (by first | omega | (simp; done) | (simp; omega)) _)))⟩
theorem OwR.put1 {w : World} {B g n c k : Nat} {e : TypeId} {rows : List (List Int)} {x0 x1 x2 x3 x4 y : Int} (j : Nat) (h : OwR w B e 5 (.slice (some ⟨g, 0, none⟩) n c) rows) (hn : rows.length = n) (hr : rows[k]? = some [x0, x1, x2, x3, x4]) (hj : j < 5) {r : List Int} (hrr : [x0, x1, x2, x3, x4].set j y = r) :
    OwR (w.setCell ⟨g, k * 5 + j, none⟩ (.int .i64 y)) B e 5 (.slice (some ⟨g, 0, none⟩) n c) (rows.set k r) := by
  subst hrr
  exact h.set1 hn hr hj y
set_option maxRecDepth 100000 in
set_option maxHeartbeats 4000000 in
theorem impl_UseTicket (A : Option Addr) (n c : Nat) (rows : List (List Int)) (number day : Int) (up : Bool) (wo : World) (h : RdR wo 5 A n rows) (hm : n ≤ 1048577) (hA : A = none → c = 0 ∧ rows.length = 0) :
    Calls Try.prog 44 #[.slice A n c, .int .i64 number, .int .i64 day, .bool up] wo (RetRB wo 25 5 (useV rows number day up) (useOk rows number day up)) := by
  obtain rfl : rows.length = n := h.2.2
  have hWV : Below wo.heap.size wo (wo.alloc (.cells #[.int .i64 number] 3)) := (Below.refl _ _).alloc (Nat.le_refl _) _
  have hV0 : wo.heap.size < (wo.alloc (.cells #[.int .i64 number] 3)).heap.size := by simp
  have hv0 : (wo.alloc (.cells #[.int .i64 number] 3)).cell? ⟨wo.heap.size, 0, none⟩ = some (.int .i64 number) := by rw [cell_of_row _ _ _ _ _ _ (heap_alloc_new wo _)]; rfl
  have eg := enters_of Try.func74 (by kernel_rfl) rfl
  have cf := fun (w' : World) (h' : RdR w' 5 A rows.length rows) (g : Nat) (hc : w'.cell? ⟨g, 0, none⟩ = some (.int .i64 number)) (hgl : g < w'.heap.size) =>
    slices_IndexFunc_Ticket 74 #[.pointer (some ⟨g, 0, none⟩)] eg (numP number) A rows.length c rows w' h' hm (fun W x0 x1 x2 x3 x4 _ hb => useTicket_1 x0 x1 x2 x3 x4 number g W ((hb.cell (p := ⟨g, 0, none⟩) hgl).trans hc) (Nat.lt_of_lt_of_le hgl hb.size))
  have cg := fun w' (h' : RdR w' 5 A rows.length rows) => impl_AreTickets A rows.length c rows w' h' hm
  clear eg
  generalize hV : useV rows number day up = V
  generalize hO : useOk rows number day up = O
  have HV := Lib.hid hV
  have HO := Lib.hid hO
  clear hV hO
  rcases hg : good rows with _ | _
  · obtain rfl : V = [] := by rw [← HV.out]; simp [useV, useOk, hg]
    obtain rfl : O = false := by rw [← HO.out]; simp [useOk, hg]
    rw [hg] at cg
    have CG := Lib.hid cg
    have CF := Lib.hid cf
    generalize idxR (numP number) rows = z at CF
    clear cg cf hg HV HO
    go_enter Try.func44, Try.ntmps44
    go_wp2_with fail
    generalize wo.alloc (.cells #[.int .i64 number] 3) = w at hWV hV0 hv0 ⊢
    have hB : Below w.heap.size w w := Below.refl _ _
    go_wp2_with (first | (go_at_call 73; refine (CF.out _ (h.below hWV) _ hv0 hV0).mono ?_; rintro e w' ⟨rfl, hb⟩; have hB : Below w.heap.size w w' := Below.thenn (by repeat (first | exact Below.refl _ _ | assumption | apply Below.drew | apply below_drewN | (refine Below.alloc ?_ (by first | omega | (simp; done) | (simp; omega)) _) | (refine Below.setCell ?_ (by first | omega | (simp; done) | (simp; omega)) _))) hb (by first | omega | (simp; done) | (simp; omega)); have hz : w.heap.size ≤ w'.heap.size := hB.size; (try (have hz1 : w.heap.size + 1 ≤ w'.heap.size := (by have h := hb.size; (try simp at h); omega))); obtain ⟨hc, hf⟩ := bcell hb; clear hb) | (go_at_call 31; refine (CG.out _ (h.below (Below.thenn hWV hB hWV.size))).mono ?_; rintro e w' ⟨rfl, hb⟩; have hB : Below w.heap.size w w' := Below.thenn (by repeat (first | exact Below.refl _ _ | assumption | apply Below.drew | apply below_drewN | (refine Below.alloc ?_ (by first | omega | (simp; done) | (simp; omega)) _) | (refine Below.setCell ?_ (by first | omega | (simp; done) | (simp; omega)) _))) hb (by first | omega | (simp; done) | (simp; omega)); have hz : w.heap.size ≤ w'.heap.size := hB.size; (try (have hz1 : w.heap.size + 1 ≤ w'.heap.size := (by have h := hb.size; (try simp at h); omega))); obtain ⟨hc, hf⟩ := bcell hb; clear hb))
    go_ret2
    exact RetRB.nil (Below.thenn hWV hB hWV.size)
  rw [hg] at cg
  have CG := Lib.hid cg
  rcases atT_at rows number with ha | ⟨j, r, ha, hr, hra⟩
  · obtain rfl : V = [] := by rw [← HV.out]; simp [useV, useOk, ha]
    obtain rfl : O = false := by rw [← HO.out]; simp [useOk, ha]
    rw [show idxR (numP number) rows = -1 from ha] at cf
    have CF := Lib.hid cf
    clear cg cf hg HV HO ha
    go_enter Try.func44, Try.ntmps44
    go_wp2_with fail
    generalize wo.alloc (.cells #[.int .i64 number] 3) = w at hWV hV0 hv0 ⊢
    have hB : Below w.heap.size w w := Below.refl _ _
    go_wp2_with (first | (go_at_call 73; refine (CF.out _ (h.below hWV) _ hv0 hV0).mono ?_; rintro e w' ⟨rfl, hb⟩; have hB : Below w.heap.size w w' := Below.thenn (by repeat (first | exact Below.refl _ _ | assumption | apply Below.drew | apply below_drewN | (refine Below.alloc ?_ (by first | omega | (simp; done) | (simp; omega)) _) | (refine Below.setCell ?_ (by first | omega | (simp; done) | (simp; omega)) _))) hb (by first | omega | (simp; done) | (simp; omega)); have hz : w.heap.size ≤ w'.heap.size := hB.size; (try (have hz1 : w.heap.size + 1 ≤ w'.heap.size := (by have h := hb.size; (try simp at h); omega))); obtain ⟨hc, hf⟩ := bcell hb; clear hb) | (go_at_call 31; refine (CG.out _ (h.below (Below.thenn hWV hB hWV.size))).mono ?_; rintro e w' ⟨rfl, hb⟩; have hB : Below w.heap.size w w' := Below.thenn (by repeat (first | exact Below.refl _ _ | assumption | apply Below.drew | apply below_drewN | (refine Below.alloc ?_ (by first | omega | (simp; done) | (simp; omega)) _) | (refine Below.setCell ?_ (by first | omega | (simp; done) | (simp; omega)) _))) hb (by first | omega | (simp; done) | (simp; omega)); have hz : w.heap.size ≤ w'.heap.size := hB.size; (try (have hz1 : w.heap.size + 1 ≤ w'.heap.size := (by have h := hb.size; (try simp at h); omega))); obtain ⟨hc, hf⟩ := bcell hb; clear hb))
    go_ret2
    exact RetRB.nil (Below.thenn hWV hB hWV.size)
  rw [show idxR (numP number) rows = (j : Int) from ha] at cf
  have CF := Lib.hid cf
  have hj0 : ¬ ((j : Int) < 0) := by omega
  have cd := fun w' => impl_isDay day w'
  rcases hd : inr day 0 999 with _ | _
  · obtain rfl : V = [] := by rw [← HV.out]; simp [useV, useOk, hd]
    obtain rfl : O = false := by rw [← HO.out]; simp [useOk, hd]
    rw [hd] at cd
    have CD := Lib.hid cd
    clear cg cf hg HV HO ha hr hra cd
    go_enter Try.func44, Try.ntmps44
    go_wp2_with fail
    generalize wo.alloc (.cells #[.int .i64 number] 3) = w at hWV hV0 hv0 ⊢
    have hB : Below w.heap.size w w := Below.refl _ _
    go_wp2_with (first | (go_at_call 73; refine (CF.out _ (h.below hWV) _ hv0 hV0).mono ?_; rintro e w' ⟨rfl, hb⟩; have hB : Below w.heap.size w w' := Below.thenn (by repeat (first | exact Below.refl _ _ | assumption | apply Below.drew | apply below_drewN | (refine Below.alloc ?_ (by first | omega | (simp; done) | (simp; omega)) _) | (refine Below.setCell ?_ (by first | omega | (simp; done) | (simp; omega)) _))) hb (by first | omega | (simp; done) | (simp; omega)); have hz : w.heap.size ≤ w'.heap.size := hB.size; (try (have hz1 : w.heap.size + 1 ≤ w'.heap.size := (by have h := hb.size; (try simp at h); omega))); obtain ⟨hc, hf⟩ := bcell hb; clear hb) | (go_at_call 31; refine (CG.out _ (h.below (Below.thenn hWV hB hWV.size))).mono ?_; rintro e w' ⟨rfl, hb⟩; have hB : Below w.heap.size w w' := Below.thenn (by repeat (first | exact Below.refl _ _ | assumption | apply Below.drew | apply below_drewN | (refine Below.alloc ?_ (by first | omega | (simp; done) | (simp; omega)) _) | (refine Below.setCell ?_ (by first | omega | (simp; done) | (simp; omega)) _))) hb (by first | omega | (simp; done) | (simp; omega)); have hz : w.heap.size ≤ w'.heap.size := hB.size; (try (have hz1 : w.heap.size + 1 ≤ w'.heap.size := (by have h := hb.size; (try simp at h); omega))); obtain ⟨hc, hf⟩ := bcell hb; clear hb) | (go_at_call 58; refine (CD.out _).mono ?_; rintro e w' ⟨rfl, rfl⟩))
    go_ret2
    exact RetRB.nil (Below.thenn hWV hB hWV.size)
  rw [hd] at cd
  have CD := Lib.hid cd
  have hj : j < rows.length := (List.getElem?_eq_some_iff.1 hr).1
  obtain ⟨b, off, x0, x1, x2, x3, x4, rfl, hrj, hblt, d0, d1, d2, d3, d4⟩ := h.row5 hj
  obtain rfl : r = [x0, x1, x2, x3, x4] := by rw [hr] at hrj; injection hrj
  have hjz : (j : Int) < (rows.length : Int) := by omega
  have hgx := (goodR hg hrj).1
  have x30 : 0 ≤ x3 := by omega
  have x31 : x3 ≤ 50 := by omega
  have x40 : 0 ≤ x4 := by omega
  have x41 : x4 ≤ 50 := by omega
  have HTk := goodT hg hrj
  have CC := Lib.hid (fun w => impl_canRide x0 x1 x2 x3 x4 day up w HTk)
  have HCn : Hid (canR day up [x0, x1, x2, x3, x4] = canT x1 x2 x3 x4 day up) := rfl
  rcases hcn : canT x1 x2 x3 x4 day up with _ | _
  · obtain rfl : V = [] := by rw [← HV.out]; unfold useV useOk; rw [hra, HCn.out, hcn]; simp
    obtain rfl : O = false := by rw [← HO.out]; unfold useOk; rw [hra, HCn.out, hcn]; simp
    rw [hcn] at CC
    clear cg cf hg HV HO ha hr hra cd hrj hgx hcn HTk
    go_enter Try.func44, Try.ntmps44
    go_wp2_with fail
    generalize wo.alloc (.cells #[.int .i64 number] 3) = w at hWV hV0 hv0 ⊢
    have hB : Below w.heap.size w w := Below.refl _ _
    rw [← hWV.cell (p := ⟨b, _, none⟩) hblt] at d0 d1 d2 d3 d4
    have hbw : b < w.heap.size := by omega
    go_wp2_with (first | (go_at_call 73; refine (CF.out _ (h.below hWV) _ hv0 hV0).mono ?_; rintro e w' ⟨rfl, hb⟩; have hB : Below w.heap.size w w' := Below.thenn (by repeat (first | exact Below.refl _ _ | assumption | apply Below.drew | apply below_drewN | (refine Below.alloc ?_ (by first | omega | (simp; done) | (simp; omega)) _) | (refine Below.setCell ?_ (by first | omega | (simp; done) | (simp; omega)) _))) hb (by first | omega | (simp; done) | (simp; omega)); have hz : w.heap.size ≤ w'.heap.size := hB.size; (try (have hz1 : w.heap.size + 1 ≤ w'.heap.size := (by have h := hb.size; (try simp at h); omega))); obtain ⟨hc, hf⟩ := bcell hb; rw [← hc b _ hbw] at d0 d1 d2 d3 d4; have hbw := Nat.lt_of_lt_of_le hbw hb.size; clear hb) | (go_at_call 31; refine (CG.out _ (h.below (Below.thenn hWV hB hWV.size))).mono ?_; rintro e w' ⟨rfl, hb⟩; have hB : Below w.heap.size w w' := Below.thenn (by repeat (first | exact Below.refl _ _ | assumption | apply Below.drew | apply below_drewN | (refine Below.alloc ?_ (by first | omega | (simp; done) | (simp; omega)) _) | (refine Below.setCell ?_ (by first | omega | (simp; done) | (simp; omega)) _))) hb (by first | omega | (simp; done) | (simp; omega)); have hz : w.heap.size ≤ w'.heap.size := hB.size; (try (have hz1 : w.heap.size + 1 ≤ w'.heap.size := (by have h := hb.size; (try simp at h); omega))); obtain ⟨hc, hf⟩ := bcell hb; rw [← hc b _ hbw] at d0 d1 d2 d3 d4; have hbw := Nat.lt_of_lt_of_le hbw hb.size; clear hb) | (go_at_call 58; refine (CD.out _).mono ?_; rintro e w' ⟨rfl, rfl⟩) | (go_at_call 64; refine (CC.out _).mono ?_; rintro e w' ⟨rfl, hb⟩; have hB : Below w.heap.size w w' := Below.thenn (by repeat (first | exact Below.refl _ _ | assumption | apply Below.drew | apply below_drewN | (refine Below.alloc ?_ (by first | omega | (simp; done) | (simp; omega)) _) | (refine Below.setCell ?_ (by first | omega | (simp; done) | (simp; omega)) _))) hb (by first | omega | (simp; done) | (simp; omega)); have hz : w.heap.size ≤ w'.heap.size := hB.size; (try (have hz1 : w.heap.size + 1 ≤ w'.heap.size := (by have h := hb.size; (try simp at h); omega))); obtain ⟨hc, hf⟩ := bcell hb; clear hb))
    go_ret2
    exact RetRB.nil (Below.thenn hWV hB hWV.size)
  have hok : useOk rows number day up = true := by unfold useOk; rw [hg, hd, ha, hra, HCn.out, hcn]; simp
  obtain rfl : O = true := by rw [← HO.out]; exact hok
  have HVV : Hid (V = rows.set j (useR up [x0, x1, x2, x3, x4])) := (show _ = _ by rw [← HV.out]; unfold useV useL; rw [hok, ha, hra]; simp)
  rw [hcn] at CC
  have CCl := Lib.hid (fun w' (h' : RdR w' 5 (some ⟨b, off, none⟩) rows.length rows) => slices_Clone_Ticket (some ⟨b, off, none⟩) rows.length c rows w' h' hm (fun e => by cases e))
  have HRK := Lib.hid hrj
  clear cg cf hg HV HO ha hr hra cd hrj hgx hcn HTk hok hA
  rcases up with _ | _
  · obtain rfl : V = rows.set j [x0, x1, x2, x3, x4 + 1] := by rw [HVV.out]; simp [useR, fld]
    have HLS : Hid ((rows.set j [x0, x1, x2, x3, x4 + 1]).length = rows.length) := (show _ = _ by rw [List.length_set])
    clear HVV
    go_enter Try.func44, Try.ntmps44
    go_wp2_with fail
    generalize wo.alloc (.cells #[.int .i64 number] 3) = w at hWV hV0 hv0 ⊢
    have hB : Below w.heap.size w w := Below.refl _ _
    have hwz : wo.heap.size ≤ w.heap.size := hWV.size
    rw [← hWV.cell (p := ⟨b, _, none⟩) hblt] at d0 d1 d2 d3 d4
    have hbw : b < w.heap.size := by omega
    go_wp2_with (first | (go_at_call 73; refine (CF.out _ (h.below hWV) _ hv0 hV0).mono ?_; rintro e w' ⟨rfl, hb⟩; have hB : Below w.heap.size w w' := Below.thenn (by repeat (first | exact Below.refl _ _ | assumption | apply Below.drew | apply below_drewN | (refine Below.alloc ?_ (by first | omega | (simp; done) | (simp; omega)) _) | (refine Below.setCell ?_ (by first | omega | (simp; done) | (simp; omega)) _))) hb (by first | omega | (simp; done) | (simp; omega)); have hz : w.heap.size ≤ w'.heap.size := hB.size; (try (have hz1 : w.heap.size + 1 ≤ w'.heap.size := (by have h := hb.size; (try simp at h); omega))); obtain ⟨hc, hf⟩ := bcell hb; rw [← hc b _ hbw] at d0 d1 d2 d3 d4; have hbw := Nat.lt_of_lt_of_le hbw hb.size; clear hb) | (go_at_call 31; refine (CG.out _ (h.below (Below.thenn hWV hB hWV.size))).mono ?_; rintro e w' ⟨rfl, hb⟩; have hB : Below w.heap.size w w' := Below.thenn (by repeat (first | exact Below.refl _ _ | assumption | apply Below.drew | apply below_drewN | (refine Below.alloc ?_ (by first | omega | (simp; done) | (simp; omega)) _) | (refine Below.setCell ?_ (by first | omega | (simp; done) | (simp; omega)) _))) hb (by first | omega | (simp; done) | (simp; omega)); have hz : w.heap.size ≤ w'.heap.size := hB.size; (try (have hz1 : w.heap.size + 1 ≤ w'.heap.size := (by have h := hb.size; (try simp at h); omega))); obtain ⟨hc, hf⟩ := bcell hb; rw [← hc b _ hbw] at d0 d1 d2 d3 d4; have hbw := Nat.lt_of_lt_of_le hbw hb.size; clear hb) | (go_at_call 58; refine (CD.out _).mono ?_; rintro e w' ⟨rfl, rfl⟩) | (go_at_call 64; refine (CC.out _).mono ?_; rintro e w' ⟨rfl, hb⟩; have hB : Below w.heap.size w w' := Below.thenn (by repeat (first | exact Below.refl _ _ | assumption | apply Below.drew | apply below_drewN | (refine Below.alloc ?_ (by first | omega | (simp; done) | (simp; omega)) _) | (refine Below.setCell ?_ (by first | omega | (simp; done) | (simp; omega)) _))) hb (by first | omega | (simp; done) | (simp; omega)); have hz : w.heap.size ≤ w'.heap.size := hB.size; (try (have hz1 : w.heap.size + 1 ≤ w'.heap.size := (by have h := hb.size; (try simp at h); omega))); obtain ⟨hc, hf⟩ := bcell hb; clear hb) | (go_at_call 71; refine (CCl.out _ (h.below (Below.thenn hWV hB hwz))).mono ?_; rintro e w1 ⟨A1, c1, rfl, ho1, hb1⟩; have hB1 : Below w.heap.size w w1 := Below.thenn hB hb1 hz; obtain ⟨g, rfl, hgB, hgl, ⟨c0, c1', c2, c3, c4⟩, hfs⟩ := ho1.cells5 HRK.out; have HO1 := Lib.hid (ho1.put1 4 (y := x4 + 1) rfl HRK.out (by omega) (r := [x0, x1, x2, x3, x4 + 1]) rfl); have hgw : w.heap.size ≤ g := Nat.le_trans hz hgB; have HBP := Lib.hid (hB1.setCell (p := ⟨g, j * 5 + 4, none⟩) hgw (.int .i64 (x4 + 1))); clear ho1 hb1 hB1))
    go_ret2
    exact ⟨_, _, ret_ssb HLS.out.symm, OwR.cast_ (HO1.out.base (Nat.le_trans hwz hz)) HLS.out.symm, Below.thenn hWV HBP.out hwz⟩
  · obtain rfl : V = rows.set j [x0, x1, x2, x3 + 1, x4] := by rw [HVV.out]; simp [useR, fld]
    have HLS : Hid ((rows.set j [x0, x1, x2, x3 + 1, x4]).length = rows.length) := (show _ = _ by rw [List.length_set])
    clear HVV
    go_enter Try.func44, Try.ntmps44
    go_wp2_with fail
    generalize wo.alloc (.cells #[.int .i64 number] 3) = w at hWV hV0 hv0 ⊢
    have hB : Below w.heap.size w w := Below.refl _ _
    have hwz : wo.heap.size ≤ w.heap.size := hWV.size
    rw [← hWV.cell (p := ⟨b, _, none⟩) hblt] at d0 d1 d2 d3 d4
    have hbw : b < w.heap.size := by omega
    go_wp2_with (first | (go_at_call 73; refine (CF.out _ (h.below hWV) _ hv0 hV0).mono ?_; rintro e w' ⟨rfl, hb⟩; have hB : Below w.heap.size w w' := Below.thenn (by repeat (first | exact Below.refl _ _ | assumption | apply Below.drew | apply below_drewN | (refine Below.alloc ?_ (by first | omega | (simp; done) | (simp; omega)) _) | (refine Below.setCell ?_ (by first | omega | (simp; done) | (simp; omega)) _))) hb (by first | omega | (simp; done) | (simp; omega)); have hz : w.heap.size ≤ w'.heap.size := hB.size; (try (have hz1 : w.heap.size + 1 ≤ w'.heap.size := (by have h := hb.size; (try simp at h); omega))); obtain ⟨hc, hf⟩ := bcell hb; rw [← hc b _ hbw] at d0 d1 d2 d3 d4; have hbw := Nat.lt_of_lt_of_le hbw hb.size; clear hb) | (go_at_call 31; refine (CG.out _ (h.below (Below.thenn hWV hB hWV.size))).mono ?_; rintro e w' ⟨rfl, hb⟩; have hB : Below w.heap.size w w' := Below.thenn (by repeat (first | exact Below.refl _ _ | assumption | apply Below.drew | apply below_drewN | (refine Below.alloc ?_ (by first | omega | (simp; done) | (simp; omega)) _) | (refine Below.setCell ?_ (by first | omega | (simp; done) | (simp; omega)) _))) hb (by first | omega | (simp; done) | (simp; omega)); have hz : w.heap.size ≤ w'.heap.size := hB.size; (try (have hz1 : w.heap.size + 1 ≤ w'.heap.size := (by have h := hb.size; (try simp at h); omega))); obtain ⟨hc, hf⟩ := bcell hb; rw [← hc b _ hbw] at d0 d1 d2 d3 d4; have hbw := Nat.lt_of_lt_of_le hbw hb.size; clear hb) | (go_at_call 58; refine (CD.out _).mono ?_; rintro e w' ⟨rfl, rfl⟩) | (go_at_call 64; refine (CC.out _).mono ?_; rintro e w' ⟨rfl, hb⟩; have hB : Below w.heap.size w w' := Below.thenn (by repeat (first | exact Below.refl _ _ | assumption | apply Below.drew | apply below_drewN | (refine Below.alloc ?_ (by first | omega | (simp; done) | (simp; omega)) _) | (refine Below.setCell ?_ (by first | omega | (simp; done) | (simp; omega)) _))) hb (by first | omega | (simp; done) | (simp; omega)); have hz : w.heap.size ≤ w'.heap.size := hB.size; (try (have hz1 : w.heap.size + 1 ≤ w'.heap.size := (by have h := hb.size; (try simp at h); omega))); obtain ⟨hc, hf⟩ := bcell hb; clear hb) | (go_at_call 71; refine (CCl.out _ (h.below (Below.thenn hWV hB hwz))).mono ?_; rintro e w1 ⟨A1, c1, rfl, ho1, hb1⟩; have hB1 : Below w.heap.size w w1 := Below.thenn hB hb1 hz; obtain ⟨g, rfl, hgB, hgl, ⟨c0, c1', c2, c3, c4⟩, hfs⟩ := ho1.cells5 HRK.out; have HO1 := Lib.hid (ho1.put1 3 (y := x3 + 1) rfl HRK.out (by omega) (r := [x0, x1, x2, x3 + 1, x4]) rfl); have hgw : w.heap.size ≤ g := Nat.le_trans hz hgB; have HBP := Lib.hid (hB1.setCell (p := ⟨g, j * 5 + 3, none⟩) hgw (.int .i64 (x3 + 1))); clear ho1 hb1 hB1))
    go_ret2
    exact ⟨_, _, ret_ssb HLS.out.symm, OwR.cast_ (HO1.out.base (Nat.le_trans hwz hz)) HLS.out.symm, Below.thenn hWV HBP.out hwz⟩
end Go.Proofs.Ytobcgcdjoogfnaa
