/- The grips: a grip replaced in a list of the call's own. -/
import Derived.Test.YtfnpbmndkbaodaaGripI
namespace Go.Proofs.Ytfnpbmndkbaodaa
open Go.RowKit
set_option linter.unusedVariables false
set_option linter.unusedSimpArgs false

theorem OwR.base {w : World} {B B' : Nat} {e : TypeId} {F : Nat} {v : Value} {rows : List (List Int)} (h : OwR w B e F v rows) (hb : B' ≤ B) : OwR w B' e F v rows := ⟨h.1.base hb, h.2⟩
theorem OwR.cast_ {w : World} {B : Nat} {e : TypeId} {F n m c : Nat} {A : Option Addr} {rows : List (List Int)} (h : OwR w B e F (.slice A n c) rows) (hn : n = m) : OwR w B e F (.slice A m c) rows := hn ▸ h
theorem RdR.castN {w : World} {F n m : Nat} {A : Option Addr} {rows : List (List Int)} (h : RdR w F A n rows) (e : n = m) : RdR w F A m rows := e ▸ h
def withV (rows : List (List Int)) (k : Nat) (r : List Int) : List (List Int) := if good (rows.set k r) then rows.set k r else []
def withOk (rows : List (List Int)) (k : Nat) (r : List Int) : Bool := good (rows.set k r)
theorem Below.put5 {B : Nat} {a w : World} {g k : Nat} (h : Below B a w) (hg : B ≤ g) (b0 b1 b2 b3 b4 : Value) :
    Below B a (((((w.setCell ⟨g, k, none⟩ b0).setCell ⟨g, k + 1, none⟩ b1).setCell ⟨g, k + 2, none⟩ b2).setCell ⟨g, k + 3, none⟩ b3).setCell ⟨g, k + 4, none⟩ b4) :=
  ((((h.setCell (p := ⟨g, k, none⟩) hg _).setCell (p := ⟨g, k + 1, none⟩) hg _).setCell (p := ⟨g, k + 2, none⟩) hg _).setCell (p := ⟨g, k + 3, none⟩) hg _).setCell (p := ⟨g, k + 4, none⟩) hg _
theorem size_put5 {w : World} {g k : Nat} (b0 b1 b2 b3 b4 : Value) : (((((w.setCell ⟨g, k, none⟩ b0).setCell ⟨g, k + 1, none⟩ b1).setCell ⟨g, k + 2, none⟩ b2).setCell ⟨g, k + 3, none⟩ b3).setCell ⟨g, k + 4, none⟩ b4).heap.size = w.heap.size := by simp [World.setCell]
theorem OwR.put5 {w : World} {B g n c k : Nat} {e : TypeId} {rows : List (List Int)} {x0 x1 x2 x3 x4 y0 y1 y2 y3 y4 : Int} (h : OwR w B e 5 (.slice (some ⟨g, 0, none⟩) n c) rows) (hn : rows.length = n) (hr : rows[k]? = some [x0, x1, x2, x3, x4]) :
    OwR (((((w.setCell ⟨g, k * 5, none⟩ (.int .i64 y0)).setCell ⟨g, k * 5 + 1, none⟩ (.int .i64 y1)).setCell ⟨g, k * 5 + 2, none⟩ (.int .i64 y2)).setCell ⟨g, k * 5 + 3, none⟩ (.int .i64 y3)).setCell ⟨g, k * 5 + 4, none⟩ (.int .i64 y4)) B e 5
      (.slice (some ⟨g, 0, none⟩) n c) (rows.set k [y0, y1, y2, y3, y4]) := by
  have h0 := h.set1 hn hr (j := 0) (by omega) y0
  have r0 := set_twice (r' := [x0, x1, x2, x3, x4].set 0 y0) hr
  have h1 := h0.set1 (by simpa using hn) r0 (j := 1) (by omega) y1
  have r1 := set_twice (r' := ([x0, x1, x2, x3, x4].set 0 y0).set 1 y1) r0
  have h2 := h1.set1 (by simpa using hn) r1 (j := 2) (by omega) y2
  have r2 := set_twice (r' := (([x0, x1, x2, x3, x4].set 0 y0).set 1 y1).set 2 y2) r1
  have h3 := h2.set1 (by simpa using hn) r2 (j := 3) (by omega) y3
  have r3 := set_twice (r' := ((([x0, x1, x2, x3, x4].set 0 y0).set 1 y1).set 2 y2).set 3 y3) r2
  have h4 := h3.set1 (by simpa using hn) r3 (j := 4) (by omega) y4
  simpa using h4
set_option maxHeartbeats 2000000 in
theorem spec_l7With (A : Option Addr) (n c k : Nat) (rows : List (List Int)) (y0 y1 y2 y3 y4 : Int) (wo : World) (h : RdR wo 5 A n rows) (hm : n ≤ 1048577) (hk : k < n) :
    Calls Try.prog 63 #[.slice A n c, .int .i64 k, .agg #[.int .i64 y0, .int .i64 y1, .int .i64 y2, .int .i64 y3, .int .i64 y4]] wo (RetRB wo 48 5 (withV rows k [y0, y1, y2, y3, y4]) (withOk rows k [y0, y1, y2, y3, y4])) := by
  obtain rfl : rows.length = n := h.2.2
  obtain ⟨_, _, x0, x1, x2, x3, x4, _, hrk, _⟩ := h.row5 hk
  have HRK := Lib.hid hrk
  have hkz : (k : Int) < (rows.length : Int) := by omega
  have cg := fun (w' : World) (A' : Option Addr) (c' : Nat) (h' : RdR w' 5 A' rows.length (rows.set k [y0, y1, y2, y3, y4])) => spec_l7Good A' rows.length c' (rows.set k [y0, y1, y2, y3, y4]) w' h' hm
  have HLS : Hid ((rows.set k [y0, y1, y2, y3, y4]).length = rows.length) := (show _ = _ by rw [List.length_set])
  clear hrk
  rcases hg : good (rows.set k [y0, y1, y2, y3, y4]) with _ | _
  all_goals rw [hg] at cg
  all_goals have CG := Lib.hid cg
  · rw [show withV rows k [y0, y1, y2, y3, y4] = [] by unfold withV; rw [hg]; rfl, show withOk rows k [y0, y1, y2, y3, y4] = false by unfold withOk; rw [hg]]
    clear cg hg
    go_enter Try.func63, Try.ntmps63
    go_upto_region 1 with fail
    (have hWV : Below wo.heap.size wo (wo.alloc (.cells #[.int .i64 y0, .int .i64 y1, .int .i64 y2, .int .i64 y3, .int .i64 y4] 48)) := (Below.refl _ _).alloc (Nat.le_refl _) _; have hV0 : wo.heap.size < (wo.alloc (.cells #[.int .i64 y0, .int .i64 y1, .int .i64 y2, .int .i64 y3, .int .i64 y4] 48)).heap.size := (by simp); have hv0 : (wo.alloc (.cells #[.int .i64 y0, .int .i64 y1, .int .i64 y2, .int .i64 y3, .int .i64 y4] 48)).cell? ⟨wo.heap.size, 0, none⟩ = some (.int .i64 y0) := (by rw [cell_of_row _ _ _ _ _ _ (heap_alloc_new wo _)]; rfl); have hv1 : (wo.alloc (.cells #[.int .i64 y0, .int .i64 y1, .int .i64 y2, .int .i64 y3, .int .i64 y4] 48)).cell? ⟨wo.heap.size, 1, none⟩ = some (.int .i64 y1) := (by rw [cell_of_row _ _ _ _ _ _ (heap_alloc_new wo _)]; rfl); have hv2 : (wo.alloc (.cells #[.int .i64 y0, .int .i64 y1, .int .i64 y2, .int .i64 y3, .int .i64 y4] 48)).cell? ⟨wo.heap.size, 2, none⟩ = some (.int .i64 y2) := (by rw [cell_of_row _ _ _ _ _ _ (heap_alloc_new wo _)]; rfl); have hv3 : (wo.alloc (.cells #[.int .i64 y0, .int .i64 y1, .int .i64 y2, .int .i64 y3, .int .i64 y4] 48)).cell? ⟨wo.heap.size, 3, none⟩ = some (.int .i64 y3) := (by rw [cell_of_row _ _ _ _ _ _ (heap_alloc_new wo _)]; rfl); have hv4 : (wo.alloc (.cells #[.int .i64 y0, .int .i64 y1, .int .i64 y2, .int .i64 y3, .int .i64 y4] 48)).cell? ⟨wo.heap.size, 4, none⟩ = some (.int .i64 y4) := (by rw [cell_of_row _ _ _ _ _ _ (heap_alloc_new wo _)]; rfl); generalize wo.alloc (.cells #[.int .i64 y0, .int .i64 y1, .int .i64 y2, .int .i64 y3, .int .i64 y4] 48) = w at hWV hV0 hv0 hv1 hv2 hv3 hv4 ⊢; have hr := h.below hWV; have hB : Below w.heap.size w w := Below.refl _ _; have hwz : wo.heap.size ≤ w.heap.size := hWV.size)
    go_wp2_with (first | (at_builtin; refine wp_app_GripS rfl (.tmp 9) (.tmp 10) rfl (w.alloc (.cells #[] 48)) w.heap.size (.slice (some ⟨w.heap.size, 0, none⟩) 0 0) [] rfl (OwR.lit0 w w.heap.size _ _ (Nat.le_refl _)) A rows.length c rows rfl (hr.below ((Below.refl _ _).alloc (Nat.le_refl _) _)) (by simp; omega) (by simp) ?_; intro A1 c1 w1 ho1 hb1; rw [List.nil_append] at ho1; have hB1 : Below w.heap.size w w1 := ((Below.refl _ _).alloc (Nat.le_refl _) _).trans hb1; obtain ⟨g, rfl, hgB, hgl, ⟨c0, c1', c2, c3, c4⟩, hfs⟩ := ho1.cells5 HRK.out; have HO1 := Lib.hid (ho1.put5 (y0 := y0) (y1 := y1) (y2 := y2) (y3 := y3) (y4 := y4) rfl HRK.out); have hz1 : w.heap.size ≤ w1.heap.size := hB1.size; have a0 := (hB1.cell (p := ⟨wo.heap.size, 0, none⟩) hV0).trans hv0; have a1 := (hB1.cell (p := ⟨wo.heap.size, 1, none⟩) hV0).trans hv1; have a2 := (hB1.cell (p := ⟨wo.heap.size, 2, none⟩) hV0).trans hv2; have a3 := (hB1.cell (p := ⟨wo.heap.size, 3, none⟩) hV0).trans hv3; have a4 := (hB1.cell (p := ⟨wo.heap.size, 4, none⟩) hV0).trans hv4; have HBP := Lib.hid (Below.put5 (k := k * 5) hB1 hgB (.int .i64 y0) (.int .i64 y1) (.int .i64 y2) (.int .i64 y3) (.int .i64 y4)); have HSP := Lib.hid (size_put5 (w := w1) (g := g) (k := k * 5) (.int .i64 y0) (.int .i64 y1) (.int .i64 y2) (.int .i64 y3) (.int .i64 y4)); clear ho1 hb1 hB1) | (go_at_call 50; refine (CG.out _ _ _ (RdR.castN HO1.out.rdR HLS.out)).mono ?_; rintro e w2 ⟨rfl, hb⟩; have hB2 : Below w.heap.size w w2 := Below.thenn HBP.out hb HBP.out.size; have HO2 := Lib.hid (HO1.out.below hb); clear hb))
    go_ret2
    exact ⟨some ⟨_, 0, none⟩, 0, rfl, OwR.lit0 _ _ _ _ (Nat.le_trans hwz hB2.size), Below.thenn hWV (hB2.alloc hB2.size _) hwz⟩
  · rw [show withV rows k [y0, y1, y2, y3, y4] = rows.set k [y0, y1, y2, y3, y4] by unfold withV; rw [hg]; rfl, show withOk rows k [y0, y1, y2, y3, y4] = true by unfold withOk; rw [hg]]
    clear cg hg
    go_enter Try.func63, Try.ntmps63
    go_upto_region 1 with fail
    (have hWV : Below wo.heap.size wo (wo.alloc (.cells #[.int .i64 y0, .int .i64 y1, .int .i64 y2, .int .i64 y3, .int .i64 y4] 48)) := (Below.refl _ _).alloc (Nat.le_refl _) _; have hV0 : wo.heap.size < (wo.alloc (.cells #[.int .i64 y0, .int .i64 y1, .int .i64 y2, .int .i64 y3, .int .i64 y4] 48)).heap.size := (by simp); have hv0 : (wo.alloc (.cells #[.int .i64 y0, .int .i64 y1, .int .i64 y2, .int .i64 y3, .int .i64 y4] 48)).cell? ⟨wo.heap.size, 0, none⟩ = some (.int .i64 y0) := (by rw [cell_of_row _ _ _ _ _ _ (heap_alloc_new wo _)]; rfl); have hv1 : (wo.alloc (.cells #[.int .i64 y0, .int .i64 y1, .int .i64 y2, .int .i64 y3, .int .i64 y4] 48)).cell? ⟨wo.heap.size, 1, none⟩ = some (.int .i64 y1) := (by rw [cell_of_row _ _ _ _ _ _ (heap_alloc_new wo _)]; rfl); have hv2 : (wo.alloc (.cells #[.int .i64 y0, .int .i64 y1, .int .i64 y2, .int .i64 y3, .int .i64 y4] 48)).cell? ⟨wo.heap.size, 2, none⟩ = some (.int .i64 y2) := (by rw [cell_of_row _ _ _ _ _ _ (heap_alloc_new wo _)]; rfl); have hv3 : (wo.alloc (.cells #[.int .i64 y0, .int .i64 y1, .int .i64 y2, .int .i64 y3, .int .i64 y4] 48)).cell? ⟨wo.heap.size, 3, none⟩ = some (.int .i64 y3) := (by rw [cell_of_row _ _ _ _ _ _ (heap_alloc_new wo _)]; rfl); have hv4 : (wo.alloc (.cells #[.int .i64 y0, .int .i64 y1, .int .i64 y2, .int .i64 y3, .int .i64 y4] 48)).cell? ⟨wo.heap.size, 4, none⟩ = some (.int .i64 y4) := (by rw [cell_of_row _ _ _ _ _ _ (heap_alloc_new wo _)]; rfl); generalize wo.alloc (.cells #[.int .i64 y0, .int .i64 y1, .int .i64 y2, .int .i64 y3, .int .i64 y4] 48) = w at hWV hV0 hv0 hv1 hv2 hv3 hv4 ⊢; have hr := h.below hWV; have hB : Below w.heap.size w w := Below.refl _ _; have hwz : wo.heap.size ≤ w.heap.size := hWV.size)
    go_wp2_with (first | (at_builtin; refine wp_app_GripS rfl (.tmp 9) (.tmp 10) rfl (w.alloc (.cells #[] 48)) w.heap.size (.slice (some ⟨w.heap.size, 0, none⟩) 0 0) [] rfl (OwR.lit0 w w.heap.size _ _ (Nat.le_refl _)) A rows.length c rows rfl (hr.below ((Below.refl _ _).alloc (Nat.le_refl _) _)) (by simp; omega) (by simp) ?_; intro A1 c1 w1 ho1 hb1; rw [List.nil_append] at ho1; have hB1 : Below w.heap.size w w1 := ((Below.refl _ _).alloc (Nat.le_refl _) _).trans hb1; obtain ⟨g, rfl, hgB, hgl, ⟨c0, c1', c2, c3, c4⟩, hfs⟩ := ho1.cells5 HRK.out; have HO1 := Lib.hid (ho1.put5 (y0 := y0) (y1 := y1) (y2 := y2) (y3 := y3) (y4 := y4) rfl HRK.out); have hz1 : w.heap.size ≤ w1.heap.size := hB1.size; have a0 := (hB1.cell (p := ⟨wo.heap.size, 0, none⟩) hV0).trans hv0; have a1 := (hB1.cell (p := ⟨wo.heap.size, 1, none⟩) hV0).trans hv1; have a2 := (hB1.cell (p := ⟨wo.heap.size, 2, none⟩) hV0).trans hv2; have a3 := (hB1.cell (p := ⟨wo.heap.size, 3, none⟩) hV0).trans hv3; have a4 := (hB1.cell (p := ⟨wo.heap.size, 4, none⟩) hV0).trans hv4; have HBP := Lib.hid (Below.put5 (k := k * 5) hB1 hgB (.int .i64 y0) (.int .i64 y1) (.int .i64 y2) (.int .i64 y3) (.int .i64 y4)); have HSP := Lib.hid (size_put5 (w := w1) (g := g) (k := k * 5) (.int .i64 y0) (.int .i64 y1) (.int .i64 y2) (.int .i64 y3) (.int .i64 y4)); clear ho1 hb1 hB1) | (go_at_call 50; refine (CG.out _ _ _ (RdR.castN HO1.out.rdR HLS.out)).mono ?_; rintro e w2 ⟨rfl, hb⟩; have hB2 : Below w.heap.size w w2 := Below.thenn HBP.out hb HBP.out.size; have HO2 := Lib.hid (HO1.out.below hb); clear hb))
    go_ret2
    exact ⟨_, _, ret_ssb HLS.out.symm, OwR.cast_ (HO2.out.base hwz) HLS.out.symm, Below.thenn hWV hB2 hwz⟩
end Go.Proofs.Ytfnpbmndkbaodaa
