/- The grips: the grip of a cabin, opened or tested. -/
import Derived.Test.YtfnpbmndkbaodaaGripG
import Derived.Test.YtfnpbmndkbaodaaFlGripC
import Derived.Test.YtfnpbmndkbaodaaIdxG
import Derived.Test.YtfnpbmndkbaodaaPut
namespace Go.Proofs.Ytfnpbmndkbaodaa
open Go.RowKit
set_option linter.unusedVariables false
set_option linter.unusedSimpArgs false

theorem gripOf_1 (x0 x1 x2 x3 x4 v : Int) (g : Nat) (W : World) (hc : W.cell? ⟨g, 0, none⟩ = some (.int .i64 v)) (hg : g < W.heap.size) :
    Calls Try.prog 81 #[.agg #[.int .i64 x0, .int .i64 x1, .int .i64 x2, .int .i64 x3, .int .i64 x4], .pointer (some ⟨g, 0, none⟩)] W (Ret W (.bool (numP v [x0, x1, x2, x3, x4]))) := by
  go_enter Try.func81, Try.ntmps81
  go_wp2
  go_ret
  exact ⟨ret_bool (by simp [numP, fld]), (by repeat (first | exact Below.refl _ _ | assumption | apply Below.drew | apply below_drewN | (refine Below.alloc ?_ (by first | omega | (simp; done) | (simp; omega)) _) | (refine Below.setCell ?_ (by first | omega | (simp; done) | (simp; omega)) _)))⟩
def atV (rows : List (List Int)) (cab : Int) : Int := idxR (numP cab) rows
theorem spec_l7Find (A : Option Addr) (n c : Nat) (rows : List (List Int)) (cab : Int) (w : World) (h : RdR w 5 A n rows) (hm : n ≤ 1048577) :
    Calls Try.prog 62 #[.slice A n c, .int .i64 cab] w fun e w' => e = .returned (.int .i64 (atV rows cab)) ∧ w = w' := by
  have hl := Lib.hid h.2.2
  go_enter Try.func62, Try.ntmps62
  go_wp2
  go_loopg [5] n (fun gg i wr => ∃ k : Nat, k ≤ n ∧ n ≤ k + gg ∧ i = .int .i64 k ∧ w = wr ∧ Hid (idxF (numP cab) k (rows.drop k) = atV rows cab))
  case atStart => exact ⟨0, by omega, by omega, rfl, rfl, rfl⟩
  case round =>
    obtain ⟨k, hk1, hk2, rfl, rfl, ha⟩ := hrel
    by_cases hlt : k < n
    · obtain ⟨b, off, x0, x1, x2, x3, x4, rfl, hr, hblt, c0, c1', c2, c3, c4⟩ := h.row5 hlt
      have HR := Lib.hid hr
      have HH := Lib.hid h
      clear hr h
      by_cases hq : x0 = cab
      · subst hq
        have HP : Hid (numP x0 [x0, x1, x2, x3, x4] = true) := (show _ = _ by simp [numP, fld])
        go_wp2_with fail
        go_ret
        exact ⟨ret_int (by rw [← ha.out, idxF_yes HR.out HP.out]), rfl⟩
      · have HP : Hid (numP cab [x0, x1, x2, x3, x4] = false) := (show _ = _ by simp [numP, fld, hq])
        have hne : (x0 == cab) = false := by simp [hq]
        clear hq
        go_wp2_with fail
        go_roundg (n - (k + 1))
        case measure => omega
        case rel => exact ⟨k + 1, by omega, by omega, by go_num, rfl, (idxF_no HR.out HP.out).symm.trans ha.out⟩
    · go_wp2_with fail
      go_ret
      exact ⟨ret_int (by rw [← ha.out, idxF_end hl.out (by omega)]), rfl⟩
def atG (rows : List (List Int)) (cab : Int) : Int := if good rows then atV rows cab else -1
theorem impl_gripOf (A : Option Addr) (n c : Nat) (rows : List (List Int)) (cab : Int) (wo : World) (h : RdR wo 5 A n rows) (hm : n ≤ 1048577) :
    Calls Try.prog 64 #[.slice A n c, .int .i64 cab] wo (Ret wo (.int .i64 (atG rows cab))) := by
  have hWV : Below wo.heap.size wo (wo.alloc (.cells #[.int .i64 cab] 3)) := (Below.refl _ _).alloc (Nat.le_refl _) _
  have hV0 : wo.heap.size < (wo.alloc (.cells #[.int .i64 cab] 3)).heap.size := by simp
  have hv0 : (wo.alloc (.cells #[.int .i64 cab] 3)).cell? ⟨wo.heap.size, 0, none⟩ = some (.int .i64 cab) := by rw [cell_of_row _ _ _ _ _ _ (heap_alloc_new wo _)]; rfl
  have cg := fun w' (h' : RdR w' 5 A n rows) => impl_AreGrips A n c rows w' h' hm
  rcases hg : good rows with _ | _
  · rw [hg] at cg
    have CG := Lib.hid cg
    rw [show atG rows cab = -1 by simp [atG, hg]]
    clear cg hg
    go_enter Try.func64, Try.ntmps64
    go_wp2_with fail
    generalize wo.alloc (.cells #[.int .i64 cab] 3) = w at hWV hV0 hv0 ⊢
    have hB : Below w.heap.size w w := Below.refl _ _
    go_wp2_with (go_at_call 41; refine (CG.out _ (h.below hWV)).mono ?_; rintro e w' ⟨rfl, hb⟩; have hB : Below w.heap.size w w' := Below.thenn (by repeat (first | exact Below.refl _ _ | assumption | apply Below.drew | apply below_drewN | (refine Below.alloc ?_ (by first | omega | (simp; done) | (simp; omega)) _) | (refine Below.setCell ?_ (by first | omega | (simp; done) | (simp; omega)) _))) hb (by first | omega | (simp; done) | (simp; omega)); have hz : w.heap.size ≤ w'.heap.size := hB.size; (try (have hz1 : w.heap.size + 1 ≤ w'.heap.size := (by have h := hb.size; (try simp at h); omega))); obtain ⟨hc, hf⟩ := bcell hb; clear hb)
    go_ret
    exact ⟨rfl, Below.thenn hWV hB hWV.size⟩
  rw [hg] at cg
  have CG := Lib.hid cg
  have eg := enters_of Try.func81 (by kernel_rfl) rfl
  have CF := Lib.hid (fun (w' : World) (h' : RdR w' 5 A n rows) (g : Nat) (hc : w'.cell? ⟨g, 0, none⟩ = some (.int .i64 cab)) (hgl : g < w'.heap.size) =>
    slices_IndexFunc_Grip 81 #[.pointer (some ⟨g, 0, none⟩)] eg (numP cab) A n c rows w' h' hm (fun W x0 x1 x2 x3 x4 _ hb => gripOf_1 x0 x1 x2 x3 x4 cab g W ((hb.cell (p := ⟨g, 0, none⟩) hgl).trans hc) (Nat.lt_of_lt_of_le hgl hb.size)))
  rw [show atG rows cab = idxR (numP cab) rows by simp [atG, atV, hg]]
  generalize idxR (numP cab) rows = z at CF ⊢
  clear eg cg hg
  go_enter Try.func64, Try.ntmps64
  go_wp2_with fail
  generalize wo.alloc (.cells #[.int .i64 cab] 3) = w at hWV hV0 hv0 ⊢
  have hB : Below w.heap.size w w := Below.refl _ _
  go_wp2_with (first | (go_at_call 41; refine (CG.out _ (h.below hWV)).mono ?_; rintro e w' ⟨rfl, hb⟩; have hB : Below w.heap.size w w' := Below.thenn (by repeat (first | exact Below.refl _ _ | assumption | apply Below.drew | apply below_drewN | (refine Below.alloc ?_ (by first | omega | (simp; done) | (simp; omega)) _) | (refine Below.setCell ?_ (by first | omega | (simp; done) | (simp; omega)) _))) hb (by first | omega | (simp; done) | (simp; omega)); have hz : w.heap.size ≤ w'.heap.size := hB.size; (try (have hz1 : w.heap.size + 1 ≤ w'.heap.size := (by have h := hb.size; (try simp at h); omega))); obtain ⟨hc, hf⟩ := bcell hb; have hor := Nat.lt_of_lt_of_le hV0 hz; have hv1 := (hB.cell (p := ⟨wo.heap.size, 0, none⟩) hV0).trans hv0; clear hb) | (go_at_call 80; refine (CF.out _ (h.below (Below.thenn hWV hB hWV.size)) _ hv1 hor).mono ?_; rintro e w' ⟨rfl, hb⟩; have hB : Below w.heap.size w w' := Below.thenn (by repeat (first | exact Below.refl _ _ | assumption | apply Below.drew | apply below_drewN | (refine Below.alloc ?_ (by first | omega | (simp; done) | (simp; omega)) _) | (refine Below.setCell ?_ (by first | omega | (simp; done) | (simp; omega)) _))) hb (by first | omega | (simp; done) | (simp; omega)); have hz : w.heap.size ≤ w'.heap.size := hB.size; (try (have hz1 : w.heap.size + 1 ≤ w'.heap.size := (by have h := hb.size; (try simp at h); omega))); obtain ⟨hc, hf⟩ := bcell hb; clear hb))
  go_ret
  exact ⟨rfl, Below.thenn hWV hB hWV.size⟩
end Go.Proofs.Ytfnpbmndkbaodaa
