/- The circle: the gaps. -/
import Derived.Test.YtidjgbonlejhhaaCircJ
namespace Go.Proofs.Ytidjgbonlejhhaa
open Go.RowKit
set_option linter.unusedVariables false
set_option linter.unusedSimpArgs false

def gapZ (l : Int) (zs : List Int) (k : Nat) : Int := if k + 1 < zs.length then zs.getD (k + 1) 0 - zs.getD k 0 else l - zs.getD k 0 + zs.getD 0 0
def gapsL (l : Int) (zs : List Int) : List Int := (List.range zs.length).map (gapZ l zs)
theorem gaps_next (l : Int) (zs : List Int) (k : Nat) : (List.range (k + 1)).map (gapZ l zs) = (List.range k).map (gapZ l zs) ++ [gapZ l zs k] := by simp [List.range_succ]
theorem gap_mid {l x y : Int} {zs : List Int} {k : Nat} (hx : zs[k]? = some x) (hy : zs[k + 1]? = some y) : gapZ l zs k = y - x := by
  have := lt_of_at hy
  unfold gapZ; rw [if_pos this]; simp [List.getD, hx, hy]
theorem gap_last {l x z : Int} {zs : List Int} {k : Nat} (hx : zs[k]? = some x) (hz : zs[0]? = some z) (hk : zs.length = k + 1) : gapZ l zs k = l - x + z := by
  unfold gapZ; rw [if_neg (by omega)]; simp [List.getD, hx, hz]
theorem circ_lt {l s : Int} {zs : List Int} (h : circOk l s zs = true) {k : Nat} {x y : Int} (hx : zs[k]? = some x) (hy : zs[k + 1]? = some y) : x < y := risF_lt (circOk_iff.1 h).2.2.1 hx hy
theorem circ_first {l s : Int} {zs : List Int} (h : circOk l s zs = true) {z : Int} (hz : zs[0]? = some z) : ∀ {k : Nat} {x : Int}, zs[k]? = some x → z ≤ x
  | 0, x, hx => by rw [hz] at hx; injection hx with hx; omega
  | k + 1, x, hx => by
    have hk := lt_of_at hx
    have hp : zs[k]? = some zs[k] := List.getElem?_eq_getElem (by omega)
    have h1 := circ_first h hz hp
    have h2 := circ_lt h hp hx
    omega
theorem gapsL_len (l : Int) (zs : List Int) : (gapsL l zs).length = zs.length := by simp [gapsL]
set_option maxHeartbeats 2000000 in
theorem spec_l8Gaps (l s : Int) (A : Option Addr) (n c : Nat) (zs : List Int) (wo : World) (h : Rd wo 1 A n (IV zs)) (hm : n ≤ 1048577) (hg : circOk l s zs = true) :
    Calls Try.prog 60 #[.agg #[.int .i64 l, .int .i64 s, .slice A n c]] wo (RetS wo (gapsL l zs)) := by
  have hl := Lib.hid h.len
  have hb := circOk_iff.1 hg
  have l0 := hb.1.1
  have l1 := hb.1.2
  have hn : n ≤ 12 := by have := hb.2.2.2; have := hl.out; omega
  have HG := Lib.hid hg
  have hOW : Ow ((wo.alloc (.cells #[.int .i64 l, .int .i64 s, .slice A n c] 27)).alloc (.cells #[] 3)) (wo.alloc (.cells #[.int .i64 l, .int .i64 s, .slice A n c] 27)).heap.size (.slice (some ⟨wo.heap.size + 1, 0, none⟩) 0 0) [] := Ow.lit0' _ _ _ (Nat.le_refl _) (by simp)
  have hWV : Below wo.heap.size wo (wo.alloc (.cells #[.int .i64 l, .int .i64 s, .slice A n c] 27)) := (Below.refl _ _).alloc (Nat.le_refl _) _
  have hV0 : wo.heap.size < (wo.alloc (.cells #[.int .i64 l, .int .i64 s, .slice A n c] 27)).heap.size := by simp
  have hv0 : (wo.alloc (.cells #[.int .i64 l, .int .i64 s, .slice A n c] 27)).cell? ⟨wo.heap.size, 0, none⟩ = some (.int .i64 l) := by rw [cell_of_row _ _ _ _ _ _ (heap_alloc_new wo _)]; rfl
  have hv2 : (wo.alloc (.cells #[.int .i64 l, .int .i64 s, .slice A n c] 27)).cell? ⟨wo.heap.size, 2, none⟩ = some (.slice A n c) := by rw [cell_of_row _ _ _ _ _ _ (heap_alloc_new wo _)]; rfl
  have hr := h.below hWV
  have HOW := Lib.hid hOW
  clear hg hb hOW
  go_enter Try.func60, Try.ntmps60
  go_wp2_with fail
  generalize wo.alloc (.cells #[.int .i64 l, .int .i64 s, .slice A n c] 27) = w at hWV hV0 hv0 hv2 hr HOW ⊢
  go_loopg [3, 5] n (fun g q i wr => ∃ (k : Nat) (A2 : Option Addr) (c2 : Nat) (ys : List Int), k ≤ n ∧ n ≤ k + g ∧ i = .int .i64 k ∧ q = .slice A2 ys.length c2 ∧ ys.length ≤ k ∧ Below w.heap.size w wr ∧ w.heap.size ≤ wr.heap.size ∧ Hid (Ow wr w.heap.size (.slice A2 ys.length c2) ys ∧ ys = (List.range k).map (gapZ l zs)))
  case atStart => exact ⟨0, _, _, [], by omega, by omega, rfl, rfl, by simp, (Below.refl _ _).alloc (Nat.le_refl _) _, by simp, ⟨HOW.out, by simp⟩⟩
  case round =>
    clear HOW
    obtain ⟨k, A2, c2, ys, hk1, hk2, rfl, rfl, hyl, hBr, hzr, ha⟩ := hrel
    have a0 := (hBr.cell (p := ⟨wo.heap.size, 0, none⟩) hV0).trans hv0
    have a2 := (hBr.cell (p := ⟨wo.heap.size, 2, none⟩) hV0).trans hv2
    have hor : wo.heap.size < wr.heap.size := by omega
    by_cases hlt : k < n
    · by_cases hl1 : k + 1 < n
      · obtain ⟨b, off, x, rfl, hx, hcx⟩ := hr.at1 hlt
        obtain ⟨b', off', y, e', hy, hcy⟩ := hr.at1 hl1
        injection e' with e'
        injection e' with e1 e2
        subst e1 e2
        have hblt : b < w.heap.size := World.block_lt_of_cell? _ _ hcx
        have c0 : wr.cell? ⟨b, off + k, none⟩ = some (.int .i64 x) := (hBr.cell (p := ⟨b, _, none⟩) hblt).trans hcx
        have c1 : wr.cell? ⟨b, off + (k + 1), none⟩ = some (.int .i64 y) := (hBr.cell (p := ⟨b, _, none⟩) hblt).trans hcy
        have hbr : b < wr.heap.size := by omega
        have hxb := circ_at HG.out hx
        have hyb := circ_at HG.out hy
        have hx0 := hxb.1
        have hx1 := hxb.2
        have hy0 := hyb.1
        have hy1 := hyb.2
        have HF := Lib.hid (gap_mid (l := l) hx hy)
        have w4 : IntKind.i64.wrap (y - x) = y - x := IntWalk.i64_in _ (by omega)
        have w5 : IntKind.i64.wrap ((k : Int) + 1) = (k : Int) + 1 := IntWalk.i64_in _ (by omega)
        have i0 : 0 ≤ (k : Int) + 1 := by omega
        have i1 : (k : Int) + 1 < (n : Int) := by omega
        have i2 : ((k : Int) + 1).toNat = k + 1 := by omega
        clear hx hy hxb hyb
        go_wp2_with fail
        go_region_held3 (fun w' => w'.cell? ⟨wo.heap.size, 2, none⟩ = some (.slice (some ⟨b, off, none⟩) n c) ∧ w'.cell? ⟨b, off + k, none⟩ = some (.int .i64 x) ∧ w'.cell? ⟨b, off + (k + 1), none⟩ = some (.int .i64 y)) (first | exact hSS | ((try dsimp only); (repeat' apply And.intro) <;> first | assumption | (refine (hc _ _ ?_).trans ?_ <;> first | assumption | omega | (simp; done) | (simp; omega) | (simp [*]; done) | (simp [World.cell?_alloc_some, *]; done)) | (simp [*, World.cell?_alloc_some, World.cell?_setCell_far]; done) | (simp; omega) | (exact (by repeat (first | exact Below.refl _ _ | assumption | apply Below.drew | apply below_drewN | (refine Below.alloc ?_ (by first | omega | (simp; done) | (simp; omega)) _) | (refine Below.setCell ?_ (by first | omega | (simp; done) | (simp; omega)) _))))))
          ((refine step_app_ints rfl (.tmp 19) (.tmp 32) rfl _ w.heap.size (.slice A2 ys.length c2) ys rfl (ha.out.1.below (by repeat (first | exact Below.refl _ _ | apply Below.drew | (refine Below.alloc ?_ (by first | exact Nat.le_refl _ | simp | omega) _)))) (some ⟨_, 0, none⟩) 1 1 [y - x] rfl (by first | exact rd_one _ _ | exact Rd.drew (rd_one _ _)) (by simp; omega) (by first | omega | (simp; done) | (simp; omega)) ?_; intro A1 c1 w1 hown1 hb1; have hBd : Below w.heap.size w w1 := Below.trans (by repeat (first | exact hBr | apply Below.drew | (refine Below.alloc ?_ (by first | omega | (simp; done) | (simp; omega)) _))) hb1; have hSS : (fun w' => w'.cell? ⟨wo.heap.size, 2, none⟩ = some (.slice (some ⟨b, off, none⟩) n c) ∧ w'.cell? ⟨b, off + k, none⟩ = some (.int .i64 x) ∧ w'.cell? ⟨b, off + (k + 1), none⟩ = some (.int .i64 y)) w1 := ⟨(hBd.cell (p := ⟨wo.heap.size, 2, none⟩) hV0).trans hv2, (hBd.cell (p := ⟨b, _, none⟩) hblt).trans hcx, (hBd.cell (p := ⟨b, _, none⟩) hblt).trans hcy⟩))
        go_wp2_with fail
        go_roundg (n - (k + 1))
        case measure => omega
        case rel => exact ⟨k + 1, A1, c1, ys ++ [y - x], by omega, by omega, by go_num, by simp, by simp; omega, hBd, by have := hBd.size; first | omega | (simp at *; omega), ⟨hown1, by rw [gaps_next, ← ha.out.2, HF.out]⟩⟩
      · obtain ⟨b, off, x, rfl, hx, hcx⟩ := hr.at1 hlt
        obtain ⟨b', off', y, e', hy, hcy⟩ := hr.at1 (k := 0) (by omega)
        injection e' with e'
        injection e' with e1 e2
        subst e1 e2
        rw [Nat.add_zero] at hcy
        have hblt : b < w.heap.size := World.block_lt_of_cell? _ _ hcx
        have c0 : wr.cell? ⟨b, off + k, none⟩ = some (.int .i64 x) := (hBr.cell (p := ⟨b, _, none⟩) hblt).trans hcx
        have c1 : wr.cell? ⟨b, off, none⟩ = some (.int .i64 y) := (hBr.cell (p := ⟨b, _, none⟩) hblt).trans hcy
        have hbr : b < wr.heap.size := by omega
        have hxb := circ_at HG.out hx
        have hyb := circ_at HG.out hy
        have hx0 := hxb.1
        have hx1 := hxb.2
        have hy0 := hyb.1
        have hy1 := hyb.2
        have HF := Lib.hid (gap_last (l := l) hx hy (by rw [hl.out]; omega))
        have w4 : IntKind.i64.wrap (l - x) = l - x := IntWalk.i64_in _ (by omega)
        have w6 : IntKind.i64.wrap (l - x + y) = l - x + y := IntWalk.i64_in _ (by omega)
        have w5 : IntKind.i64.wrap ((k : Int) + 1) = (k : Int) + 1 := IntWalk.i64_in _ (by omega)
        have i0 : (0 : Int) < (n : Int) := by omega
        have i3 : 0 < n := by omega
        clear hx hy hxb hyb
        go_wp2_with fail
        go_region_held3 (fun w' => w'.cell? ⟨wo.heap.size, 0, none⟩ = some (.int .i64 l) ∧ w'.cell? ⟨wo.heap.size, 2, none⟩ = some (.slice (some ⟨b, off, none⟩) n c) ∧ w'.cell? ⟨b, off + k, none⟩ = some (.int .i64 x) ∧ w'.cell? ⟨b, off, none⟩ = some (.int .i64 y)) (first | exact hSS | ((try dsimp only); (repeat' apply And.intro) <;> first | assumption | (refine (hc _ _ ?_).trans ?_ <;> first | assumption | omega | (simp; done) | (simp; omega) | (simp [*]; done) | (simp [World.cell?_alloc_some, *]; done)) | (simp [*, World.cell?_alloc_some, World.cell?_setCell_far]; done) | (simp; omega) | (exact (by repeat (first | exact Below.refl _ _ | assumption | apply Below.drew | apply below_drewN | (refine Below.alloc ?_ (by first | omega | (simp; done) | (simp; omega)) _) | (refine Below.setCell ?_ (by first | omega | (simp; done) | (simp; omega)) _))))))
          ((refine step_app_ints rfl (.tmp 34) (.tmp 48) rfl _ w.heap.size (.slice A2 ys.length c2) ys rfl (ha.out.1.below (by repeat (first | exact Below.refl _ _ | apply Below.drew | (refine Below.alloc ?_ (by first | exact Nat.le_refl _ | simp | omega) _)))) (some ⟨_, 0, none⟩) 1 1 [l - x + y] rfl (by first | exact rd_one _ _ | exact Rd.drew (rd_one _ _)) (by simp; omega) (by first | omega | (simp; done) | (simp; omega)) ?_; intro A1 c1 w1 hown1 hb1; have hBd : Below w.heap.size w w1 := Below.trans (by repeat (first | exact hBr | apply Below.drew | (refine Below.alloc ?_ (by first | omega | (simp; done) | (simp; omega)) _))) hb1; have hSS : (fun w' => w'.cell? ⟨wo.heap.size, 0, none⟩ = some (.int .i64 l) ∧ w'.cell? ⟨wo.heap.size, 2, none⟩ = some (.slice (some ⟨b, off, none⟩) n c) ∧ w'.cell? ⟨b, off + k, none⟩ = some (.int .i64 x) ∧ w'.cell? ⟨b, off, none⟩ = some (.int .i64 y)) w1 := ⟨(hBd.cell (p := ⟨wo.heap.size, 0, none⟩) hV0).trans hv0, (hBd.cell (p := ⟨wo.heap.size, 2, none⟩) hV0).trans hv2, (hBd.cell (p := ⟨b, _, none⟩) hblt).trans hcx, (hBd.cell (p := ⟨b, _, none⟩) hblt).trans hcy⟩))
        go_wp2_with fail
        go_roundg (n - (k + 1))
        case measure => omega
        case rel => exact ⟨k + 1, A1, c1, ys ++ [l - x + y], by omega, by omega, by go_num, by simp, by simp; omega, hBd, by have := hBd.size; first | omega | (simp at *; omega), ⟨hown1, by rw [gaps_next, ← ha.out.2, HF.out]⟩⟩
    · go_wp2_with fail
      go_ret
      have hk : k = n := by omega
      have hys : ys = gapsL l zs := by rw [ha.out.2, hk, ← hl.out]; rfl
      subst hys
      exact ⟨_, _, rfl, Ow.base ha.out.1 hWV.size, Below.thenn hWV hBr hWV.size⟩
end Go.Proofs.Ytidjgbonlejhhaa
