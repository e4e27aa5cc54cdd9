/- Chords: the span at a place, the lengths of the spans. -/
import Derived.Test.YtjfmicemnoglkaaChoP
import Derived.Test.YtjfmicemnoglkaaSafA
import Derived.Deep.RegionHeld3
namespace Go.Proofs.Ytjfmicemnoglkaa
open Go.RowKit
set_option linter.unusedVariables false
set_option linter.unusedSimpArgs false

def saV (rows : List (List Int)) (place : Int) : Int := if onOk rows place = true then (spanN rows place : Int) else 0
theorem spa_no {rows : List (List Int)} {place : Int} (h : onOk rows place = false) : saV rows place = 0 := by simp [saV, h]
theorem spa_yes {rows : List (List Int)} {place : Int} (h : onOk rows place = true) : saV rows place = (spanN rows place : Int) := by simp [saV, h]
theorem choRd1 (w : World) (z : Int) : Rd (w.alloc (.cells #[.int .i64 z] 3)) 1 (some ⟨w.heap.size, 0, none⟩) 1 (IV [z]) := by
  have := Rd.of_block (n := 1) (size := 1) (heap_alloc_new w (.cells #[.int .i64 z] 3)) rfl
  simpa using this
def sLV (rows : List (List Int)) : List Int := if lineOk rows = true then spL rows (rows.length - 1) else []
theorem sl_no {rows : List (List Int)} (h : lineOk rows = false) : sLV rows = [] := by simp [sLV, h]
theorem sl_yes {rows : List (List Int)} (h : lineOk rows = true) : sLV rows = spL rows (rows.length - 1) := by simp [sLV, h]
/-- Numbers that are handed back alone, their count by name. -/
def RetN (w : World) (n : Nat) (zs : List Int) (e : Ending) (w' : World) : Prop := ∃ A c, e = .returned (.slice A n c) ∧ Ow w' w.heap.size (.slice A n c) zs ∧ Below w.heap.size w w'
set_option maxHeartbeats 1000000 in
theorem impl_SpanAt (A : Option Addr) (n c : Nat) (rows : List (List Int)) (place : Int) (w : World) (h : RdL w A n rows) (hm : n ≤ 1048577) :
    Calls Try.prog 38 #[.slice A n c, .int .i64 place] w (Ret w (.tuple #[.int .i64 (saV rows place), .bool (onOk rows place)])) := by
  have ci := fun w' (h' : RdL w' A n rows) => impl_isPlaceOf A n c rows place w' h' hm
  have hB : Below w.heap.size w w := Below.refl _ _
  rcases ho : onOk rows place with _ | _
  · rw [spa_no ho]
    rw [ho] at ci
    have CI := Lib.hid ci
    have HH := Lib.hid h
    clear ci ho h
    go_enter Try.func38, Try.ntmps38
    go_wp2_with (go_at_call 97; refine (CI.out _ (by exact HH.out.below (by repeat (first | exact Below.refl _ _ | assumption | apply Below.drew | apply below_drewN | (refine Below.alloc ?_ (by first | omega | (simp; done) | (simp; omega)) _) | (refine Below.setCell ?_ (by first | omega | (simp; done) | (simp; omega)) _))))).mono ?_; rintro e w' ⟨rfl, hb⟩; have hB : Below w.heap.size w w' := Below.thenn (by repeat (first | exact Below.refl _ _ | assumption | apply Below.drew | apply below_drewN | (refine Below.alloc ?_ (by first | omega | (simp; done) | (simp; omega)) _) | (refine Below.setCell ?_ (by first | omega | (simp; done) | (simp; omega)) _))) hb (by first | omega | (simp; done) | (simp; omega)); have hz : w.heap.size ≤ w'.heap.size := hB.size; (try (have hz1 : w.heap.size + 1 ≤ w'.heap.size := (by have h := hb.size; (try simp at h); omega))); obtain ⟨hc, hf⟩ := bcell hb; skip; clear hb)
    go_ret2
    exact ⟨rfl, (by repeat (first | exact Below.refl _ _ | assumption | apply Below.drew | apply below_drewN | (refine Below.alloc ?_ (by first | omega | (simp; done) | (simp; omega)) _) | (refine Below.setCell ?_ (by first | omega | (simp; done) | (simp; omega)) _)))⟩
  · rw [spa_yes ho]
    rw [ho] at ci
    obtain ⟨hl, h0, h1⟩ := onOk_iff.1 ho
    have S := (lineOk_line hl).span h0 h1
    have cs := fun w' (h' : RdL w' A n rows) => impl_spanAt A n c rows place w' h' hm S
    generalize spanN rows place = z at *
    have CI := Lib.hid ci
    have CS := Lib.hid cs
    have HH := Lib.hid h
    clear ci cs ho h S hl
    go_enter Try.func38, Try.ntmps38
    go_wp2_with (first | (go_at_call 97; refine (CI.out _ (by exact HH.out.below (by repeat (first | exact Below.refl _ _ | assumption | apply Below.drew | apply below_drewN | (refine Below.alloc ?_ (by first | omega | (simp; done) | (simp; omega)) _) | (refine Below.setCell ?_ (by first | omega | (simp; done) | (simp; omega)) _))))).mono ?_; rintro e w' ⟨rfl, hb⟩; have hB : Below w.heap.size w w' := Below.thenn (by repeat (first | exact Below.refl _ _ | assumption | apply Below.drew | apply below_drewN | (refine Below.alloc ?_ (by first | omega | (simp; done) | (simp; omega)) _) | (refine Below.setCell ?_ (by first | omega | (simp; done) | (simp; omega)) _))) hb (by first | omega | (simp; done) | (simp; omega)); have hz : w.heap.size ≤ w'.heap.size := hB.size; (try (have hz1 : w.heap.size + 1 ≤ w'.heap.size := (by have h := hb.size; (try simp at h); omega))); obtain ⟨hc, hf⟩ := bcell hb; skip; clear hb) | (go_at_call 118; refine (CS.out _ (by exact HH.out.below (by repeat (first | exact Below.refl _ _ | assumption | apply Below.drew | apply below_drewN | (refine Below.alloc ?_ (by first | omega | (simp; done) | (simp; omega)) _) | (refine Below.setCell ?_ (by first | omega | (simp; done) | (simp; omega)) _))))).mono ?_; rintro e w' ⟨rfl, rfl⟩))
    go_ret2
    exact ⟨rfl, (by repeat (first | exact Below.refl _ _ | assumption | apply Below.drew | apply below_drewN | (refine Below.alloc ?_ (by first | omega | (simp; done) | (simp; omega)) _) | (refine Below.setCell ?_ (by first | omega | (simp; done) | (simp; omega)) _)))⟩
set_option maxHeartbeats 1000000 in
theorem spec_SpanAt (A : Option Addr) (n c : Nat) (rows : List (List Int)) (place : Int) (w : World) (h : RdL w A n rows) (hm : n ≤ 1048577) :
    Calls Try.prog 39 #[.slice A n c, .int .i64 place] w (Ret w (.tuple #[.int .i64 (saV rows place), .bool (onOk rows place)])) := by
  have ci := fun w' (h' : RdL w' A n rows) => spec_l2On A n c rows place w' h' hm
  have hB : Below w.heap.size w w := Below.refl _ _
  rcases ho : onOk rows place with _ | _
  · rw [spa_no ho]
    rw [ho] at ci
    have CI := Lib.hid ci
    have HH := Lib.hid h
    clear ci ho h
    go_enter Try.func39, Try.ntmps39
    go_wp2_with (go_at_call 116; refine (CI.out _ (by exact HH.out.below (by repeat (first | exact Below.refl _ _ | assumption | apply Below.drew | apply below_drewN | (refine Below.alloc ?_ (by first | omega | (simp; done) | (simp; omega)) _) | (refine Below.setCell ?_ (by first | omega | (simp; done) | (simp; omega)) _))))).mono ?_; rintro e w' ⟨rfl, hb⟩; have hB : Below w.heap.size w w' := Below.thenn (by repeat (first | exact Below.refl _ _ | assumption | apply Below.drew | apply below_drewN | (refine Below.alloc ?_ (by first | omega | (simp; done) | (simp; omega)) _) | (refine Below.setCell ?_ (by first | omega | (simp; done) | (simp; omega)) _))) hb (by first | omega | (simp; done) | (simp; omega)); have hz : w.heap.size ≤ w'.heap.size := hB.size; (try (have hz1 : w.heap.size + 1 ≤ w'.heap.size := (by have h := hb.size; (try simp at h); omega))); obtain ⟨hc, hf⟩ := bcell hb; skip; clear hb)
    go_ret2
    exact ⟨rfl, (by repeat (first | exact Below.refl _ _ | assumption | apply Below.drew | apply below_drewN | (refine Below.alloc ?_ (by first | omega | (simp; done) | (simp; omega)) _) | (refine Below.setCell ?_ (by first | omega | (simp; done) | (simp; omega)) _)))⟩
  · rw [spa_yes ho]
    rw [ho] at ci
    obtain ⟨hl, h0, h1⟩ := onOk_iff.1 ho
    have S := (lineOk_line hl).span h0 h1
    have cs := fun w' (h' : RdL w' A n rows) => spec_l2Span A n c rows place w' h' hm S
    generalize spanN rows place = z at *
    have CI := Lib.hid ci
    have CS := Lib.hid cs
    have HH := Lib.hid h
    clear ci cs ho h S hl
    go_enter Try.func39, Try.ntmps39
    go_wp2_with (first | (go_at_call 116; refine (CI.out _ (by exact HH.out.below (by repeat (first | exact Below.refl _ _ | assumption | apply Below.drew | apply below_drewN | (refine Below.alloc ?_ (by first | omega | (simp; done) | (simp; omega)) _) | (refine Below.setCell ?_ (by first | omega | (simp; done) | (simp; omega)) _))))).mono ?_; rintro e w' ⟨rfl, hb⟩; have hB : Below w.heap.size w w' := Below.thenn (by repeat (first | exact Below.refl _ _ | assumption | apply Below.drew | apply below_drewN | (refine Below.alloc ?_ (by first | omega | (simp; done) | (simp; omega)) _) | (refine Below.setCell ?_ (by first | omega | (simp; done) | (simp; omega)) _))) hb (by first | omega | (simp; done) | (simp; omega)); have hz : w.heap.size ≤ w'.heap.size := hB.size; (try (have hz1 : w.heap.size + 1 ≤ w'.heap.size := (by have h := hb.size; (try simp at h); omega))); obtain ⟨hc, hf⟩ := bcell hb; skip; clear hb) | (go_at_call 119; refine (CS.out _ (by exact HH.out.below (by repeat (first | exact Below.refl _ _ | assumption | apply Below.drew | apply below_drewN | (refine Below.alloc ?_ (by first | omega | (simp; done) | (simp; omega)) _) | (refine Below.setCell ?_ (by first | omega | (simp; done) | (simp; omega)) _))))).mono ?_; rintro e w' ⟨rfl, rfl⟩))
    go_ret2
    exact ⟨rfl, (by repeat (first | exact Below.refl _ _ | assumption | apply Below.drew | apply below_drewN | (refine Below.alloc ?_ (by first | omega | (simp; done) | (simp; omega)) _) | (refine Below.setCell ?_ (by first | omega | (simp; done) | (simp; omega)) _)))⟩
set_option maxRecDepth 100000 in
set_option maxHeartbeats 4000000 in
theorem impl_spanLengths (A : Option Addr) (n c : Nat) (rows : List (List Int)) (w : World) (h : RdL w A n rows) (hm : n ≤ 1048577) (hl : lineOk rows = true) :
    Calls Try.prog 110 #[.slice A n c] w (RetN w (n - 1) (spL rows (n - 1))) := by
  have L := lineOk_line hl
  have hlo := L.lo
  have hhi := L.hi
  have hn := h.2.1
  rw [hn] at hlo hhi
  have LL := Lib.hid L
  have HN := Lib.hid hn
  have HH := Lib.hid h
  clear L hl h hn
  · go_enter Try.func110, Try.ntmps110
    go_wp2_with fail
    go_loopg [3, 4] n (fun g out i wr => ∃ (k : Nat) (A2 : Option Addr) (c2 : Nat), 1 ≤ k ∧ k ≤ n ∧ n ≤ k + g ∧ out = .slice A2 (k - 1) c2 ∧ i = .int .i64 k ∧ Below w.heap.size w wr ∧ w.heap.size ≤ wr.heap.size ∧ Hid (Ow wr w.heap.size (.slice A2 (k - 1) c2) (spL rows (k - 1))))
    case atStart => exact ⟨1, _, _, by omega, by omega, by omega, rfl, rfl, (by repeat (first | exact Below.refl _ _ | assumption | apply Below.drew | apply below_drewN | (refine Below.alloc ?_ (by first | omega | (simp; done) | (simp; omega)) _) | (refine Below.setCell ?_ (by first | omega | (simp; done) | (simp; omega)) _))), by simp, (show Ow _ _ _ _ from Ow.lit0 w w.heap.size (Nat.le_refl _))⟩
    case round =>
      obtain ⟨k, A2, c2, hk0, hk1, hk2, rfl, rfl, hBr, hzr, HO⟩ := hrel
      have HL := Lib.hid (spL_len rows (k - 1))
      have HA := Lib.hid HO.out.len
      by_cases hlt : k < n
      · obtain ⟨b, off, e1, hb, d0, _, _⟩ := HH.out.rowN (k := k) hlt
        obtain ⟨b', off', e2, _, g0, _, _⟩ := HH.out.rowN (k := k - 1) (by omega)
        rw [e1] at e2
        injection e2 with e2
        injection e2 with e3 e4
        subst e3 e4
        have b1 := LL.out.at_ k (by have := HN.out; omega)
        have b0 := LL.out.at_ (k - 1) (by have := HN.out; omega)
        have hk : spL rows k = spL rows (k - 1) ++ [atN rows k - atN rows (k - 1)] := by
          have := spL_next rows (k - 1)
          rwa [show k - 1 + 1 = k by omega] at this
        have c1 := (hBr.cell (p := ⟨b, off + k * 3, none⟩) hb).trans d0
        have c0 := (hBr.cell (p := ⟨b, off + (k - 1) * 3, none⟩) hb).trans g0
        have HK := Lib.hid hk
        have hbr : b < wr.heap.size := Nat.lt_of_lt_of_le hb hBr.size
        generalize atN rows k = x1 at *
        generalize atN rows (k - 1) = x0 at *
        generalize spL rows (k - 1) = ys at *
        have hd0 : w.cell? ⟨b, off + (k - 1) * 3, none⟩ = some (.int .i64 x0) := (hBr.cell (p := ⟨b, _, none⟩) hb).symm.trans c0
        have hd1 : w.cell? ⟨b, off + k * 3, none⟩ = some (.int .i64 x1) := (hBr.cell (p := ⟨b, _, none⟩) hb).symm.trans c1
        have u1 : IntKind.i64.wrap ((k : Int) - 1) = (k : Int) - 1 := IntWalk.i64_in _ (by omega)
        have u2 : IntKind.i64.wrap (x1 - x0) = x1 - x0 := IntWalk.i64_in _ (by omega)
        have k1 : ((k : Int) - 1).toNat = k - 1 := by omega
        have k2 : 0 ≤ (k : Int) - 1 := by omega
        have k3 : (k : Int) - 1 < (n : Int) := by omega
        have k4 : (1 : Int) ≤ (k : Int) := by omega
        subst e1
        clear hk d0 g0
        go_wp2_with fail
        go_region_held3 (fun w' => w'.cell? ⟨b, off + k * 3, none⟩ = some (.int .i64 x1) ∧ w'.cell? ⟨b, off + (k - 1) * 3, none⟩ = some (.int .i64 x0)) (first | exact hSS | ((try dsimp only); (repeat' apply And.intro) <;> first | assumption | (refine (hc _ _ ?_).trans ?_ <;> first | assumption | omega | (simp; done) | (simp; omega) | (simp [*]; done) | (simp [World.cell?_alloc_some, *]; done)) | (simp [*, World.cell?_alloc_some, World.cell?_setCell_far]; done) | (simp; omega) | (exact (by repeat (first | exact Below.refl _ _ | assumption | apply Below.drew | apply below_drewN | (refine Below.alloc ?_ (by first | omega | (simp; done) | (simp; omega)) _) | (refine Below.setCell ?_ (by first | omega | (simp; done) | (simp; omega)) _))))))
          ((refine step_app_ints rfl (.tmp 12) (.tmp 25) rfl _ w.heap.size (.slice A2 (k - 1) c2) ys rfl (HO.out.below (by repeat (first | exact Below.refl _ _ | apply Below.drew | (refine Below.alloc ?_ (by first | exact Nat.le_refl _ | simp | omega) _)))) (some ⟨_, 0, none⟩) 1 1 [x1 - x0] rfl (by first | exact choRd1 _ _ | exact Rd.drew (choRd1 _ _)) (by have := HL.out; simp; omega) (by first | omega | (simp; done) | (simp; omega)) ?_; intro A1 c9 w1 hown1 hb1; have hBd : Below w.heap.size w w1 := Below.trans (by repeat (first | exact hBr | apply Below.drew | (refine Below.alloc ?_ (by first | omega | (simp; done) | (simp; omega)) _))) hb1; have hSS : (fun w' => w'.cell? ⟨b, off + k * 3, none⟩ = some (.int .i64 x1) ∧ w'.cell? ⟨b, off + (k - 1) * 3, none⟩ = some (.int .i64 x0)) w1 := ⟨(hBd.cell (p := ⟨b, _, none⟩) hb).trans hd1, (hBd.cell (p := ⟨b, _, none⟩) hb).trans hd0⟩))
        go_wp2_with fail
        go_roundg (n - (k + 1))
        case measure => omega
        case rel => exact ⟨k + 1, A1, c9, by omega, by omega, by omega, by (have := HL.out; simp; omega), by go_num, hBd, by have := hBd.size; first | omega | (simp at *; omega), (show Ow _ _ _ _ by have e := HL.out; rw [show (ys ++ [x1 - x0]).length = k + 1 - 1 by simp; omega] at hown1; rw [show k + 1 - 1 = k by omega, HK.out]; exact hown1)⟩
      · have hkn : k = n := by omega
        subst hkn
        go_wp2_with fail
        go_ret
        exact ⟨A2, c2, rfl, HO.out, hBr⟩
set_option maxHeartbeats 1000000 in
theorem impl_SpanLengths (A : Option Addr) (n c : Nat) (rows : List (List Int)) (w : World) (h : RdL w A n rows) (hm : n ≤ 1048577) :
    Calls Try.prog 25 #[.slice A n c] w (RetSB w (sLV rows) (lineOk rows)) := by
  have ci := fun w' (h' : RdL w' A n rows) => impl_IsLine A n c rows w' h' hm
  have hB : Below w.heap.size w w := Below.refl _ _
  rcases ho : lineOk rows with _ | _
  · rw [sl_no ho]
    rw [ho] at ci
    have CI := Lib.hid ci
    have HH := Lib.hid h
    clear ci ho h
    go_enter Try.func25, Try.ntmps25
    go_wp2_with (go_at_call 107; refine (CI.out _ (by exact HH.out.below (by repeat (first | exact Below.refl _ _ | assumption | apply Below.drew | apply below_drewN | (refine Below.alloc ?_ (by first | omega | (simp; done) | (simp; omega)) _) | (refine Below.setCell ?_ (by first | omega | (simp; done) | (simp; omega)) _))))).mono ?_; rintro e w' ⟨rfl, hb⟩; have hB : Below w.heap.size w w' := Below.thenn (by repeat (first | exact Below.refl _ _ | assumption | apply Below.drew | apply below_drewN | (refine Below.alloc ?_ (by first | omega | (simp; done) | (simp; omega)) _) | (refine Below.setCell ?_ (by first | omega | (simp; done) | (simp; omega)) _))) hb (by first | omega | (simp; done) | (simp; omega)); have hz : w.heap.size ≤ w'.heap.size := hB.size; (try (have hz1 : w.heap.size + 1 ≤ w'.heap.size := (by have h := hb.size; (try simp at h); omega))); obtain ⟨hc, hf⟩ := bcell hb; skip; clear hb)
    go_ret2
    exact RetSB.nil (by repeat (first | exact Below.refl _ _ | assumption | apply Below.drew | apply below_drewN | (refine Below.alloc ?_ (by first | omega | (simp; done) | (simp; omega)) _) | (refine Below.setCell ?_ (by first | omega | (simp; done) | (simp; omega)) _)))
  · have cl := fun w' (h' : RdL w' A n rows) => impl_spanLengths A n c rows w' h' hm ho
    rw [sl_yes ho, h.2.1]
    rw [ho] at ci
    have CI := Lib.hid ci
    have CL := Lib.hid cl
    have HH := Lib.hid h
    have HZ := Lib.hid (spL_len rows (n - 1))
    clear ci cl ho h
    generalize spL rows (n - 1) = zs at *
    go_enter Try.func25, Try.ntmps25
    go_wp2_with (first | (go_at_call 107; refine (CI.out _ (by exact HH.out.below (by repeat (first | exact Below.refl _ _ | assumption | apply Below.drew | apply below_drewN | (refine Below.alloc ?_ (by first | omega | (simp; done) | (simp; omega)) _) | (refine Below.setCell ?_ (by first | omega | (simp; done) | (simp; omega)) _))))).mono ?_; rintro e w' ⟨rfl, hb⟩; have hB : Below w.heap.size w w' := Below.thenn (by repeat (first | exact Below.refl _ _ | assumption | apply Below.drew | apply below_drewN | (refine Below.alloc ?_ (by first | omega | (simp; done) | (simp; omega)) _) | (refine Below.setCell ?_ (by first | omega | (simp; done) | (simp; omega)) _))) hb (by first | omega | (simp; done) | (simp; omega)); have hz : w.heap.size ≤ w'.heap.size := hB.size; (try (have hz1 : w.heap.size + 1 ≤ w'.heap.size := (by have h := hb.size; (try simp at h); omega))); obtain ⟨hc, hf⟩ := bcell hb; skip; clear hb) | (go_at_call 110; refine (CL.out _ (by exact HH.out.below (by repeat (first | exact Below.refl _ _ | assumption | apply Below.drew | apply below_drewN | (refine Below.alloc ?_ (by first | omega | (simp; done) | (simp; omega)) _) | (refine Below.setCell ?_ (by first | omega | (simp; done) | (simp; omega)) _))))).mono ?_; rintro e w' ⟨A2, c2, rfl, ho, hb⟩; have hB : Below w.heap.size w w' := Below.thenn (by repeat (first | exact Below.refl _ _ | assumption | apply Below.drew | apply below_drewN | (refine Below.alloc ?_ (by first | omega | (simp; done) | (simp; omega)) _) | (refine Below.setCell ?_ (by first | omega | (simp; done) | (simp; omega)) _))) hb (by first | omega | (simp; done) | (simp; omega)); have O2 := Lib.hid ho; have hz : w.heap.size ≤ w'.heap.size := hB.size; (try (have hz1 : w.heap.size + 1 ≤ w'.heap.size := (by have h := hb.size; (try simp at h); omega))); have HQ := Lib.hid hb; obtain ⟨hc, hf⟩ := bcell hb; skip; clear hb ho))
    go_ret2
    exact ⟨A2, c2, by rw [HZ.out]; rfl, by rw [HZ.out]; exact O2.out.base (by first | omega | (simp; done) | (simp; omega)), (by repeat (first | exact Below.refl _ _ | assumption | apply Below.drew | apply below_drewN | (refine Below.alloc ?_ (by first | omega | (simp; done) | (simp; omega)) _) | (refine Below.setCell ?_ (by first | omega | (simp; done) | (simp; omega)) _)))⟩
set_option maxRecDepth 100000 in
set_option maxHeartbeats 4000000 in
theorem spec_SpanLengths (A : Option Addr) (n c : Nat) (rows : List (List Int)) (w : World) (h : RdL w A n rows) (hm : n ≤ 1048577) :
    Calls Try.prog 26 #[.slice A n c] w (RetSB w (sLV rows) (lineOk rows)) := by
  have ci := fun w' (h' : RdL w' A n rows) => spec_l2Line A n c rows w' h' hm
  have hB : Below w.heap.size w w := Below.refl _ _
  rcases ho : lineOk rows with _ | _
  · rw [sl_no ho]
    rw [ho] at ci
    have CI := Lib.hid ci
    have HH := Lib.hid h
    clear ci ho h
    go_enter Try.func26, Try.ntmps26
    go_wp2_with (go_at_call 111; refine (CI.out _ (by exact HH.out.below (by repeat (first | exact Below.refl _ _ | assumption | apply Below.drew | apply below_drewN | (refine Below.alloc ?_ (by first | omega | (simp; done) | (simp; omega)) _) | (refine Below.setCell ?_ (by first | omega | (simp; done) | (simp; omega)) _))))).mono ?_; rintro e w' ⟨rfl, hb⟩; have hB : Below w.heap.size w w' := Below.thenn (by repeat (first | exact Below.refl _ _ | assumption | apply Below.drew | apply below_drewN | (refine Below.alloc ?_ (by first | omega | (simp; done) | (simp; omega)) _) | (refine Below.setCell ?_ (by first | omega | (simp; done) | (simp; omega)) _))) hb (by first | omega | (simp; done) | (simp; omega)); have hz : w.heap.size ≤ w'.heap.size := hB.size; (try (have hz1 : w.heap.size + 1 ≤ w'.heap.size := (by have h := hb.size; (try simp at h); omega))); obtain ⟨hc, hf⟩ := bcell hb; have HO0 := Lib.hid ((Ow.lit0 w w.heap.size (Nat.le_refl _)).below hb); clear hb)
    go_ret2
    exact ⟨_, 0, rfl, HO0.out, (by repeat (first | exact Below.refl _ _ | assumption | apply Below.drew | apply below_drewN | (refine Below.alloc ?_ (by first | omega | (simp; done) | (simp; omega)) _) | (refine Below.setCell ?_ (by first | omega | (simp; done) | (simp; omega)) _)))⟩
  · have L := lineOk_line ho
    have hlo := L.lo
    have hhi := L.hi
    have hn := h.2.1
    rw [sl_yes ho, hn]
    rw [ho] at ci
    rw [hn] at hlo hhi
    have CI := Lib.hid ci
    have LL := Lib.hid L
    have HN := Lib.hid hn
    have HH := Lib.hid h
    clear ci ho h L hn
    go_enter Try.func26, Try.ntmps26
    go_wp2_with (go_at_call 111; refine (CI.out _ (by exact HH.out.below (by repeat (first | exact Below.refl _ _ | assumption | apply Below.drew | apply below_drewN | (refine Below.alloc ?_ (by first | omega | (simp; done) | (simp; omega)) _) | (refine Below.setCell ?_ (by first | omega | (simp; done) | (simp; omega)) _))))).mono ?_; rintro e w' ⟨rfl, hb⟩; have hB : Below w.heap.size w w' := Below.thenn (by repeat (first | exact Below.refl _ _ | assumption | apply Below.drew | apply below_drewN | (refine Below.alloc ?_ (by first | omega | (simp; done) | (simp; omega)) _) | (refine Below.setCell ?_ (by first | omega | (simp; done) | (simp; omega)) _))) hb (by first | omega | (simp; done) | (simp; omega)); have hz : w.heap.size ≤ w'.heap.size := hB.size; (try (have hz1 : w.heap.size + 1 ≤ w'.heap.size := (by have h := hb.size; (try simp at h); omega))); obtain ⟨hc, hf⟩ := bcell hb; have HO0 := Lib.hid ((Ow.lit0 w w.heap.size (Nat.le_refl _)).below hb); clear hb)
    go_loopg [4, 5] n (fun g out i wr => ∃ (k : Nat) (A2 : Option Addr) (c2 : Nat), 1 ≤ k ∧ k ≤ n ∧ n ≤ k + g ∧ out = .slice A2 (k - 1) c2 ∧ i = .int .i64 k ∧ Below w.heap.size w wr ∧ w.heap.size ≤ wr.heap.size ∧ Hid (Ow wr w.heap.size (.slice A2 (k - 1) c2) (spL rows (k - 1))))
    case atStart => exact ⟨1, _, _, by omega, by omega, by omega, rfl, rfl, (by repeat (first | exact Below.refl _ _ | assumption | apply Below.drew | apply below_drewN | (refine Below.alloc ?_ (by first | omega | (simp; done) | (simp; omega)) _) | (refine Below.setCell ?_ (by first | omega | (simp; done) | (simp; omega)) _))), by first | omega | simp, (show Ow _ _ _ _ from HO0.out)⟩
    case round =>
      obtain ⟨k, A2, c2, hk0, hk1, hk2, rfl, rfl, hBr, hzr, HO⟩ := hrel
      have HL := Lib.hid (spL_len rows (k - 1))
      have HA := Lib.hid HO.out.len
      by_cases hlt : k < n
      · obtain ⟨b, off, e1, hb, d0, _, _⟩ := HH.out.rowN (k := k) hlt
        obtain ⟨b', off', e2, _, g0, _, _⟩ := HH.out.rowN (k := k - 1) (by omega)
        rw [e1] at e2
        injection e2 with e2
        injection e2 with e3 e4
        subst e3 e4
        have b1 := LL.out.at_ k (by have := HN.out; omega)
        have b0 := LL.out.at_ (k - 1) (by have := HN.out; omega)
        have hk : spL rows k = spL rows (k - 1) ++ [atN rows k - atN rows (k - 1)] := by
          have := spL_next rows (k - 1)
          rwa [show k - 1 + 1 = k by omega] at this
        have c1 := (hBr.cell (p := ⟨b, off + k * 3, none⟩) hb).trans d0
        have c0 := (hBr.cell (p := ⟨b, off + (k - 1) * 3, none⟩) hb).trans g0
        have HK := Lib.hid hk
        have hbr : b < wr.heap.size := Nat.lt_of_lt_of_le hb hBr.size
        generalize atN rows k = x1 at *
        generalize atN rows (k - 1) = x0 at *
        generalize spL rows (k - 1) = ys at *
        have hd0 : w.cell? ⟨b, off + (k - 1) * 3, none⟩ = some (.int .i64 x0) := (hBr.cell (p := ⟨b, _, none⟩) hb).symm.trans c0
        have hd1 : w.cell? ⟨b, off + k * 3, none⟩ = some (.int .i64 x1) := (hBr.cell (p := ⟨b, _, none⟩) hb).symm.trans c1
        have u1 : IntKind.i64.wrap ((k : Int) - 1) = (k : Int) - 1 := IntWalk.i64_in _ (by omega)
        have u2 : IntKind.i64.wrap (x1 - x0) = x1 - x0 := IntWalk.i64_in _ (by omega)
        have k1 : ((k : Int) - 1).toNat = k - 1 := by omega
        have k2 : 0 ≤ (k : Int) - 1 := by omega
        have k3 : (k : Int) - 1 < (n : Int) := by omega
        have k4 : (1 : Int) ≤ (k : Int) := by omega
        subst e1
        clear hk d0 g0
        go_wp2_with fail
        go_region_held3 (fun w' => w'.cell? ⟨b, off + k * 3, none⟩ = some (.int .i64 x1) ∧ w'.cell? ⟨b, off + (k - 1) * 3, none⟩ = some (.int .i64 x0)) (first | exact hSS | ((try dsimp only); (repeat' apply And.intro) <;> first | assumption | (refine (hc _ _ ?_).trans ?_ <;> first | assumption | omega | (simp; done) | (simp; omega) | (simp [*]; done) | (simp [World.cell?_alloc_some, *]; done)) | (simp [*, World.cell?_alloc_some, World.cell?_setCell_far]; done) | (simp; omega) | (exact (by repeat (first | exact Below.refl _ _ | assumption | apply Below.drew | apply below_drewN | (refine Below.alloc ?_ (by first | omega | (simp; done) | (simp; omega)) _) | (refine Below.setCell ?_ (by first | omega | (simp; done) | (simp; omega)) _))))))
          ((refine step_app_ints rfl (.tmp 17) (.tmp 30) rfl _ w.heap.size (.slice A2 (k - 1) c2) ys rfl (HO.out.below (by repeat (first | exact Below.refl _ _ | apply Below.drew | (refine Below.alloc ?_ (by first | exact Nat.le_refl _ | simp | omega) _)))) (some ⟨_, 0, none⟩) 1 1 [x1 - x0] rfl (by first | exact choRd1 _ _ | exact Rd.drew (choRd1 _ _)) (by have := HL.out; simp; omega) (by first | omega | (simp; done) | (simp; omega)) ?_; intro A1 c9 w1 hown1 hb1; have hBd : Below w.heap.size w w1 := Below.trans (by repeat (first | exact hBr | apply Below.drew | (refine Below.alloc ?_ (by first | omega | (simp; done) | (simp; omega)) _))) hb1; have hSS : (fun w' => w'.cell? ⟨b, off + k * 3, none⟩ = some (.int .i64 x1) ∧ w'.cell? ⟨b, off + (k - 1) * 3, none⟩ = some (.int .i64 x0)) w1 := ⟨(hBd.cell (p := ⟨b, _, none⟩) hb).trans hd1, (hBd.cell (p := ⟨b, _, none⟩) hb).trans hd0⟩))
        go_wp2_with fail
        go_roundg (n - (k + 1))
        case measure => omega
        case rel => exact ⟨k + 1, A1, c9, by omega, by omega, by omega, by (have := HL.out; simp; omega), by go_num, hBd, by have := hBd.size; first | omega | (simp at *; omega), (show Ow _ _ _ _ by have e := HL.out; rw [show (ys ++ [x1 - x0]).length = k + 1 - 1 by simp; omega] at hown1; rw [show k + 1 - 1 = k by omega, HK.out]; exact hown1)⟩
      · have hkn : k = n := by omega
        subst hkn
        have HZ := Lib.hid (spL_len rows (k - 1))
        go_wp2_with fail
        go_ret2
        exact ⟨A2, c2, by rw [HZ.out]; rfl, by rw [HZ.out]; exact HO.out, hBr⟩
end Go.Proofs.Ytjfmicemnoglkaa
