/- The tickets: sales on a day. -/
import Derived.Test.YtobcgcdjoogfnaaTickF
import Derived.Deep.RegionHeld3
namespace Go.Proofs.Ytobcgcdjoogfnaa
open Go.RowKit
set_option linter.unusedVariables false
set_option linter.unusedSimpArgs false

def prOk (p0 p1 p2 p3 : Int) : Bool := inr p0 0 50000 && (inr p1 0 50000 && (inr p2 0 50000 && inr p3 0 50000))
theorem prOk_iff {p0 p1 p2 p3 : Int} : prOk p0 p1 p2 p3 = true ↔ (0 ≤ p0 ∧ p0 ≤ 50000) ∧ (0 ≤ p1 ∧ p1 ≤ 50000) ∧ (0 ≤ p2 ∧ p2 ≤ 50000) ∧ (0 ≤ p3 ∧ p3 ≤ 50000) := by simp [prOk, inr]
def prK (p0 p1 p2 p3 k : Int) : Int := if k = 0 then p0 else if k = 1 then p1 else if k = 2 then p2 else p3
theorem prK_bd {p0 p1 p2 p3 k : Int} (h : prOk p0 p1 p2 p3 = true) : 0 ≤ prK p0 p1 p2 p3 k ∧ prK p0 p1 p2 p3 k ≤ 50000 := by
  have := prOk_iff.1 h
  unfold prK; split; · omega
  split; · omega
  split <;> omega
def saleF (p0 p1 p2 p3 day : Int) (r : List Int) : Int := if fld r 2 = day then prK p0 p1 p2 p3 (fld r 1) else 0
def saleOk (p0 p1 p2 p3 : Int) (rows : List (List Int)) (day : Int) : Bool := prOk p0 p1 p2 p3 && (good rows && inr day 0 999)
def saleV (p0 p1 p2 p3 : Int) (rows : List (List Int)) (day : Int) : Int := if saleOk p0 p1 p2 p3 rows day then sumR (saleF p0 p1 p2 p3 day) rows else 0

theorem spec_l11Prices (p0 p1 p2 p3 : Int) (w : World) : Calls Try.prog 65 #[.agg #[.int .i64 p0, .int .i64 p1, .int .i64 p2, .int .i64 p3]] w (Ret w (.bool (prOk p0 p1 p2 p3))) := by
  unfold prOk
  rcases h0 : inr p0 0 50000 with _ | _ <;> rcases h1 : inr p1 0 50000 with _ | _ <;> rcases h2 : inr p2 0 50000 with _ | _ <;> rcases h3 : inr p3 0 50000 with _ | _
  all_goals (go_enter Try.func65, Try.ntmps65)
  all_goals go_wp2_with (go_at_call 66; refine (spec_l1In _ _ _ _).mono ?_; rintro e w' ⟨rfl, rfl⟩)
  all_goals (go_ret; exact ⟨ret_bool (by simp), (by repeat (first | exact Below.refl _ _ | assumption | apply Below.drew | apply below_drewN | (refine Below.alloc ?_ (by first | omega | (simp; done) | (simp; omega)) _) | (refine Below.setCell ?_ (by first | omega | (simp; done) | (simp; omega)) _)))⟩)
theorem impl_byKind (p0 p1 p2 p3 : Int) (w : World) : Calls Try.prog 68 #[.agg #[.int .i64 p0, .int .i64 p1, .int .i64 p2, .int .i64 p3]] w (RetSB w [p0, p1, p2, p3] (prOk p0 p1 p2 p3)) := by
  have ho : Ow ((w.alloc (.cells #[.int .i64 p0, .int .i64 p1, .int .i64 p2, .int .i64 p3] 39)).alloc (.cells #[.int .i64 p0, .int .i64 p1, .int .i64 p2, .int .i64 p3] 3)) w.heap.size (.slice (some ⟨w.heap.size + 1, 0, none⟩) 4 4) [p0, p1, p2, p3] := by
    have := Ow.lit (B := w.heap.size) (w.alloc (.cells #[.int .i64 p0, .int .i64 p1, .int .i64 p2, .int .i64 p3] 39)) [p0, p1, p2, p3] (by simp [maxLen]) (by simp)
    simpa using this
  have HO := Lib.hid ho
  clear ho
  have e : ([p0, p1, p2, p3].all fun z => inr z 0 50000) = prOk p0 p1 p2 p3 := by simp [prOk]
  have ca := fun (bk : Nat) (w : World) (h : Rd w 1 (some ⟨bk, 0, none⟩) 4 (IV [p0, p1, p2, p3])) => impl_allIn (some ⟨bk, 0, none⟩) 4 4 [p0, p1, p2, p3] 0 50000 w h (by omega)
  rw [e] at ca
  have CA := Lib.hid ca
  clear ca e
  generalize prOk p0 p1 p2 p3 = z at CA ⊢
  go_enter Try.func68, Try.ntmps68
  go_wp2_with (go_at_call 86; refine (CA.out _ _ HO.out.rd).mono ?_; rintro e w' ⟨rfl, rfl⟩)
  go_ret2
  exact ⟨some ⟨w.heap.size + 1, 0, none⟩, 4, rfl, HO.out, (by repeat (first | exact Below.refl _ _ | assumption | apply Below.drew | apply below_drewN | (refine Below.alloc ?_ (by first | omega | (simp; done) | (simp; omega)) _) | (refine Below.setCell ?_ (by first | omega | (simp; done) | (simp; omega)) _)))⟩

set_option maxHeartbeats 2000000 in
theorem spec_SalesOn (p0 p1 p2 p3 : Int) (A : Option Addr) (n c : Nat) (rows : List (List Int)) (day : Int) (w : World) (h : RdR w 5 A n rows) (hm : n ≤ 1048577) :
    Calls Try.prog 35 #[.agg #[.int .i64 p0, .int .i64 p1, .int .i64 p2, .int .i64 p3], .slice A n c, .int .i64 day] w (Ret w (.tuple #[.int .i64 (saleV p0 p1 p2 p3 rows day), .bool (saleOk p0 p1 p2 p3 rows day)])) := by
  have hl := Lib.hid h.2.2
  have cg := fun w' (h' : RdR w' 5 A n rows) => spec_l11Good A n c rows w' h' hm
  have cp := fun w' => spec_l11Prices p0 p1 p2 p3 w'
  rcases hp : prOk p0 p1 p2 p3 with _ | _
  · rw [hp] at cp
    have CP := Lib.hid cp
    rw [show saleV p0 p1 p2 p3 rows day = 0 by simp [saleV, saleOk, hp], show saleOk p0 p1 p2 p3 rows day = false by simp [saleOk, hp]]
    clear cp cg hp
    go_enter Try.func35, Try.ntmps35
    go_wp2_with (first | (go_at_call 65; refine (CP.out _).mono ?_; rintro e w' ⟨rfl, hb⟩; have hB : Below w.heap.size w w' := Below.thenn (by repeat (first | exact Below.refl _ _ | assumption | apply Below.drew | apply below_drewN | (refine Below.alloc ?_ (by first | omega | (simp; done) | (simp; omega)) _) | (refine Below.setCell ?_ (by first | omega | (simp; done) | (simp; omega)) _))) hb (by first | omega | (simp; done) | (simp; omega)); have hz : w.heap.size < w'.heap.size := (by have h := hb.size; (try simp at h); omega); obtain ⟨hc, hf⟩ := bcell hb; clear hb))
    go_ret2
    exact ⟨rfl, (by repeat (first | exact Below.refl _ _ | assumption | apply Below.drew | apply below_drewN | (refine Below.alloc ?_ (by first | omega | (simp; done) | (simp; omega)) _) | (refine Below.setCell ?_ (by first | omega | (simp; done) | (simp; omega)) _)))⟩
  rw [hp] at cp
  have CP := Lib.hid cp
  clear cp
  rcases hg : good rows with _ | _
  · rw [hg] at cg
    have CG := Lib.hid cg
    rw [show saleV p0 p1 p2 p3 rows day = 0 by simp [saleV, saleOk, hg], show saleOk p0 p1 p2 p3 rows day = false by simp [saleOk, hg]]
    clear cg hg hp
    go_enter Try.func35, Try.ntmps35
    go_wp2_with (first | (go_at_call 65; refine (CP.out _).mono ?_; rintro e w' ⟨rfl, hb⟩; have hB : Below w.heap.size w w' := Below.thenn (by repeat (first | exact Below.refl _ _ | assumption | apply Below.drew | apply below_drewN | (refine Below.alloc ?_ (by first | omega | (simp; done) | (simp; omega)) _) | (refine Below.setCell ?_ (by first | omega | (simp; done) | (simp; omega)) _))) hb (by first | omega | (simp; done) | (simp; omega)); have hz : w.heap.size < w'.heap.size := (by have h := hb.size; (try simp at h); omega); obtain ⟨hc, hf⟩ := bcell hb; clear hb) | (go_at_call 69; refine (CG.out _ (h.below hB)).mono ?_; rintro e w' ⟨rfl, hb⟩; have hB : Below w.heap.size w w' := Below.thenn (by repeat (first | exact Below.refl _ _ | assumption | apply Below.drew | apply below_drewN | (refine Below.alloc ?_ (by first | omega | (simp; done) | (simp; omega)) _) | (refine Below.setCell ?_ (by first | omega | (simp; done) | (simp; omega)) _))) hb (by first | omega | (simp; done) | (simp; omega)); have hz : w.heap.size ≤ w'.heap.size := hB.size; (try (have hz1 : w.heap.size + 1 ≤ w'.heap.size := (by have h := hb.size; (try simp at h); omega))); obtain ⟨hc, hf⟩ := bcell hb; clear hb))
    go_ret2
    exact ⟨rfl, (by repeat (first | exact Below.refl _ _ | assumption | apply Below.drew | apply below_drewN | (refine Below.alloc ?_ (by first | omega | (simp; done) | (simp; omega)) _) | (refine Below.setCell ?_ (by first | omega | (simp; done) | (simp; omega)) _)))⟩
  rw [hg] at cg
  have CG := Lib.hid cg
  clear cg
  rcases hd : inr day 0 999 with _ | _
  · rw [show saleV p0 p1 p2 p3 rows day = 0 by simp [saleV, saleOk, hd], show saleOk p0 p1 p2 p3 rows day = false by simp [saleOk, hd]]
    clear hg hp
    go_enter Try.func35, Try.ntmps35
    go_wp2_with (first | (go_at_call 65; refine (CP.out _).mono ?_; rintro e w' ⟨rfl, hb⟩; have hB : Below w.heap.size w w' := Below.thenn (by repeat (first | exact Below.refl _ _ | assumption | apply Below.drew | apply below_drewN | (refine Below.alloc ?_ (by first | omega | (simp; done) | (simp; omega)) _) | (refine Below.setCell ?_ (by first | omega | (simp; done) | (simp; omega)) _))) hb (by first | omega | (simp; done) | (simp; omega)); have hz : w.heap.size < w'.heap.size := (by have h := hb.size; (try simp at h); omega); obtain ⟨hc, hf⟩ := bcell hb; clear hb) | (go_at_call 69; refine (CG.out _ (h.below hB)).mono ?_; rintro e w' ⟨rfl, hb⟩; have hB : Below w.heap.size w w' := Below.thenn (by repeat (first | exact Below.refl _ _ | assumption | apply Below.drew | apply below_drewN | (refine Below.alloc ?_ (by first | omega | (simp; done) | (simp; omega)) _) | (refine Below.setCell ?_ (by first | omega | (simp; done) | (simp; omega)) _))) hb (by first | omega | (simp; done) | (simp; omega)); have hz : w.heap.size ≤ w'.heap.size := hB.size; (try (have hz1 : w.heap.size + 1 ≤ w'.heap.size := (by have h := hb.size; (try simp at h); omega))); obtain ⟨hc, hf⟩ := bcell hb; clear hb) | (go_at_call 60; refine (spec_l11Day _ _).mono ?_; rintro e w' ⟨rfl, rfl⟩))
    go_ret2
    exact ⟨rfl, (by repeat (first | exact Below.refl _ _ | assumption | apply Below.drew | apply below_drewN | (refine Below.alloc ?_ (by first | omega | (simp; done) | (simp; omega)) _) | (refine Below.setCell ?_ (by first | omega | (simp; done) | (simp; omega)) _)))⟩
  rw [show saleV p0 p1 p2 p3 rows day = sumR (saleF p0 p1 p2 p3 day) rows by simp [saleV, saleOk, hd, hg, hp], show saleOk p0 p1 p2 p3 rows day = true by simp [saleOk, hd, hg, hp]]
  have hn : n ≤ 12 := by have := goodN hg; have := hl.out; omega
  have HG := Lib.hid hg
  have HP := Lib.hid hp
  clear hg hp
  go_enter Try.func35, Try.ntmps35
  go_wp2_with (first | (go_at_call 65; refine (CP.out _).mono ?_; rintro e w' ⟨rfl, hb⟩; have hB : Below w.heap.size w w' := Below.thenn (by repeat (first | exact Below.refl _ _ | assumption | apply Below.drew | apply below_drewN | (refine Below.alloc ?_ (by first | omega | (simp; done) | (simp; omega)) _) | (refine Below.setCell ?_ (by first | omega | (simp; done) | (simp; omega)) _))) hb (by first | omega | (simp; done) | (simp; omega)); have hz : w.heap.size ≤ w'.heap.size := hB.size; (try (have hz1 : w.heap.size + 1 ≤ w'.heap.size := (by have h := hb.size; (try simp at h); omega))); obtain ⟨hc, hf⟩ := bcell hb; have hPS : (fun w' => w'.cell? ⟨w.heap.size, 0, none⟩ = some (.int .i64 p0) ∧ w'.cell? ⟨w.heap.size, 1, none⟩ = some (.int .i64 p1) ∧ w'.cell? ⟨w.heap.size, 2, none⟩ = some (.int .i64 p2) ∧ w'.cell? ⟨w.heap.size, 3, none⟩ = some (.int .i64 p3)) w' := (by ((try dsimp only); (repeat' apply And.intro) <;> first | assumption | (refine (hc _ _ ?_).trans ?_ <;> first | assumption | omega | (simp; done) | (simp; omega) | (simp [*]; done) | (simp [World.cell?_alloc_some, *]; done)) | (simp [*, World.cell?_alloc_some, World.cell?_setCell_far]; done) | (simp; omega) | (exact (by repeat (first | exact Below.refl _ _ | assumption | apply Below.drew | apply below_drewN | (refine Below.alloc ?_ (by first | omega | (simp; done) | (simp; omega)) _) | (refine Below.setCell ?_ (by first | omega | (simp; done) | (simp; omega)) _)))))); clear hb) | (go_at_call 69; refine (CG.out _ (h.below hB)).mono ?_; rintro e w' ⟨rfl, hb⟩; have hB : Below w.heap.size w w' := Below.thenn (by repeat (first | exact Below.refl _ _ | assumption | apply Below.drew | apply below_drewN | (refine Below.alloc ?_ (by first | omega | (simp; done) | (simp; omega)) _) | (refine Below.setCell ?_ (by first | omega | (simp; done) | (simp; omega)) _))) hb (by first | omega | (simp; done) | (simp; omega)); have hz : w.heap.size ≤ w'.heap.size := hB.size; (try (have hz1 : w.heap.size + 1 ≤ w'.heap.size := (by have h := hb.size; (try simp at h); omega))); obtain ⟨hc, hf⟩ := bcell hb; have hPS : (fun w' => w'.cell? ⟨w.heap.size, 0, none⟩ = some (.int .i64 p0) ∧ w'.cell? ⟨w.heap.size, 1, none⟩ = some (.int .i64 p1) ∧ w'.cell? ⟨w.heap.size, 2, none⟩ = some (.int .i64 p2) ∧ w'.cell? ⟨w.heap.size, 3, none⟩ = some (.int .i64 p3)) w' := (by ((try dsimp only); (repeat' apply And.intro) <;> first | assumption | (refine (hc _ _ ?_).trans ?_ <;> first | assumption | omega | (simp; done) | (simp; omega) | (simp [*]; done) | (simp [World.cell?_alloc_some, *]; done)) | (simp [*, World.cell?_alloc_some, World.cell?_setCell_far]; done) | (simp; omega) | (exact (by repeat (first | exact Below.refl _ _ | assumption | apply Below.drew | apply below_drewN | (refine Below.alloc ?_ (by first | omega | (simp; done) | (simp; omega)) _) | (refine Below.setCell ?_ (by first | omega | (simp; done) | (simp; omega)) _)))))); clear hb) | (go_at_call 60; refine (spec_l11Day _ _).mono ?_; rintro e w' ⟨rfl, rfl⟩))
  go_loopg [8, 9] n (fun g s i wr => ∃ (k : Nat) (z : Int), k ≤ n ∧ n ≤ k + g ∧ i = .int .i64 k ∧ s = .int .i64 z ∧ 0 ≤ z ∧ z ≤ k * 50000 ∧ Below w.heap.size w wr ∧ w.heap.size + 1 ≤ wr.heap.size ∧ (fun w' => w'.cell? ⟨w.heap.size, 0, none⟩ = some (.int .i64 p0) ∧ w'.cell? ⟨w.heap.size, 1, none⟩ = some (.int .i64 p1) ∧ w'.cell? ⟨w.heap.size, 2, none⟩ = some (.int .i64 p2) ∧ w'.cell? ⟨w.heap.size, 3, none⟩ = some (.int .i64 p3)) wr ∧ Hid (z = sumR (saleF p0 p1 p2 p3 day) (rows.take k)))
  case atStart => exact ⟨0, 0, by omega, by omega, rfl, rfl, by omega, by omega, hB, by first | omega | (simp at *; omega), hPS, (show (0 : Int) = sumR _ _ by rw [sumR_zero])⟩
  case round =>
    clear hPS hB
    obtain ⟨k, z, hk1, hk2, rfl, rfl, hz0, hz1, hBr, hzr, hPS, ha⟩ := hrel
    obtain ⟨hP0, hP1, hP2, hP3⟩ := hPS
    by_cases hlt : k < n
    · obtain ⟨b, off, x0, x1, x2, x3, x4, rfl, hr, hblt, c0, c1, c2, c3, c4⟩ := h.row5 hlt
      rw [← hBr.cell (p := ⟨b, _, none⟩) hblt] at c0 c1 c2 c3 c4
      have hbr : b < wr.heap.size := by omega
      have hd := (goodR HG.out hr).1
      have hpb := prK_bd (k := x1) HP.out
      have HR := Lib.hid hr
      clear hr
      by_cases hq : x2 = day
      · have hq' : (x2 == day) = true := by simpa using hq
        have HF : Hid (saleF p0 p1 p2 p3 day [x0, x1, x2, x3, x4] = prK p0 p1 p2 p3 x1) := (show saleF _ _ _ _ _ _ = _ by simp [saleF, fld, hq])
        clear hq
        have hx : x1 = 0 ∨ x1 = 1 ∨ x1 = 2 ∨ x1 = 3 := by omega
        clear hd
        rcases hx with rfl | rfl | rfl | rfl
        · simp only [prK, if_true, if_false, show ¬ ((1 : Int) = 0) by decide, show ¬ ((2 : Int) = 0) by decide, show ¬ ((2 : Int) = 1) by decide, show ¬ ((3 : Int) = 0) by decide, show ¬ ((3 : Int) = 1) by decide, show ¬ ((3 : Int) = 2) by decide] at hpb HF
          have wz : IntKind.i64.wrap (z + p0) = z + p0 := IntWalk.i64_in _ (by omega)
          go_wp2_with fail
          go_region
          all_goals go_wp2_with fail
          all_goals go_roundg (n - (k + 1))
          all_goals first | omega | exact ⟨k + 1, _, by omega, by omega, by go_num, rfl, by omega, by omega, (by repeat (first | exact Below.refl _ _ | assumption | apply Below.drew | apply below_drewN | (refine Below.alloc ?_ (by first | omega | (simp; done) | (simp; omega)) _) | (refine Below.setCell ?_ (by first | omega | (simp; done) | (simp; omega)) _))), by first | omega | (simp at *; omega), by (((try dsimp only); (repeat' apply And.intro) <;> first | assumption | (refine (hc _ _ ?_).trans ?_ <;> first | assumption | omega | (simp; done) | (simp; omega) | (simp [*]; done) | (simp [World.cell?_alloc_some, *]; done)) | (simp [*, World.cell?_alloc_some, World.cell?_setCell_far]; done) | (simp; omega) | (exact (by repeat (first | exact Below.refl _ _ | assumption | apply Below.drew | apply below_drewN | (refine Below.alloc ?_ (by first | omega | (simp; done) | (simp; omega)) _) | (refine Below.setCell ?_ (by first | omega | (simp; done) | (simp; omega)) _)))))), (show _ = sumR _ _ by rw [sumR_next HR.out, ← ha.out, HF.out])⟩
        · simp only [prK, if_true, if_false, show ¬ ((1 : Int) = 0) by decide, show ¬ ((2 : Int) = 0) by decide, show ¬ ((2 : Int) = 1) by decide, show ¬ ((3 : Int) = 0) by decide, show ¬ ((3 : Int) = 1) by decide, show ¬ ((3 : Int) = 2) by decide] at hpb HF
          have wz : IntKind.i64.wrap (z + p1) = z + p1 := IntWalk.i64_in _ (by omega)
          go_wp2_with fail
          go_region
          all_goals go_wp2_with fail
          all_goals go_roundg (n - (k + 1))
          all_goals first | omega | exact ⟨k + 1, _, by omega, by omega, by go_num, rfl, by omega, by omega, (by repeat (first | exact Below.refl _ _ | assumption | apply Below.drew | apply below_drewN | (refine Below.alloc ?_ (by first | omega | (simp; done) | (simp; omega)) _) | (refine Below.setCell ?_ (by first | omega | (simp; done) | (simp; omega)) _))), by first | omega | (simp at *; omega), by (((try dsimp only); (repeat' apply And.intro) <;> first | assumption | (refine (hc _ _ ?_).trans ?_ <;> first | assumption | omega | (simp; done) | (simp; omega) | (simp [*]; done) | (simp [World.cell?_alloc_some, *]; done)) | (simp [*, World.cell?_alloc_some, World.cell?_setCell_far]; done) | (simp; omega) | (exact (by repeat (first | exact Below.refl _ _ | assumption | apply Below.drew | apply below_drewN | (refine Below.alloc ?_ (by first | omega | (simp; done) | (simp; omega)) _) | (refine Below.setCell ?_ (by first | omega | (simp; done) | (simp; omega)) _)))))), (show _ = sumR _ _ by rw [sumR_next HR.out, ← ha.out, HF.out])⟩
        · simp only [prK, if_true, if_false, show ¬ ((1 : Int) = 0) by decide, show ¬ ((2 : Int) = 0) by decide, show ¬ ((2 : Int) = 1) by decide, show ¬ ((3 : Int) = 0) by decide, show ¬ ((3 : Int) = 1) by decide, show ¬ ((3 : Int) = 2) by decide] at hpb HF
          have wz : IntKind.i64.wrap (z + p2) = z + p2 := IntWalk.i64_in _ (by omega)
          go_wp2_with fail
          go_region
          all_goals go_wp2_with fail
          all_goals go_roundg (n - (k + 1))
          all_goals first | omega | exact ⟨k + 1, _, by omega, by omega, by go_num, rfl, by omega, by omega, (by repeat (first | exact Below.refl _ _ | assumption | apply Below.drew | apply below_drewN | (refine Below.alloc ?_ (by first | omega | (simp; done) | (simp; omega)) _) | (refine Below.setCell ?_ (by first | omega | (simp; done) | (simp; omega)) _))), by first | omega | (simp at *; omega), by (((try dsimp only); (repeat' apply And.intro) <;> first | assumption | (refine (hc _ _ ?_).trans ?_ <;> first | assumption | omega | (simp; done) | (simp; omega) | (simp [*]; done) | (simp [World.cell?_alloc_some, *]; done)) | (simp [*, World.cell?_alloc_some, World.cell?_setCell_far]; done) | (simp; omega) | (exact (by repeat (first | exact Below.refl _ _ | assumption | apply Below.drew | apply below_drewN | (refine Below.alloc ?_ (by first | omega | (simp; done) | (simp; omega)) _) | (refine Below.setCell ?_ (by first | omega | (simp; done) | (simp; omega)) _)))))), (show _ = sumR _ _ by rw [sumR_next HR.out, ← ha.out, HF.out])⟩
        · simp only [prK, if_true, if_false, show ¬ ((1 : Int) = 0) by decide, show ¬ ((2 : Int) = 0) by decide, show ¬ ((2 : Int) = 1) by decide, show ¬ ((3 : Int) = 0) by decide, show ¬ ((3 : Int) = 1) by decide, show ¬ ((3 : Int) = 2) by decide] at hpb HF
          have wz : IntKind.i64.wrap (z + p3) = z + p3 := IntWalk.i64_in _ (by omega)
          go_wp2_with fail
          go_region
          all_goals go_wp2_with fail
          all_goals go_roundg (n - (k + 1))
          all_goals first | omega | exact ⟨k + 1, _, by omega, by omega, by go_num, rfl, by omega, by omega, (by repeat (first | exact Below.refl _ _ | assumption | apply Below.drew | apply below_drewN | (refine Below.alloc ?_ (by first | omega | (simp; done) | (simp; omega)) _) | (refine Below.setCell ?_ (by first | omega | (simp; done) | (simp; omega)) _))), by first | omega | (simp at *; omega), by (((try dsimp only); (repeat' apply And.intro) <;> first | assumption | (refine (hc _ _ ?_).trans ?_ <;> first | assumption | omega | (simp; done) | (simp; omega) | (simp [*]; done) | (simp [World.cell?_alloc_some, *]; done)) | (simp [*, World.cell?_alloc_some, World.cell?_setCell_far]; done) | (simp; omega) | (exact (by repeat (first | exact Below.refl _ _ | assumption | apply Below.drew | apply below_drewN | (refine Below.alloc ?_ (by first | omega | (simp; done) | (simp; omega)) _) | (refine Below.setCell ?_ (by first | omega | (simp; done) | (simp; omega)) _)))))), (show _ = sumR _ _ by rw [sumR_next HR.out, ← ha.out, HF.out])⟩
      · have hq' : (x2 == day) = false := by simpa using hq
        have HF : Hid (saleF p0 p1 p2 p3 day [x0, x1, x2, x3, x4] = 0) := (show saleF _ _ _ _ _ _ = _ by simp [saleF, fld, hq])
        clear hq hd hpb
        go_wp2_with fail
        all_goals go_roundg (n - (k + 1))
        all_goals first | omega | exact ⟨k + 1, z, by omega, by omega, by go_num, rfl, by omega, by omega, (by repeat (first | exact Below.refl _ _ | assumption | apply Below.drew | apply below_drewN | (refine Below.alloc ?_ (by first | omega | (simp; done) | (simp; omega)) _) | (refine Below.setCell ?_ (by first | omega | (simp; done) | (simp; omega)) _))), by first | omega | (simp at *; omega), by (((try dsimp only); (repeat' apply And.intro) <;> first | assumption | (refine (hc _ _ ?_).trans ?_ <;> first | assumption | omega | (simp; done) | (simp; omega) | (simp [*]; done) | (simp [World.cell?_alloc_some, *]; done)) | (simp [*, World.cell?_alloc_some, World.cell?_setCell_far]; done) | (simp; omega) | (exact (by repeat (first | exact Below.refl _ _ | assumption | apply Below.drew | apply below_drewN | (refine Below.alloc ?_ (by first | omega | (simp; done) | (simp; omega)) _) | (refine Below.setCell ?_ (by first | omega | (simp; done) | (simp; omega)) _)))))), (show _ = sumR _ _ by rw [sumR_next HR.out, ← ha.out, HF.out, Int.add_zero])⟩
    · go_wp2_with fail
      go_ret2
      exact ⟨ret_ib (by rw [ha.out]; exact sumR_end hl.out (by omega)) rfl, hBr⟩
end Go.Proofs.Ytobcgcdjoogfnaa
