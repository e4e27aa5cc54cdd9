/- A line with a place, the span with a place: the program's and the reference's. -/
import Derived.Test.YtjfmicemnoglkaaSupB
import Derived.Test.YtjfmicemnoglkaaSagP
import Derived.Deep.CutRange
import Derived.Deep.CutBlock
namespace Go.Proofs.Ytjfmicemnoglkaa
open Go.RowKit
set_option linter.unusedVariables false
set_option linter.unusedSimpArgs false

theorem onOk_no {rows : List (List Int)} {place : Int} (h : lineOk rows = false) : onOk rows place = false := by simp [onOk, h]
theorem onOk_yes {rows : List (List Int)} {place e : Int} (h : lineOk rows = true) (he : endN rows = e) : onOk rows place = inr place 0 e := by subst he; simp [onOk, h, inr]
set_option maxHeartbeats 1000000 in
theorem impl_isPlaceOf (A : Option Addr) (n c : Nat) (rows : List (List Int)) (place : Int) (w : World) (h : RdL w A n rows) (hm : n ≤ 1048577) :
    Calls Try.prog 97 #[.slice A n c, .int .i64 place] w (Ret w (.bool (onOk rows place))) := by
  have ci := impl_IsLine A n c rows w h hm
  rcases ho : lineOk rows with _ | _
  · rw [ho] at ci
    have CI := Lib.hid ci
    have HO := Lib.hid (onOk_no (place := place) ho)
    clear ci ho
    go_enter Try.func97, Try.ntmps97
    go_wp2_with (go_at_call 107; refine (CI.out).mono ?_; rintro e w' ⟨rfl, hb⟩; have hB : Below w.heap.size w w' := Below.thenn (by repeat (first | exact Below.refl _ _ | assumption | apply Below.drew | apply below_drewN | (refine Below.alloc ?_ (by first | omega | (simp; done) | (simp; omega)) _) | (refine Below.setCell ?_ (by first | omega | (simp; done) | (simp; omega)) _))) hb (by first | omega | (simp; done) | (simp; omega)); have hz : w.heap.size ≤ w'.heap.size := hB.size; obtain ⟨hc, hf⟩ := bcell hb; clear hb)
    go_ret
    exact ⟨ret_bool HO.out.symm, (by repeat (first | exact Below.refl _ _ | assumption | apply Below.drew | apply below_drewN | (refine Below.alloc ?_ (by first | omega | (simp; done) | (simp; omega)) _) | (refine Below.setCell ?_ (by first | omega | (simp; done) | (simp; omega)) _)))⟩
  · rw [ho] at ci
    have L := lineOk_line ho
    have hlo := L.lo
    rw [h.2.1] at hlo
    obtain ⟨b, off, x0, x1, x2, rfl, hr, hbl, c0, _, _⟩ := h.row (k := n - 1) (by omega)
    have he : endN rows = x0 := by unfold endN; rw [h.2.1]; exact (atN_of hr).1
    have HO := Lib.hid (onOk_yes (place := place) ho he)
    have CI := Lib.hid ci
    have hn1 : ((n : Int) - 1).toNat = n - 1 := by omega
    have hn2 : 0 ≤ (n : Int) - 1 := by omega
    clear ci ho he hr h L
    go_enter Try.func97, Try.ntmps97
    go_wp2_with (first | (go_at_call 107; refine (CI.out).mono ?_; rintro e w' ⟨rfl, hb⟩; have hB : Below w.heap.size w w' := Below.thenn (by repeat (first | exact Below.refl _ _ | assumption | apply Below.drew | apply below_drewN | (refine Below.alloc ?_ (by first | omega | (simp; done) | (simp; omega)) _) | (refine Below.setCell ?_ (by first | omega | (simp; done) | (simp; omega)) _))) hb (by first | omega | (simp; done) | (simp; omega)); have hz : w.heap.size ≤ w'.heap.size := hB.size; obtain ⟨hc, hf⟩ := bcell hb; clear hb) | (go_at_call 98; refine (impl_within _ _ _ _).mono ?_; rintro e w' ⟨rfl, rfl⟩))
    go_ret
    exact ⟨ret_bool HO.out.symm, (by repeat (first | exact Below.refl _ _ | assumption | apply Below.drew | apply below_drewN | (refine Below.alloc ?_ (by first | omega | (simp; done) | (simp; omega)) _) | (refine Below.setCell ?_ (by first | omega | (simp; done) | (simp; omega)) _)))⟩
set_option maxHeartbeats 1000000 in
theorem spec_l2On (A : Option Addr) (n c : Nat) (rows : List (List Int)) (place : Int) (w : World) (h : RdL w A n rows) (hm : n ≤ 1048577) :
    Calls Try.prog 116 #[.slice A n c, .int .i64 place] w (Ret w (.bool (onOk rows place))) := by
  have ci := spec_l2Line A n c rows w h hm
  rcases ho : lineOk rows with _ | _
  · rw [ho] at ci
    have CI := Lib.hid ci
    have HO := Lib.hid (onOk_no (place := place) ho)
    clear ci ho
    go_enter Try.func116, Try.ntmps116
    go_wp2_with (go_at_call 111; refine (CI.out).mono ?_; rintro e w' ⟨rfl, hb⟩; have hB : Below w.heap.size w w' := Below.thenn (by repeat (first | exact Below.refl _ _ | assumption | apply Below.drew | apply below_drewN | (refine Below.alloc ?_ (by first | omega | (simp; done) | (simp; omega)) _) | (refine Below.setCell ?_ (by first | omega | (simp; done) | (simp; omega)) _))) hb (by first | omega | (simp; done) | (simp; omega)); have hz : w.heap.size ≤ w'.heap.size := hB.size; obtain ⟨hc, hf⟩ := bcell hb; clear hb)
    go_ret
    exact ⟨ret_bool HO.out.symm, (by repeat (first | exact Below.refl _ _ | assumption | apply Below.drew | apply below_drewN | (refine Below.alloc ?_ (by first | omega | (simp; done) | (simp; omega)) _) | (refine Below.setCell ?_ (by first | omega | (simp; done) | (simp; omega)) _)))⟩
  · rw [ho] at ci
    have L := lineOk_line ho
    have hlo := L.lo
    rw [h.2.1] at hlo
    obtain ⟨b, off, x0, x1, x2, rfl, hr, hbl, c0, _, _⟩ := h.row (k := n - 1) (by omega)
    have he : endN rows = x0 := by unfold endN; rw [h.2.1]; exact (atN_of hr).1
    have HO := Lib.hid (onOk_yes (place := place) ho he)
    have CI := Lib.hid ci
    have hn1 : ((n : Int) - 1).toNat = n - 1 := by omega
    have hn2 : 0 ≤ (n : Int) - 1 := by omega
    clear ci ho he hr h L
    go_enter Try.func116, Try.ntmps116
    go_wp2_with (first | (go_at_call 111; refine (CI.out).mono ?_; rintro e w' ⟨rfl, hb⟩; have hB : Below w.heap.size w w' := Below.thenn (by repeat (first | exact Below.refl _ _ | assumption | apply Below.drew | apply below_drewN | (refine Below.alloc ?_ (by first | omega | (simp; done) | (simp; omega)) _) | (refine Below.setCell ?_ (by first | omega | (simp; done) | (simp; omega)) _))) hb (by first | omega | (simp; done) | (simp; omega)); have hz : w.heap.size ≤ w'.heap.size := hB.size; obtain ⟨hc, hf⟩ := bcell hb; clear hb) | (go_at_call 102; refine (spec_l1In _ _ _ _).mono ?_; rintro e w' ⟨rfl, rfl⟩))
    go_ret
    exact ⟨ret_bool HO.out.symm, (by repeat (first | exact Below.refl _ _ | assumption | apply Below.drew | apply below_drewN | (refine Below.alloc ?_ (by first | omega | (simp; done) | (simp; omega)) _) | (refine Below.setCell ?_ (by first | omega | (simp; done) | (simp; omega)) _)))⟩
/-- The row of a line at an index. -/
theorem RdL.rowN {w : World} {A : Option Addr} {n k : Nat} {rows : List (List Int)} (h : RdL w A n rows) (hk : k < n) :
    ∃ b off, A = some ⟨b, off, none⟩ ∧ b < w.heap.size ∧ w.cell? ⟨b, off + k * 3, none⟩ = some (.int .i64 (atN rows k)) ∧ w.cell? ⟨b, off + k * 3 + 1, none⟩ = some (.int .i64 (htN rows k)) ∧ w.cell? ⟨b, off + k * 3 + 2, none⟩ = some (.bool (decide (stN rows k = 1))) := by
  obtain ⟨b, off, x0, x1, x2, e, hr, hb, c0, c1, c2⟩ := h.row hk
  obtain ⟨rfl, rfl, rfl⟩ := atN_of hr
  exact ⟨b, off, e, hb, c0, c1, c2⟩
set_option maxHeartbeats 1000000 in
theorem impl_spanAt (A : Option Addr) (n c : Nat) (rows : List (List Int)) (place : Int) (w : World) (h : RdL w A n rows) (hm : n ≤ 1048577) (hs : Span rows place) :
    Calls Try.prog 118 #[.slice A n c, .int .i64 place] w fun e w' => e = .returned (.int .i64 (spanN rows place)) ∧ w = w' := by
  have hsl := hs.lt
  rw [h.2.1] at hsl
  have HS := Lib.hid hs
  have HH := Lib.hid h
  clear hs h
  go_enter Try.func118, Try.ntmps118
  go_wp2
  go_loopg [5] (spanN rows place) (fun g i wr => ∃ k : Nat, k ≤ spanN rows place ∧ spanN rows place ≤ k + g ∧ i = .int .i64 k ∧ w = wr)
  case atStart => exact ⟨0, by omega, by omega, rfl, rfl⟩
  case round =>
    obtain ⟨k, hk1, hk2, rfl, rfl⟩ := hrel
    obtain ⟨b, off, rfl, hb, c0, _, _⟩ := HH.out.rowN (k := k + 1) (by omega)
    by_cases hlt : k < spanN rows place
    · have hp : decide (atN rows (k + 1) < place) = true := decide_eq_true (HS.out.below k hlt)
      generalize atN rows (k + 1) = z at *
      go_wp2_with fail
      go_roundg (spanN rows place - (k + 1))
      case measure => omega
      case rel => exact ⟨k + 1, by omega, by omega, by go_num, rfl⟩
    · have hk : k = spanN rows place := by omega
      have hp : decide (atN rows (k + 1) < place) = false := decide_eq_false (by have := HS.out.hi; rw [hk]; omega)
      have HK := Lib.hid hk
      clear hk
      generalize atN rows (k + 1) = z at *
      go_wp2_with fail
      go_ret
      exact ⟨ret_int (by rw [HK.out]), rfl⟩
set_option maxHeartbeats 1000000 in
theorem spec_l2Span (A : Option Addr) (n c : Nat) (rows : List (List Int)) (place : Int) (w : World) (h : RdL w A n rows) (hm : n ≤ 1048577) (hs : Span rows place) :
    Calls Try.prog 119 #[.slice A n c, .int .i64 place] w fun e w' => e = .returned (.int .i64 (spanN rows place)) ∧ w = w' := by
  have hsl := hs.lt
  rw [h.2.1] at hsl
  have HS := Lib.hid hs
  have HH := Lib.hid h
  clear hs h
  go_enter Try.func119, Try.ntmps119
  go_wp2
  go_loopg [5] (spanN rows place) (fun g i wr => ∃ k : Nat, k ≤ spanN rows place ∧ spanN rows place ≤ k + g ∧ i = .int .i64 k ∧ w = wr)
  case atStart => exact ⟨0, by omega, by omega, rfl, rfl⟩
  case round =>
    obtain ⟨k, hk1, hk2, rfl, rfl⟩ := hrel
    obtain ⟨b, off, rfl, hb, c0, _, _⟩ := HH.out.rowN (k := k + 1) (by omega)
    by_cases hlt : k < spanN rows place
    · have hp : decide (atN rows (k + 1) < place) = true := decide_eq_true (HS.out.below k hlt)
      generalize atN rows (k + 1) = z at *
      go_wp2_with fail
      go_roundg (spanN rows place - (k + 1))
      case measure => omega
      case rel => exact ⟨k + 1, by omega, by omega, by go_num, rfl⟩
    · have hk : k = spanN rows place := by omega
      have hp : decide (atN rows (k + 1) < place) = false := decide_eq_false (by have := HS.out.hi; rw [hk]; omega)
      have HK := Lib.hid hk
      clear hk
      generalize atN rows (k + 1) = z at *
      go_wp2_with fail
      go_ret
      exact ⟨ret_int (by rw [HK.out]), rfl⟩
end Go.Proofs.Ytjfmicemnoglkaa
