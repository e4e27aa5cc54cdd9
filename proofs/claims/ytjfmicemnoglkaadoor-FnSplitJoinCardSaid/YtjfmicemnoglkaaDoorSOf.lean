/- Strings that are drawn. -/
import Derived.Test.YtjfmicemnoglkaaDoorSKlaw
namespace Go.Proofs.YtjfmicemnoglkaaDoor
open Go.RowKit
set_option linter.unusedVariables false
set_option linter.unusedSimpArgs false

/-- A slice that reads as a list of strings. -/
def RdS (w : World) (A : Option Addr) (n : Nat) (xs : List ByteArray) : Prop := Rd w 1 A n (xs.map Value.string)
theorem RdS.len {w : World} {A : Option Addr} {n : Nat} {xs : List ByteArray} (h : RdS w A n xs) : xs.length = n := by have := h.1; simpa using this
theorem RdS.at_ {w : World} {A : Option Addr} {n k : Nat} {xs : List ByteArray} (h : RdS w A n xs) (hk : k < n) :
    ∃ b off s, A = some ⟨b, off, none⟩ ∧ xs[k]? = some s ∧ w.cell? ⟨b, off + k, none⟩ = some (.string s) := by
  have hl := h.len
  obtain ⟨b, off, e, hc⟩ := h.2 (by omega)
  have hx := List.getElem?_eq_getElem (l := xs) (i := k) (by omega)
  exact ⟨b, off, _, e, hx, hc k _ (by simp [hx])⟩
theorem RdS.below {w w' : World} {A : Option Addr} {n : Nat} {xs : List ByteArray} (h : RdS w A n xs) (hb : Below w.heap.size w w') : RdS w' A n xs := Rd.below h hb
theorem RdS.lit (w : World) (t : TypeId) (xs : List ByteArray) : RdS (w.alloc (.cells (xs.map Value.string).toArray t)) (some ⟨w.heap.size, 0, none⟩) xs.length xs := by
  have := Rd.of_block (n := xs.length) (size := 1) (heap_alloc_new w (.cells (xs.map Value.string).toArray t)) (by simp)
  simpa [RdS] using this
def DrewT (w : World) (g : Nat) (S : Src) (K : Nat) (ys : List ByteArray) (e : Ending) (w' : World) : Prop := ∃ s : ByteArray, s ∈ ys ∧ e = .returned (.string s) ∧ Cur w' g S K ∧ w.grownBy w' (some g)
set_option maxHeartbeats 1000000 in
theorem cur_of (w : World) (g : Nat) (S : Src) (K : Nat) (ys : List ByteArray) (A : Option Addr) (n c : Nat) (h : Cur w g S K) (hK : K ≤ 900000) (hR : RdS w A n ys) (hne : ∀ b off, A = some ⟨b, off, none⟩ → b ≠ g) (h0 : 0 < n) (h1 : n ≤ 200) (hc : c = n) :
    Calls Tryd.prog 14 #[.pointer (some ⟨g, 0, none⟩), .slice A n c] w (DrewT w g S (K + 2) ys) := by
  subst hc
  have HW := Lib.hid h
  have HR := Lib.hid hR
  obtain ⟨b, off, x0, rfl, hx0, hc0⟩ := hR.at_ h0
  have hbg := hne b off rfl
  clear h hR hx0 hc0 hne
  go_enter Tryd.func14, Tryd.ntmps14
  go_wp2_with (go_at_call 16; (with_reducible refine (cur_pick w _ S K (c : Int) HW.out hK (by omega) (by omega)).mono ?_); rintro e w1 ⟨x, ⟨hx0, hx1⟩, rfl, hC, hG⟩; have HC := Lib.hid hC; have HG := Lib.hid hG; obtain ⟨j, rfl⟩ := Int.eq_ofNat_of_zero_le hx0; have hj : j < c := (by omega); obtain ⟨b', off', y, e', hy, hcy⟩ := HR.out.at_ hj; injection e' with e'; injection e' with e1 e2; subst e1 e2; have hcy1 := cell_grown hG hcy (by intro e; injection e with e; exact hbg e); have HY := Lib.hid hy; clear hC hG hy hcy)
  go_ret
  exact ⟨y, List.mem_of_getElem? HY.out, rfl, HC.out, HG.out⟩
def anys : List ByteArray := [⟨#[]⟩, ⟨#[97]⟩, ⟨#[97, 44, 98]⟩, ⟨#[115, 111, 109, 101, 32, 119, 111, 114, 100, 115]⟩, ⟨#[120, 35, 121]⟩, ⟨#[45, 49, 50]⟩, ⟨#[0, 255]⟩, ⟨#[44, 44]⟩, ⟨#[48]⟩]
set_option maxHeartbeats 1000000 in
theorem cur_any1 (w : World) (g : Nat) (S : Src) (K : Nat) (h : Cur w g S K) (hK : K ≤ 800000) :
    Calls Tryd.prog 13 #[.pointer (some ⟨g, 0, none⟩)] w (DrewT w g S (K + 2) anys) := by
  have H := Lib.hid (h.alloc (.cells (anys.map Value.string).toArray 9))
  have hg := h.lt
  have R := Lib.hid (RdS.lit w 9 anys)
  have HGA : Hid (w.grownBy (w.alloc (.cells (anys.map Value.string).toArray 9)) (some g)) := Lib.hid (only_alloc (World.grownBy.refl w (some g)) _)
  clear h
  go_enter Tryd.func13, Tryd.ntmps13
  go_wp2_with fail
  refine (cur_of (w.alloc (.cells (anys.map Value.string).toArray 9)) g S K anys _ _ _ H.out (by omega) R.out (by intro b off e; injection e with e; injection e with e; omega) (by decide) (by decide) rfl).mono ?_
  rintro e w2 ⟨s, hs, rfl, hC, hG⟩
  have HC := Lib.hid hC
  have HG := Lib.hid (only_trans HGA.out hG)
  have HS := Lib.hid hs
  clear hC hG hs
  go_wp2_with fail
  go_ret
  exact ⟨s, HS.out, rfl, HC.out, HG.out⟩
end Go.Proofs.YtjfmicemnoglkaaDoor
