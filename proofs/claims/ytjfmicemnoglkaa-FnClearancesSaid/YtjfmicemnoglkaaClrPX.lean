/- Merged: ClrP, TowP. -/
import Derived.Test.YtjfmicemnoglkaaChoP
import Derived.Test.YtjfmicemnoglkaaCmpP
namespace Go.Proofs.Ytjfmicemnoglkaa
open Go.RowKit
set_option linter.unusedVariables false
set_option linter.unusedSimpArgs false

/-! ### Grounds: rows [at, height] -/
def grdOk (p : Int) (r : List Int) : Bool := decide (0 ≤ fld r 1 ∧ fld r 1 ≤ 2000) && decide (p < fld r 0)
def grdF : Int → List (List Int) → Bool
  | _, [] => true
  | p, r :: rs => grdOk p r && grdF (fld r 0) rs
def grdR (n : Nat) (p0 p1 e : Int) : Bool := decide (2 ≤ n ∧ n ≤ 8) && (decide (p0 = 0) && decide (p1 = e))
def grdA (rows g : List (List Int)) : Bool := grdR g.length (atN g 0) (atN g (g.length - 1)) (endN rows) && grdF (-1) g
def igOk (rows g : List (List Int)) : Bool := lineOk rows && grdA rows g
theorem igOk_iff {rows g : List (List Int)} : igOk rows g = true ↔ lineOk rows = true ∧ grdA rows g = true := by simp [igOk]
theorem grdOk_iff {p : Int} {r : List Int} : grdOk p r = true ↔ (0 ≤ fld r 1 ∧ fld r 1 ≤ 2000) ∧ p < fld r 0 := by simp [grdOk]
theorem grdF_bad {rows : List (List Int)} {k : Nat} {r : List Int} (h : rows[k]? = some r) (ho : grdOk (prevL rows k) r = false) : grdF (prevL rows k) (rows.drop k) = false := by
  rw [drop_atL h]; simp [grdF, ho]
theorem grdF_step {rows : List (List Int)} {k : Nat} {r : List Int} (h : rows[k]? = some r) (ho : grdOk (prevL rows k) r = true) : grdF (prevL rows k) (rows.drop k) = grdF (prevL rows (k + 1)) (rows.drop (k + 1)) := by
  rw [drop_atL h, prevL_next h]
  conv => lhs; unfold grdF
  rw [ho, Bool.true_and]
theorem grdF_end {rows : List (List Int)} {n k : Nat} {p : Int} (h : rows.length = n) (hk : n ≤ k) : grdF p (rows.drop k) = true := by
  rw [List.drop_of_length_le (by omega)]; rfl
theorem grdF_at : ∀ {rows : List (List Int)} {p : Int}, grdF p rows = true → ∀ {k : Nat}, k < rows.length → (0 ≤ htN rows k ∧ htN rows k ≤ 2000) ∧ (k = 0 → p < atN rows k) ∧ (0 < k → atN rows (k - 1) < atN rows k)
  | [], _, _, _, h => by simp at h
  | r :: rs, p, hg, 0, _ => by
    simp only [grdF, Bool.and_eq_true] at hg
    obtain ⟨h2, h3⟩ := grdOk_iff.1 hg.1
    exact ⟨h2, fun _ => h3, fun h => absurd h (Nat.lt_irrefl 0)⟩
  | r :: rs, p, hg, k + 1, h => by
    simp only [grdF, Bool.and_eq_true] at hg
    obtain ⟨h2, h3, h4⟩ := grdF_at hg.2 (k := k) (by simpa using h)
    have e1 : atN (r :: rs) (k + 1) = atN rs k := by simp [atN]
    have e2 : htN (r :: rs) (k + 1) = htN rs k := by simp [htN]
    rw [e1, e2]
    refine ⟨h2, by omega, fun _ => ?_⟩
    rcases Nat.eq_zero_or_pos k with rfl | hk
    · have := h3 rfl
      simpa [atN] using this
    · have := h4 hk
      have e3 : atN (r :: rs) (k + 1 - 1) = atN rs (k - 1) := by
        obtain ⟨j, rfl⟩ : ∃ j, k = j + 1 := ⟨k - 1, by omega⟩
        simp [atN]
      rw [e3]
      exact this
/-- The ground as a line whose every support is a station: what is known of lines is known of grounds. -/
def gln (g : List (List Int)) : List (List Int) := g.map fun r => [fld r 0, fld r 1, 1]
theorem gln_len (g : List (List Int)) : (gln g).length = g.length := by simp [gln]
theorem gln_get (g : List (List Int)) (k : Nat) (hk : k < g.length) : (gln g).getD k [] = [fld (g.getD k []) 0, fld (g.getD k []) 1, 1] := by
  simp [gln, List.getD, List.getElem?_map, List.getElem?_eq_getElem hk]
theorem gln_at (g : List (List Int)) (k : Nat) (hk : k < g.length) : atN (gln g) k = atN g k ∧ htN (gln g) k = htN g k ∧ stN (gln g) k = 1 := by
  unfold atN htN stN
  rw [gln_get g k hk]
  simp [fld]
theorem gln_sp (place : Int) : ∀ g : List (List Int), spF place (gln g) = spF place g
  | [] => rfl
  | r :: rs => by
    have ih := gln_sp place rs
    simp only [gln, List.map_cons, spF] at ih ⊢
    rw [ih]
    simp [fld]
theorem gln_span (g : List (List Int)) (place : Int) : spanN (gln g) place = spanN g place := by
  unfold spanN
  rw [← gln_sp place g.tail]
  unfold gln
  rw [List.map_tail]
theorem grd_line {rows g : List (List Int)} (L : Line rows) (h : grdA rows g = true) : Line (gln g) ∧ endN (gln g) = endN rows ∧ endN g = endN rows ∧ (2 ≤ g.length ∧ g.length ≤ 8) ∧ atN g 0 = 0 := by
  simp only [grdA, grdR, Bool.and_eq_true, decide_eq_true_eq] at h
  obtain ⟨⟨hn, h0, h1⟩, hf⟩ := h
  have hlast : atN (gln g) (g.length - 1) = endN rows := by rw [(gln_at g _ (by omega)).1]; exact h1
  have hr : ∀ k, k + 1 < (gln g).length → atN (gln g) k < atN (gln g) (k + 1) := fun k hk => by
    rw [gln_len] at hk
    rw [(gln_at g k (by omega)).1, (gln_at g (k + 1) hk).1]
    exact (grdF_at hf hk).2.2 (by omega)
  have hmono : ∀ (j i : Nat), i ≤ j → j < g.length → atN (gln g) i ≤ atN (gln g) j := fun j => by
    induction j with
    | zero => intro i hi _; obtain rfl : i = 0 := by omega
              omega
    | succ j ih =>
      intro i hi hj
      rcases Nat.lt_or_ge i (j + 1) with hl | hl
      · have := ih i (by omega) (by omega)
        have := hr j (by rw [gln_len]; omega)
        omega
      · obtain rfl : i = j + 1 := by omega
        omega
  have hz : atN (gln g) 0 = 0 := by rw [(gln_at g 0 (by omega)).1]; exact h0
  refine ⟨⟨by rw [gln_len]; omega, by rw [gln_len]; omega, hz, (gln_at g 0 (by omega)).2.2, by rw [gln_len]; exact (gln_at g _ (by omega)).2.2, fun k hk => ?_, fun k hk => ?_, hr⟩, ?_, h1, hn, h0⟩
  · rw [gln_len] at hk
    have := hmono k 0 (by omega) hk
    have := hmono (g.length - 1) k (by omega) (by omega)
    have := L.end_pos
    omega
  · rw [gln_len] at hk
    rw [(gln_at g k hk).2.1]
    exact (grdF_at hf hk).1
  · unfold endN
    rw [gln_len]
    exact hlast
theorem gln_parts {rows g : List (List Int)} (L : Line rows) (h : grdA rows g = true) {place : Int} (h0 : 0 ≤ place) (h1 : place ≤ endN rows) :
    Span g place ∧ lX (gln g) place = lX g place ∧ lY (gln g) place = lY g place ∧ lL (gln g) place = lL g place ∧ chN (gln g) place = chN g place := by
  obtain ⟨G, e1, e2, hn, hz⟩ := grd_line L h
  have S := G.span h0 (by rw [e1]; exact h1)
  have hs := S.lt
  rw [gln_len, gln_span] at hs
  have a1 := gln_at g (spanN g place) (by omega)
  have a2 := gln_at g (spanN g place + 1) hs
  have x1 : lX (gln g) place = lX g place := by unfold lX; rw [gln_span, a1.1]
  have x2 : lY (gln g) place = lY g place := by unfold lY; rw [gln_span, a2.1]
  have x3 : lL (gln g) place = lL g place := by unfold lL; rw [gln_span, a2.1, a1.1]
  refine ⟨⟨hs, ?_, ?_, fun k hk => ?_⟩, x1, x2, x3, ?_⟩
  · have := S.lo
    rwa [gln_span, a1.1] at this
  · have := S.hi
    rwa [gln_span, a2.1] at this
  · have := S.below k (by rw [gln_span]; exact hk)
    rwa [(gln_at g (k + 1) (by omega)).1] at this
  · unfold chN
    rw [gln_span, x1, x3, a1.2.1, a2.2.1]

/-! ### Clearances -/
def clN (rows g : List (List Int)) (w p place : Int) : Int :=
  chN rows place * (2 * p) * lL g place - w * bdV rows place * lL rows place * lL g place - chN g place * lL rows place * (2 * p)
def clD (rows g : List (List Int)) (p place : Int) : Int := lL rows place * (2 * p) * lL g place
def cvN (rows g : List (List Int)) (w p place : Int) : Int := redN (clN rows g w p place) (clD rows g p place)
def cvD (rows g : List (List Int)) (w p place : Int) : Int := redD (clN rows g w p place) (clD rows g p place)
/-- The reference's way: the chord against the ground first. -/
def elN (rows g : List (List Int)) (place : Int) : Int := chN rows place * lL g place - chN g place * lL rows place
def elD (rows g : List (List Int)) (place : Int) : Int := lL rows place * lL g place
def slN_ (rows g : List (List Int)) (w p place : Int) : Int := redN (elN rows g place) (elD rows g place) * 2 * p - w * lX rows place * lY rows place * redD (elN rows g place) (elD rows g place)
def slD_ (rows g : List (List Int)) (p place : Int) : Int := redD (elN rows g place) (elD rows g place) * 2 * p
/-- What is known of a place. -/
structure ClrAt (rows g : List (List Int)) (w p place : Int) : Prop where
  c : 0 ≤ chN rows place ∧ chN rows place ≤ 6000000
  l : 0 < lL rows place ∧ lL rows place ≤ 3000
  x : 0 ≤ lX rows place ∧ lX rows place ≤ 3000
  y : 0 ≤ lY rows place ∧ lY rows place ≤ 3000
  b : 0 ≤ bdV rows place ∧ bdV rows place ≤ 9000000
  gc : 0 ≤ chN g place ∧ chN g place ≤ 6000000
  gl : 0 < lL g place ∧ lL g place ≤ 3000
  w : 1 ≤ w ∧ w ≤ 200
  p : 1 ≤ p ∧ p ≤ 100000
theorem ch_bd2 {rows : List (List Int)} (L : Line rows) {place : Int} (h0 : 0 ≤ place) (h1 : place ≤ endN rows) : 0 ≤ chN rows place ∧ chN rows place ≤ 6000000 := by
  have S := L.span h0 h1
  obtain ⟨a, b, c, e⟩ := lXY L h0 h1
  have k0 := L.ht (spanN rows place) (by have := S.lt; omega)
  have k1 := L.ht (spanN rows place + 1) S.lt
  rw [← ch_spec L h0 h1]
  have m2 := Int.mul_le_mul_of_nonneg_right (c := lY rows place) k0.2 b.1
  have m3 := Int.mul_le_mul_of_nonneg_right (c := lX rows place) k1.2 a.1
  have n2 := Int.mul_nonneg k0.1 b.1
  have n3 := Int.mul_nonneg k1.1 a.1
  omega
theorem clr_at {rows g : List (List Int)} {w p place : Int} (hl : lineOk rows = true) (hg : grdA rows g = true) (hr : ropeOk w p = true) (h0 : 0 ≤ place) (h1 : place ≤ endN rows) : ClrAt rows g w p place := by
  have L := lineOk_line hl
  obtain ⟨G, e1, e2, hn, hz⟩ := grd_line L hg
  obtain ⟨S, x1, x2, x3, x4⟩ := gln_parts L hg h0 h1
  obtain ⟨a, b, c, e⟩ := lXY L h0 h1
  obtain ⟨a', b', c', e'⟩ := lXY G h0 (by rw [e1]; exact h1)
  have hc := ch_bd2 L h0 h1
  have hc' := ch_bd2 G h0 (by rw [e1]; exact h1)
  rw [x4] at hc'
  rw [x3] at c'
  exact ⟨hc, ⟨by omega, c.2⟩, a, b, bdV_bd L h0 h1, hc', ⟨by omega, c'.2⟩, (ropeOk_iff.1 hr).1, (ropeOk_iff.1 hr).2⟩
section
variable {rows g : List (List Int)} {w p place : Int}
theorem ClrAt.el (h : ClrAt rows g w p place) : (-18000000000 ≤ elN rows g place ∧ elN rows g place ≤ 18000000000) ∧ (0 < elD rows g place ∧ elD rows g place ≤ 9000000) ∧
    (0 ≤ chN rows place * lL g place ∧ chN rows place * lL g place ≤ 18000000000) ∧ (0 ≤ chN g place * lL rows place ∧ chN g place * lL rows place ≤ 18000000000) := by
  have m1 := mulB h.c.1 h.c.2 (Int.le_of_lt h.gl.1) h.gl.2
  have m2 := mulB h.gc.1 h.gc.2 (Int.le_of_lt h.l.1) h.l.2
  have m3 := mulB (Int.le_of_lt h.l.1) h.l.2 (Int.le_of_lt h.gl.1) h.gl.2
  have m4 := Int.mul_pos h.l.1 h.gl.1
  unfold elN elD
  omega
theorem ClrAt.den (h : ClrAt rows g w p place) : 0 < clD rows g p place ∧ clD rows g p place ≤ 1800000000000 ∧ (0 < lL rows place * (2 * p) ∧ lL rows place * (2 * p) ≤ 600000000) := by
  have hp := h.p
  have m1 := mulB (Int.le_of_lt h.l.1) h.l.2 (b := 2 * p) (B := 200000) (by omega) (by omega)
  have m2 := Int.mul_pos h.l.1 (b := 2 * p) (by omega)
  have m3 := mulB m1.1 m1.2 (Int.le_of_lt h.gl.1) h.gl.2
  have m4 := Int.mul_pos m2 h.gl.1
  unfold clD
  omega
theorem ClrAt.num (h : ClrAt rows g w p place) : (-24000000000000000 ≤ clN rows g w p place ∧ clN rows g w p place ≤ 24000000000000000) ∧
    (0 ≤ chN rows place * (2 * p) ∧ chN rows place * (2 * p) ≤ 1200000000000) ∧ (0 ≤ chN rows place * (2 * p) * lL g place ∧ chN rows place * (2 * p) * lL g place ≤ 3600000000000000) ∧
    (0 ≤ w * bdV rows place ∧ w * bdV rows place ≤ 1800000000) ∧ (0 ≤ w * bdV rows place * lL rows place ∧ w * bdV rows place * lL rows place ≤ 5400000000000) ∧ (0 ≤ w * bdV rows place * lL rows place * lL g place ∧ w * bdV rows place * lL rows place * lL g place ≤ 16200000000000000) ∧
    (0 ≤ chN g place * lL rows place * (2 * p) ∧ chN g place * lL rows place * (2 * p) ≤ 3600000000000000) := by
  have hp := h.p
  have hw := h.w
  have m1 := mulB h.c.1 h.c.2 (b := 2 * p) (B := 200000) (by omega) (by omega)
  have m2 := mulB m1.1 m1.2 (Int.le_of_lt h.gl.1) h.gl.2
  have m3 := mulB (a := w) (A := 200) (by omega) hw.2 h.b.1 h.b.2
  have m4 := mulB m3.1 m3.2 (Int.le_of_lt h.l.1) h.l.2
  have m5 := mulB m4.1 m4.2 (Int.le_of_lt h.gl.1) h.gl.2
  have m6 := mulB h.gc.1 h.gc.2 (Int.le_of_lt h.l.1) h.l.2
  have m7 := mulB m6.1 m6.2 (b := 2 * p) (B := 200000) (by omega) (by omega)
  unfold clN
  omega
/-- Both ways are one fraction. -/
theorem ClrAt.same (h : ClrAt rows g w p place) : clN rows g w p place = gV (elN rows g place) (elD rows g place) * slN_ rows g w p place ∧ clD rows g p place = gV (elN rows g place) (elD rows g place) * slD_ rows g p place ∧ 0 < gV (elN rows g place) (elD rows g place) := by
  have hg := gV_pos (a := elN rows g place) h.el.2.1.1
  have e1 := redN_mul (elN rows g place) (elD rows g place)
  have e2 := redD_mul (elN rows g place) (elD rows g place)
  unfold slN_ slD_
  generalize redN (elN rows g place) (elD rows g place) = n at *
  generalize redD (elN rows g place) (elD rows g place) = d at *
  generalize gV (elN rows g place) (elD rows g place) = k at *
  refine ⟨?_, ?_, hg⟩
  · have h1 : k * (n * 2 * p - w * lX rows place * lY rows place * d) = (n * k) * 2 * p - w * lX rows place * lY rows place * (d * k) := by
      rw [Int.mul_sub]
      simp [Int.mul_assoc, Int.mul_comm, Int.mul_left_comm]
    rw [h1, e1, e2]
    unfold clN elN elD bdV
    rw [Int.sub_mul, Int.sub_mul]
    simp [Int.mul_assoc, Int.mul_comm, Int.mul_left_comm]
    omega
  · have h1 : k * (d * 2 * p) = (d * k) * 2 * p := by simp [Int.mul_assoc, Int.mul_comm, Int.mul_left_comm]
    rw [h1, e2]
    unfold clD elD
    simp [Int.mul_assoc, Int.mul_comm, Int.mul_left_comm]
end

/-- The clearance in lowest terms is the same by both ways. -/
theorem clr_red {rows g : List (List Int)} {w p place : Int} (h : ClrAt rows g w p place) : cvN rows g w p place = redN (slN_ rows g w p place) (slD_ rows g p place) ∧ cvD rows g w p place = redD (slN_ rows g w p place) (slD_ rows g p place) := by
  obtain ⟨e1, e2, e3⟩ := h.same
  unfold cvN cvD
  rw [e1, e2]
  exact ⟨redN_scale e3 _ _, redD_scale e3 _ _⟩
theorem clr_less {rows g : List (List Int)} {w p x y : Int} (h : ClrAt rows g w p x) (h' : ClrAt rows g w p y) :
    (cvN rows g w p x * cvD rows g w p y < cvN rows g w p y * cvD rows g w p x) ↔ (clN rows g w p x * clD rows g p y < clN rows g w p y * clD rows g p x) := by
  have := red_le_iff (a := clN rows g w p y) (b := clD rows g p y) (c := clN rows g w p x) (d := clD rows g p x) h'.den.1 h.den.1
  unfold cvN cvD
  omega
theorem sl_less {rows g : List (List Int)} {w p x y : Int} (h : ClrAt rows g w p x) (h' : ClrAt rows g w p y) :
    (slN_ rows g w p x * slD_ rows g p y < slN_ rows g w p y * slD_ rows g p x) ↔ (clN rows g w p x * clD rows g p y < clN rows g w p y * clD rows g p x) := by
  obtain ⟨e1, e2, e3⟩ := h.same
  obtain ⟨f1, f2, f3⟩ := h'.same
  rw [e1, e2, f1, f2]
  generalize gV (elN rows g x) (elD rows g x) = k at *
  generalize gV (elN rows g y) (elD rows g y) = j at *
  have hkj : 0 < k * j := Int.mul_pos e3 f3
  have a1 : k * slN_ rows g w p x * (j * slD_ rows g p y) = (slN_ rows g w p x * slD_ rows g p y) * (k * j) := by simp [Int.mul_assoc, Int.mul_comm, Int.mul_left_comm]
  have a2 : j * slN_ rows g w p y * (k * slD_ rows g p x) = (slN_ rows g w p y * slD_ rows g p x) * (k * j) := by simp [Int.mul_assoc, Int.mul_comm, Int.mul_left_comm]
  rw [a1, a2]
  constructor
  · intro hlt; exact Int.mul_lt_mul_of_pos_right hlt hkj
  · intro hlt; exact Int.lt_of_mul_lt_mul_right hlt (Int.le_of_lt hkj)
/-- The lowest of the first k + 1 places. -/
def lwF (rows g : List (List Int)) (w p : Int) : Nat → Nat
  | 0 => 0
  | k + 1 => if cvN rows g w p ((k + 1 : Nat) : Int) * cvD rows g w p (lwF rows g w p k : Nat) < cvN rows g w p (lwF rows g w p k : Nat) * cvD rows g w p ((k + 1 : Nat) : Int) then k + 1 else lwF rows g w p k
theorem lwF_le (rows g : List (List Int)) (w p : Int) : ∀ k, lwF rows g w p k ≤ k
  | 0 => Nat.le_refl _
  | k + 1 => by
    have := lwF_le rows g w p k
    simp only [lwF]
    split <;> omega
def lwOk (rows g : List (List Int)) (w p : Int) : Bool := ropeOk w p && igOk rows g
def lwA (rows g : List (List Int)) (w p : Int) : Int := if lwOk rows g w p then (lwF rows g w p (endN rows).toNat : Nat) else 0
def lwN (rows g : List (List Int)) (w p : Int) : Int := if lwOk rows g w p then cvN rows g w p (lwF rows g w p (endN rows).toNat : Nat) else 0
def lwD (rows g : List (List Int)) (w p : Int) : Int := if lwOk rows g w p then cvD rows g w p (lwF rows g w p (endN rows).toNat : Nat) else 0
def caOk (rows g : List (List Int)) (w p place : Int) : Bool := onOk rows place && (ropeOk w p && igOk rows g)
def caN (rows g : List (List Int)) (w p place : Int) : Int := if caOk rows g w p place then cvN rows g w p place else 0
def caD (rows g : List (List Int)) (w p place : Int) : Int := if caOk rows g w p place then cvD rows g w p place else 0
theorem lw_min {rows g : List (List Int)} {w p : Int} (hl : lineOk rows = true) (hg : grdA rows g = true) (hr : ropeOk w p = true) : ∀ k : Nat, (k : Int) ≤ endN rows →
    cvN rows g w p (lwF rows g w p k : Nat) * cvD rows g w p 0 ≤ cvN rows g w p 0 * cvD rows g w p (lwF rows g w p k : Nat)
  | 0, _ => Int.le_refl _
  | k + 1, hk => by
    have ih := lw_min hl hg hr k (by omega)
    simp only [lwF]
    split
    · rename_i hlt
      have hp := (lineOk_line hl).end_pos
      have hle := lwF_le rows g w p k
      have c0 := (clr_at hl hg hr (place := 0) (by omega) (by omega))
      have c1 := (clr_at hl hg hr (place := ((k + 1 : Nat) : Int)) (by omega) (by omega))
      have c2 := (clr_at hl hg hr (place := ((lwF rows g w p k : Nat) : Int)) (by omega) (by omega))
      have d0 : 0 < cvD rows g w p 0 := redD_pos c0.den.1
      have d1 : 0 < cvD rows g w p ((k + 1 : Nat) : Int) := redD_pos c1.den.1
      have d2 : 0 < cvD rows g w p ((lwF rows g w p k : Nat) : Int) := redD_pos c2.den.1
      generalize cvD rows g w p 0 = D0 at *
      generalize cvD rows g w p ((k + 1 : Nat) : Int) = D1 at *
      generalize cvD rows g w p ((lwF rows g w p k : Nat) : Int) = D2 at *
      generalize cvN rows g w p 0 = N0 at *
      generalize cvN rows g w p ((k + 1 : Nat) : Int) = N1 at *
      generalize cvN rows g w p ((lwF rows g w p k : Nat) : Int) = N2 at *
      have a1 : N1 * D2 * D0 ≤ N2 * D1 * D0 := Int.mul_le_mul_of_nonneg_right (Int.le_of_lt hlt) (by omega)
      have a2 : N2 * D0 * D1 ≤ N0 * D2 * D1 := Int.mul_le_mul_of_nonneg_right ih (by omega)
      have a3 : N1 * D0 * D2 ≤ N0 * D1 * D2 := by
        have b1 : N1 * D0 * D2 = N1 * D2 * D0 := Int.mul_right_comm _ _ _
        have b2 : N2 * D1 * D0 = N2 * D0 * D1 := Int.mul_right_comm _ _ _
        have b3 : N0 * D2 * D1 = N0 * D1 * D2 := Int.mul_right_comm _ _ _
        omega
      exact Int.le_of_mul_le_mul_right a3 d2
    · exact ih
/-- What the law asks of the lowest clearance. -/
theorem lw_law {rows g : List (List Int)} {w p : Int} (h : lwOk rows g w p = true) : lineOk rows = true ∧ igOk rows g = true ∧ (caOk rows g w p (lwA rows g w p) = true ∧ caN rows g w p (lwA rows g w p) = lwN rows g w p ∧ caD rows g w p (lwA rows g w p) = lwD rows g w p) ∧
    (caOk rows g w p 0 = true ∧ caD rows g w p 0 = 1 ∧ caN rows g w p 0 = htN rows 0 - htN g 0) ∧ lwN rows g w p ≤ (htN rows 0 - htN g 0) * lwD rows g w p ∧ (0 < lwD rows g w p ∧ lwD rows g w p ≤ 1800000000000) := by
  have ho := h
  simp only [lwOk, Bool.and_eq_true] at ho
  obtain ⟨hr, hig⟩ := ho
  obtain ⟨hl, hg⟩ := igOk_iff.1 hig
  have L := lineOk_line hl
  have hp := L.end_pos
  have hle := lwF_le rows g w p (endN rows).toNat
  have hx0 : (0 : Int) ≤ ((lwF rows g w p (endN rows).toNat : Nat) : Int) := by omega
  have hx1 : ((lwF rows g w p (endN rows).toNat : Nat) : Int) ≤ endN rows := by omega
  have o1 : caOk rows g w p (lwA rows g w p) = true := by
    unfold caOk lwA
    rw [if_pos h, hr, hig, onOk_iff.2 ⟨hl, hx0, hx1⟩]
    rfl
  have o0 : caOk rows g w p 0 = true := by
    unfold caOk
    rw [hr, hig, onOk_iff.2 ⟨hl, Int.le_refl _, Int.le_of_lt hp.1⟩]
    rfl
  have c0 := clr_at hl hg hr (place := 0) (by omega) (by omega)
  have c1 := clr_at hl hg hr hx0 hx1
  have hz : spanN rows 0 = 0 := by
    have S := L.span (place := 0) (by omega) (by omega)
    rcases Nat.eq_zero_or_pos (spanN rows 0) with e | e
    · exact e
    · have := S.below 0 e
      have := L.rise 0 (by have := L.lo; omega)
      have := L.zero
      omega
  obtain ⟨G, _, e2, hn, hgz⟩ := grd_line L hg
  obtain ⟨Sg, _, _, _, _⟩ := gln_parts L hg (place := 0) (by omega) (by omega)
  have hzg : spanN g 0 = 0 := by
    rcases Nat.eq_zero_or_pos (spanN g 0) with e | e
    · exact e
    · have h1 : atN g 1 < 0 := Sg.below 0 e
      have h2 : atN (gln g) 0 < atN (gln g) 1 := G.rise 0 (by rw [gln_len]; omega)
      rw [(gln_at g 0 (by omega)).1, (gln_at g 1 (by omega)).1] at h2
      omega
  have x0 : lX rows 0 = 0 := by unfold lX; rw [hz, L.zero]; rfl
  have y0 : lX g 0 = 0 := by unfold lX; rw [hzg, hgz]; rfl
  have key : clN rows g w p 0 = clD rows g p 0 * (htN rows 0 - htN g 0) := by
    unfold clN clD bdV chN
    rw [x0, y0, hz, hzg]
    simp only [Int.mul_zero, Int.add_zero, Int.zero_mul, Int.sub_zero]
    rw [Int.mul_sub]
    simp [Int.mul_assoc, Int.mul_comm, Int.mul_left_comm]
  obtain ⟨w1, w2⟩ := red_whole (a := htN rows 0 - htN g 0) (b := clD rows g p 0) c0.den.1
  have n0 : cvN rows g w p 0 = htN rows 0 - htN g 0 := by unfold cvN; rw [key]; exact w1
  have d0 : cvD rows g w p 0 = 1 := by unfold cvD; rw [key]; exact w2
  have hm := lw_min hl hg hr (endN rows).toNat (by omega)
  rw [n0, d0] at hm
  refine ⟨hl, hig, ⟨o1, ?_, ?_⟩, ⟨o0, ?_, ?_⟩, ?_, ?_⟩
  · unfold caN lwN
    rw [if_pos o1, if_pos h]
    unfold lwA
    rw [if_pos h]
  · unfold caD lwD
    rw [if_pos o1, if_pos h]
    unfold lwA
    rw [if_pos h]
  · unfold caD
    rw [if_pos o0, d0]
  · unfold caN
    rw [if_pos o0, n0]
  · unfold lwN lwD
    rw [if_pos h, if_pos h]
    omega
  · unfold lwD
    rw [if_pos h]
    have q1 : 0 < cvD rows g w p (lwF rows g w p (endN rows).toNat : Nat) := redD_pos c1.den.1
    have q2 : cvD rows g w p (lwF rows g w p (endN rows).toNat : Nat) ≤ clD rows g p (lwF rows g w p (endN rows).toNat : Nat) := redD_le c1.den.1
    have q3 := c1.den.2.1
    omega
end Go.Proofs.Ytjfmicemnoglkaa
namespace Go.Proofs.Ytjfmicemnoglkaa
open Go.RowKit
set_option linter.unusedVariables false
set_option linter.unusedSimpArgs false

def twOk (rows : List (List Int)) (x p s : Int) : Bool := lineOk rows && (ropeOk x p && inr s 1 ((rows.length : Int) - 2))
def twX (rows : List (List Int)) (k : Nat) : Int := atN rows k - atN rows (k - 1)
def twY (rows : List (List Int)) (k : Nat) : Int := atN rows (k + 1) - atN rows k
def twV (h0 h1 h2 X Y : Int) : Int := (h1 - h0) * Y - (h2 - h1) * X
def twU (rows : List (List Int)) (k : Nat) : Int := twV (htN rows (k - 1)) (htN rows k) (htN rows (k + 1)) (twX rows k) (twY rows k)
def twA (rows : List (List Int)) (x p : Int) (k : Nat) : Int := 2 * p * twU rows k + x * (twX rows k + twY rows k) * twX rows k * twY rows k
def twB (rows : List (List Int)) (p : Int) (k : Nat) : Int := 2 * p * twX rows k * twY rows k
def twN (rows : List (List Int)) (x p s : Int) : Int := if twOk rows x p s then redN (twA rows x p s.toNat) (twB rows p s.toNat) else 0
def twD (rows : List (List Int)) (x p s : Int) : Int := if twOk rows x p s then redD (twA rows x p s.toNat) (twB rows p s.toNat) else 0
theorem tw_no {rows : List (List Int)} {x p s : Int} (h : twOk rows x p s = false) : twN rows x p s = 0 ∧ twD rows x p s = 0 := by simp [twN, twD, h]
theorem tw_yes {rows : List (List Int)} {x p s : Int} (h : twOk rows x p s = true) : twN rows x p s = redN (twA rows x p s.toNat) (twB rows p s.toNat) ∧ twD rows x p s = redD (twA rows x p s.toNat) (twB rows p s.toNat) := by simp [twN, twD, h]
theorem mulT' {a b A B : Int} (h0 : -A ≤ a) (h1 : a ≤ A) (hb0 : 0 ≤ b) (hb : b ≤ B) (hA : 0 ≤ A) : -(A * B) ≤ a * b ∧ a * b ≤ A * B := by
  have m1 := Int.mul_le_mul_of_nonneg_right (c := b) h1 hb0
  have m2 := Int.mul_le_mul_of_nonneg_right (c := b) h0 hb0
  have m3 := Int.mul_le_mul_of_nonneg_left (c := A) hb hA
  rw [Int.neg_mul] at m2
  omega
/-- What is known of a tower. -/
structure TwAt (x p h0 h1 h2 X Y : Int) : Prop where
  X : 0 < X ∧ X ≤ 3000
  Y : 0 < Y ∧ Y ≤ 3000
  h0 : 0 ≤ h0 ∧ h0 ≤ 2000
  h1 : 0 ≤ h1 ∧ h1 ≤ 2000
  h2 : 0 ≤ h2 ∧ h2 ≤ 2000
  w : 1 ≤ x ∧ x ≤ 200
  p : 1 ≤ p ∧ p ≤ 100000
theorem tw_at {rows : List (List Int)} {x p : Int} {k : Nat} (L : Line rows) (hr : ropeOk x p = true) (h1 : 1 ≤ k) (h2 : k + 1 < rows.length) : TwAt x p (htN rows (k - 1)) (htN rows k) (htN rows (k + 1)) (twX rows k) (twY rows k) := by
  obtain ⟨a, b⟩ := ropeOk_iff.1 hr
  have r1 := L.rise (k - 1) (by omega)
  rw [show k - 1 + 1 = k by omega] at r1
  have r2 := L.rise k h2
  have a1 := L.at_ (k - 1) (by omega)
  have a2 := L.at_ k (by omega)
  have a3 := L.at_ (k + 1) (by omega)
  exact ⟨by unfold twX; omega, by unfold twY; omega, L.ht _ (by omega), L.ht _ (by omega), L.ht _ (by omega), a, b⟩
theorem TwAt.bd {x p h0 h1 h2 X Y : Int} (h : TwAt x p h0 h1 h2 X Y) :
    (-6000000 ≤ (h1 - h0) * Y ∧ (h1 - h0) * Y ≤ 6000000) ∧ (-6000000 ≤ (h2 - h1) * X ∧ (h2 - h1) * X ≤ 6000000) ∧ (-12000000 ≤ twV h0 h1 h2 X Y ∧ twV h0 h1 h2 X Y ≤ 12000000) ∧
    (-2400000000000 ≤ 2 * p * twV h0 h1 h2 X Y ∧ 2 * p * twV h0 h1 h2 X Y ≤ 2400000000000) ∧ (0 ≤ x * (X + Y) ∧ x * (X + Y) ≤ 1200000) ∧ (0 ≤ x * (X + Y) * X ∧ x * (X + Y) * X ≤ 3600000000) ∧ (0 ≤ x * (X + Y) * X * Y ∧ x * (X + Y) * X * Y ≤ 10800000000000) ∧
    (0 < 2 * p * X ∧ 2 * p * X ≤ 600000000) ∧ (0 < 2 * p * X * Y ∧ 2 * p * X * Y ≤ 1800000000000) ∧ (0 < X * Y ∧ X * Y ≤ 9000000) := by
  have hX := h.X
  have hY := h.Y
  have hw := h.w
  have hp := h.p
  have q0 := h.h0
  have q1 := h.h1
  have q2 := h.h2
  have m1 := mulT' (a := h1 - h0) (A := 2000) (b := Y) (B := 3000) (by omega) (by omega) (by omega) hY.2 (by omega)
  have m2 := mulT' (a := h2 - h1) (A := 2000) (b := X) (B := 3000) (by omega) (by omega) (by omega) hX.2 (by omega)
  have m3 : -12000000 ≤ twV h0 h1 h2 X Y ∧ twV h0 h1 h2 X Y ≤ 12000000 := by unfold twV; omega
  generalize twV h0 h1 h2 X Y = U at *
  have m4 := mulT' (a := U) (A := 12000000) (b := 2 * p) (B := 200000) m3.1 m3.2 (by omega) (by omega) (by omega)
  rw [Int.mul_comm U (2 * p)] at m4
  have m5 := mulB (a := x) (A := 200) (b := X + Y) (B := 6000) (by omega) hw.2 (by omega) (by omega)
  have m6 := mulB (b := X) (B := 3000) m5.1 m5.2 (by omega) hX.2
  have m7 := mulB (b := Y) (B := 3000) m6.1 m6.2 (by omega) hY.2
  have m8 := mulB (a := 2 * p) (A := 200000) (b := X) (B := 3000) (by omega) (by omega) (by omega) hX.2
  have n8 := Int.mul_pos (a := 2 * p) (b := X) (by omega) hX.1
  have m9 := mulB (b := Y) (B := 3000) m8.1 m8.2 (by omega) hY.2
  have n9 := Int.mul_pos n8 hY.1
  have m10 := mulB (a := X) (A := 3000) (b := Y) (B := 3000) (by omega) hX.2 (by omega) hY.2
  have n10 := Int.mul_pos hX.1 hY.1
  omega
/-- The reference reduces twice. -/
def twE (x p U X Y : Int) : Int := redN U (X * Y) * 2 * p + x * (X + Y) * redD U (X * Y)
def twF (p U X Y : Int) : Int := redD U (X * Y) * 2 * p
theorem tw_two {x p h0 h1 h2 X Y : Int} (h : TwAt x p h0 h1 h2 X Y) :
    redN (2 * p * twV h0 h1 h2 X Y + x * (X + Y) * X * Y) (2 * p * X * Y) = redN (twE x p (twV h0 h1 h2 X Y) X Y) (twF p (twV h0 h1 h2 X Y) X Y) ∧
    redD (2 * p * twV h0 h1 h2 X Y + x * (X + Y) * X * Y) (2 * p * X * Y) = redD (twE x p (twV h0 h1 h2 X Y) X Y) (twF p (twV h0 h1 h2 X Y) X Y) := by
  have hb := h.bd.2.2.2.2.2.2.2.2.2
  generalize twV h0 h1 h2 X Y = U at *
  have e1 := redN_mul U (X * Y)
  have e2 := redD_mul U (X * Y)
  have hg := gV_pos (a := U) hb.1
  unfold twE twF
  generalize redN U (X * Y) = N at *
  generalize redD U (X * Y) = D at *
  generalize gV U (X * Y) = G at *
  have f1 : 2 * p * U + x * (X + Y) * X * Y = G * (N * 2 * p + x * (X + Y) * D) := by
    rw [Int.mul_assoc (x * (X + Y)) X Y, ← e1, ← e2, Int.mul_add G]
    generalize x * (X + Y) = Z
    simp [Int.mul_assoc, Int.mul_comm, Int.mul_left_comm]
  have f2 : 2 * p * X * Y = G * (D * 2 * p) := by
    rw [Int.mul_assoc (2 * p) X Y, ← e2]
    simp [Int.mul_assoc, Int.mul_comm, Int.mul_left_comm]
  rw [f1, f2]
  exact ⟨redN_scale hg _ _, redD_scale hg _ _⟩
theorem TwAt.bd2 {x p h0 h1 h2 X Y : Int} (h : TwAt x p h0 h1 h2 X Y) :
    (-12000000 ≤ redN (twV h0 h1 h2 X Y) (X * Y) ∧ redN (twV h0 h1 h2 X Y) (X * Y) ≤ 12000000) ∧ (0 < redD (twV h0 h1 h2 X Y) (X * Y) ∧ redD (twV h0 h1 h2 X Y) (X * Y) ≤ 9000000) ∧
    (-2400000000000 ≤ redN (twV h0 h1 h2 X Y) (X * Y) * 2 * p ∧ redN (twV h0 h1 h2 X Y) (X * Y) * 2 * p ≤ 2400000000000) ∧ (0 ≤ x * (X + Y) * redD (twV h0 h1 h2 X Y) (X * Y) ∧ x * (X + Y) * redD (twV h0 h1 h2 X Y) (X * Y) ≤ 10800000000000) ∧
    (-14000000000000 ≤ twE x p (twV h0 h1 h2 X Y) X Y ∧ twE x p (twV h0 h1 h2 X Y) X Y ≤ 14000000000000) ∧ (0 < twF p (twV h0 h1 h2 X Y) X Y ∧ twF p (twV h0 h1 h2 X Y) X Y ≤ 1800000000000) := by
  obtain ⟨_, _, b3, _, b5, _, _, _, _, b10⟩ := h.bd
  have hp := h.p
  have n1 := redN_abs (a := twV h0 h1 h2 X Y) b10.1 (M := 12000000) (by omega) b3.2
  have d1 := redD_pos (a := twV h0 h1 h2 X Y) b10.1
  have d2 := redD_le (a := twV h0 h1 h2 X Y) b10.1
  unfold twE twF
  generalize redN (twV h0 h1 h2 X Y) (X * Y) = N at *
  generalize redD (twV h0 h1 h2 X Y) (X * Y) = D at *
  have m1 := mulT' (a := N * 2) (A := 24000000) (b := p) (B := 100000) (by omega) (by omega) (by omega) hp.2 (by omega)
  have m2 := mulB (b := D) (B := 9000000) b5.1 b5.2 (by omega) (by omega)
  have m3 := mulB (a := D * 2) (A := 18000000) (b := p) (B := 100000) (by omega) (by omega) (by omega) hp.2
  have n3 := Int.mul_pos (a := D * 2) (b := p) (by omega) (by omega)
  omega
end Go.Proofs.Ytjfmicemnoglkaa
