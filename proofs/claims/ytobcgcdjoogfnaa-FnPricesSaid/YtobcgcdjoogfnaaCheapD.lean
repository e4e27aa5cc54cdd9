/- The cheapest tickets: words of the walks. -/
import Derived.Test.YtobcgcdjoogfnaaTickGB
import Derived.Test.YtobcgcdjoogfnaaCheapP
namespace Go.Proofs.Ytobcgcdjoogfnaa
open Go.RowKit
set_option linter.unusedVariables false
set_option linter.unusedSimpArgs false

def chOk (p0 p1 p2 p3 ups downs : Int) : Bool := prOk p0 p1 p2 p3 && (inr ups 0 20 && inr downs 0 20)
def chV (p0 p1 p2 p3 ups downs : Int) : List Int := if chOk p0 p1 p2 p3 ups downs then (chS p0 p1 p2 p3 ups downs 441).1 else []
def chC (p0 p1 p2 p3 ups downs : Int) : Int := if chOk p0 p1 p2 p3 ups downs then (chS p0 p1 p2 p3 ups downs 441).2 else 0
/-- A slice, a number and a bool. -/
def RetSIB (w : World) (zs : List Int) (z : Int) (b : Bool) (e : Ending) (w' : World) : Prop := ∃ A c, e = .returned (.tuple #[.slice A zs.length c, .int .i64 z, .bool b]) ∧ Ow w' w.heap.size (.slice A zs.length c) zs ∧ Below w.heap.size w w'
theorem chU_yes {s : List Int × Int} {l : List Int} {c : Int} (h : s.2 < 0 ∨ c < s.2) : chU s l c = (l, c) := by unfold chU; rw [if_pos h]
theorem chU_no {s : List Int × Int} {l : List Int} {c : Int} (h : ¬ (s.2 < 0 ∨ c < s.2)) : chU s l c = s := by unfold chU; rw [if_neg h]
theorem chA_at {p0 p1 p3 ups downs : Int} {a b : Nat} {s : List Int × Int} (hb : b < 21) : chA p0 p1 p3 ups downs (21 * a + b) s = chU s [(a : Int), (b : Int), 0, chMin ups downs a b] (a * p0 + b * p1 + chMin ups downs a b * p3) := by
  unfold chA
  rw [show (21 * a + b) / 21 = a by omega, show (21 * a + b) % 21 = b by omega]
theorem chB_at {p0 p1 p2 : Int} {a b : Nat} {s : List Int × Int} (hb : b < 21) : chB p0 p1 p2 (21 * a + b) s = chU s [(a : Int), (b : Int), 1, 0] (a * p0 + b * p1 + p2) := by
  unfold chB
  rw [show (21 * a + b) / 21 = a by omega, show (21 * a + b) % 21 = b by omega]
/-- The state inside the innermost loop. -/
def chD (p0 p1 p2 p3 ups downs : Int) (k d : Nat) : List Int × Int :=
  if d = 0 then chS p0 p1 p2 p3 ups downs k else if d = 1 then chA p0 p1 p3 ups downs k (chS p0 p1 p2 p3 ups downs k) else chS p0 p1 p2 p3 ups downs (k + 1)
theorem chD_zero (p0 p1 p2 p3 ups downs : Int) (k : Nat) : chD p0 p1 p2 p3 ups downs k 0 = chS p0 p1 p2 p3 ups downs k := by unfold chD; rw [if_pos rfl]
theorem chD_two (p0 p1 p2 p3 ups downs : Int) (k : Nat) : chD p0 p1 p2 p3 ups downs k 2 = chS p0 p1 p2 p3 ups downs (k + 1) := by unfold chD; rw [if_neg (by omega), if_neg (by omega)]
/-- What the round at a, b, d finds. -/
def tenZ (ups downs : Int) (a b d : Nat) : Int := (max 0 (max 0 (ups - b - 50 * d) + max 0 (downs - b - 50 * d) - a) + 9) / 10
theorem chD_next {p0 p1 p2 p3 ups downs : Int} {a b d : Nat} (hu : ups ≤ 20) (hd : downs ≤ 20) (hb : b < 21) (h : d < 2) :
    chD p0 p1 p2 p3 ups downs (21 * a + b) (d + 1) = chU (chD p0 p1 p2 p3 ups downs (21 * a + b) d) [(a : Int), (b : Int), (d : Int), tenZ ups downs a b d] (a * p0 + b * p1 + d * p2 + tenZ ups downs a b d * p3) := by
  rcases (by omega : d = 0 ∨ d = 1) with rfl | rfl
  · unfold chD
    rw [if_neg (by omega), if_pos rfl, if_pos rfl, chA_at hb]
    have e : tenZ ups downs a b 0 = chMin ups downs a b := by unfold tenZ chMin chOpen; omega
    rw [e]
    simp
  · unfold chD
    rw [if_neg (by omega), if_neg (by omega), if_neg (by omega), if_pos rfl]
    have e : tenZ ups downs a b 1 = 0 := by unfold tenZ; omega
    rw [e]
    show chB p0 p1 p2 (21 * a + b) _ = _
    rw [chB_at hb]
    simp
theorem tenZ_bd {ups downs : Int} {a b d : Nat} (hu : ups ≤ 20) (hd : downs ≤ 20) : 0 ≤ tenZ ups downs a b d ∧ tenZ ups downs a b d ≤ 4 := by unfold tenZ; omega
theorem ten_def (ups downs : Int) (a b d : Nat) : tenZ ups downs a b d = (max 0 (max 0 (ups - b - 50 * d) + max 0 (downs - b - 50 * d) - a) + 9) / 10 := rfl
theorem mul_pr {a p : Int} {A : Int} (ha : 0 ≤ a ∧ a ≤ A) (hp : 0 ≤ p ∧ p ≤ 50000) : 0 ≤ a * p ∧ a * p ≤ A * 50000 :=
  ⟨Int.mul_nonneg ha.1 hp.1, Int.le_trans (Int.mul_le_mul_of_nonneg_right ha.2 hp.1) (Int.mul_le_mul_of_nonneg_left hp.2 (by omega))⟩
theorem chOk_no {p0 p1 p2 p3 ups downs : Int} (h : chOk p0 p1 p2 p3 ups downs = false) : chV p0 p1 p2 p3 ups downs = [] ∧ chC p0 p1 p2 p3 ups downs = 0 := by simp [chV, chC, h]
theorem chOk_yes {p0 p1 p2 p3 ups downs : Int} (h : chOk p0 p1 p2 p3 ups downs = true) : chV p0 p1 p2 p3 ups downs = (chS p0 p1 p2 p3 ups downs 441).1 ∧ chC p0 p1 p2 p3 ups downs = (chS p0 p1 p2 p3 ups downs 441).2 := by simp [chV, chC, h]
theorem ch_len (p0 p1 p2 p3 ups downs : Int) : ∀ k, (chS p0 p1 p2 p3 ups downs k).1.length ≤ 4
  | 0 => by simp [chS]
  | k + 1 => by
    have ih := ch_len p0 p1 p2 p3 ups downs k
    have h1 : (chA p0 p1 p3 ups downs k (chS p0 p1 p2 p3 ups downs k)).1.length ≤ 4 := by unfold chA chU; split <;> simp [ih]
    simp only [chS]
    unfold chB chU
    split <;> simp [h1]
theorem chV_len (p0 p1 p2 p3 ups downs : Int) : (chV p0 p1 p2 p3 ups downs).length ≤ 4 := by
  unfold chV
  split
  · exact ch_len _ _ _ _ _ _ _
  · simp
end Go.Proofs.Ytobcgcdjoogfnaa
