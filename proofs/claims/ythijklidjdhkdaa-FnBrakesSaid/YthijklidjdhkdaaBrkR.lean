/- The fewest brakes: plain words and laws. No program in sight. -/
import Derived.Test.YthijklidjdhkdaaBrkQ
namespace Go.Proofs.Ythijklidjdhkdaa
open Go.RowKit
set_option linter.unusedVariables false
set_option linter.unusedSimpArgs false

/-- The members of a set below k. -/
def memN (s : Nat) : Nat → List Int
  | 0 => []
  | k + 1 => if s / 2 ^ k % 2 = 1 then memN s k ++ [(k : Int)] else memN s k
theorem memN_yes {s k : Nat} (h : s / 2 ^ k % 2 = 1) : memN s (k + 1) = memN s k ++ [(k : Int)] := by simp [memN, h]
theorem memN_no {s k : Nat} (h : ¬ s / 2 ^ k % 2 = 1) : memN s (k + 1) = memN s k := by simp [memN, h]
theorem memN_len (s : Nat) : ∀ k, (memN s k).length ≤ k
  | 0 => Nat.le_refl _
  | k + 1 => by
    have := memN_len s k
    simp only [memN]
    split
    · simp; omega
    · omega
theorem memN_top {s n : Nat} (h : s < 2 ^ n) : ∀ {k : Nat}, n ≤ k → memN s k = memN s n
  | 0, hk => by obtain rfl : n = 0 := by omega
                rfl
  | k + 1, hk => by
    rcases Nat.lt_or_ge k n with hl | hl
    · obtain rfl : n = k + 1 := by omega
      rfl
    · have h2 : s / 2 ^ k = 0 := Nat.div_eq_of_lt (Nat.lt_of_lt_of_le h (Nat.pow_le_pow_right (by omega) hl))
      rw [memN_no (by rw [h2]; decide)]
      exact memN_top h hl
theorem memN_bd (s : Nat) : ∀ k, ∀ x ∈ memN s k, 0 ≤ x ∧ x < (k : Int)
  | 0, x, h => by simp [memN] at h
  | k + 1, x, h => by
    simp only [memN] at h
    split at h
    · rcases List.mem_append.1 h with h | h
      · have := memN_bd s k x h; omega
      · simp at h; omega
    · have := memN_bd s k x h; omega
theorem sel_app (s : Nat) : ∀ (xs ys : List (List Int)) (i : Nat), sel s i (xs ++ ys) = sel s i xs ++ sel s (i + xs.length) ys
  | [], ys, i => by simp [sel]
  | x :: xs, ys, i => by
    have ih := sel_app s xs ys (i + 1)
    rw [show i + 1 + xs.length = i + (x :: xs).length by simp; omega] at ih
    simp only [List.cons_append, sel, ih]
    split <;> simp
theorem selN_yes {s k : Nat} {rows : List (List Int)} {r : List Int} (hr : rows[k]? = some r) (h : s / 2 ^ k % 2 = 1) : sel s 0 (rows.take (k + 1)) = sel s 0 (rows.take k) ++ [r] := by
  obtain ⟨hk, e⟩ := List.getElem?_eq_some_iff.1 hr
  rw [List.take_succ_eq_append_getElem hk, e, sel_app]
  simp [sel, Nat.min_eq_left (Nat.le_of_lt hk), h]
theorem selN_no {s k : Nat} {rows : List (List Int)} {r : List Int} (hr : rows[k]? = some r) (h : ¬ s / 2 ^ k % 2 = 1) : sel s 0 (rows.take (k + 1)) = sel s 0 (rows.take k) := by
  obtain ⟨hk, e⟩ := List.getElem?_eq_some_iff.1 hr
  rw [List.take_succ_eq_append_getElem hk, e, sel_app]
  simp [sel, Nat.min_eq_left (Nat.le_of_lt hk), h]
/-- The rows of a set are the rows of its members. -/
theorem mem_rows (s : Nat) (rows : List (List Int)) : ∀ k, k ≤ rows.length → (memN s k).map (fun i => rows.getD i.toNat []) = sel s 0 (rows.take k)
  | 0, _ => by simp [memN, sel]
  | k + 1, hk => by
    have ih := mem_rows s rows k (by omega)
    have hr : rows[k]? = some rows[k] := List.getElem?_eq_getElem (by omega)
    by_cases h : s / 2 ^ k % 2 = 1
    · rw [memN_yes h, selN_yes hr h, List.map_append, ih]
      simp [List.getD, hr]
    · rw [memN_no h, selN_no hr h, ih]
/-- The order of lists of one length. -/
def ltL : List Int → List Int → Bool
  | a :: xs, b :: bs => if a = b then ltL xs bs else decide (a < b)
  | _, _ => false
def bef (a b : List Int) : Bool := if a.length = b.length then ltL a b else decide (a.length < b.length)
theorem ltL_eq {xs ys : List Int} {k : Nat} {x : Int} (h : xs[k]? = some x) (h' : ys[k]? = some x) : ltL (xs.drop k) (ys.drop k) = ltL (xs.drop (k + 1)) (ys.drop (k + 1)) := by
  rw [drop_at h, drop_at h']
  simp [ltL]
theorem ltL_ne {xs ys : List Int} {k : Nat} {x y : Int} (h : xs[k]? = some x) (h' : ys[k]? = some y) (hne : ¬ x = y) : ltL (xs.drop k) (ys.drop k) = decide (x < y) := by
  rw [drop_at h, drop_at h']
  simp [ltL, hne]
theorem ltL_end {xs ys : List Int} {k : Nat} (h : xs.length ≤ k) : ltL (xs.drop k) (ys.drop k) = false := by
  rw [List.drop_of_length_le h]
  simp [ltL]
/-- What slices.Compare tells of two lists of one length. -/
def cmpL : List Int → List Int → Int
  | a :: xs, b :: bs => if a = b then cmpL xs bs else if a < b then -1 else 1
  | _, _ => 0
theorem cmpL_neg : ∀ (xs ys : List Int), decide (cmpL xs ys < 0) = ltL xs ys
  | [], ys => by simp [cmpL, ltL]
  | a :: xs, [] => by simp [cmpL, ltL]
  | a :: xs, b :: bs => by
    simp only [cmpL, ltL]
    split
    · exact cmpL_neg xs bs
    · split <;> simp [*]
theorem cmpL_eq {xs ys : List Int} {k : Nat} {x : Int} (h : xs[k]? = some x) (h' : ys[k]? = some x) : cmpL (xs.drop k) (ys.drop k) = cmpL (xs.drop (k + 1)) (ys.drop (k + 1)) := by
  rw [drop_at h, drop_at h']
  simp [cmpL]
theorem cmpL_ne {xs ys : List Int} {k : Nat} {x y : Int} (h : xs[k]? = some x) (h' : ys[k]? = some y) (hne : ¬ x = y) : cmpL (xs.drop k) (ys.drop k) = if x < y then -1 else 1 := by
  rw [drop_at h, drop_at h']
  simp [cmpL, hne]
theorem cmpL_end {xs ys : List Int} {k : Nat} (h : xs.length ≤ k) : cmpL (xs.drop k) (ys.drop k) = 0 := by
  rw [List.drop_of_length_le h]
  simp [cmpL]
/-- Is a set the best so far? -/
def newB (m p : Int) (rows : List (List Int)) (v way : Int) (s : Nat) (b : List Int) (f : Bool) : Bool := stopsB m p (sel s 0 rows) way v && (!f || bef (memN s 4) b)
def fbF (m p : Int) (rows : List (List Int)) (v way : Int) : Nat → Nat → List Int → Bool → List Int × Bool
  | 0, _, b, f => (b, f)
  | g + 1, s, b, f => if newB m p rows v way s b f then fbF m p rows v way g (s + 1) (memN s 4) true else fbF m p rows v way g (s + 1) b f
section
variable {m p v way : Int} {rows : List (List Int)} {b : List Int} {f : Bool} {N s : Nat}
theorem fbF_new (h : s < N) (hn : newB m p rows v way s b f = true) : fbF m p rows v way (N - s) s b f = fbF m p rows v way (N - (s + 1)) (s + 1) (memN s 4) true := by
  rw [show N - s = (N - (s + 1)) + 1 by omega]
  conv => lhs; unfold fbF
  rw [if_pos hn]
theorem fbF_keep (h : s < N) (hn : newB m p rows v way s b f = false) : fbF m p rows v way (N - s) s b f = fbF m p rows v way (N - (s + 1)) (s + 1) b f := by
  rw [show N - s = (N - (s + 1)) + 1 by omega]
  conv => lhs; unfold fbF
  rw [if_neg (by rw [hn]; decide)]
theorem fbF_end (h : N ≤ s) : fbF m p rows v way (N - s) s b f = (b, f) := by
  rw [show N - s = 0 by omega]
  rfl
end
def fbA (m p : Int) (rows : List (List Int)) (v way : Int) : Bool := (drvOk m p rows && inr v 0 100) && decide (0 ≤ way)
def fbR (m p : Int) (rows : List (List Int)) (v way : Int) : List Int × Bool := if fbA m p rows v way then fbF m p rows v way (2 ^ rows.length) 0 [] false else ([], false)
def fbV (m p : Int) (rows : List (List Int)) (v way : Int) : List Int := (fbR m p rows v way).1
def fbOk (m p : Int) (rows : List (List Int)) (v way : Int) : Bool := (fbR m p rows v way).2
theorem fbF_inv (m p : Int) (rows : List (List Int)) (v way : Int) : ∀ (g s : Nat) (b : List Int) (f : Bool), b.length ≤ 4 → (f = true → ∃ t, t < 2 ^ rows.length ∧ b = memN t 4 ∧ stopsB m p (sel t 0 rows) way v = true) → g + s ≤ 2 ^ rows.length →
    (fbF m p rows v way g s b f).1.length ≤ 4 ∧ ((fbF m p rows v way g s b f).2 = true → ∃ t, t < 2 ^ rows.length ∧ (fbF m p rows v way g s b f).1 = memN t 4 ∧ stopsB m p (sel t 0 rows) way v = true)
  | 0, s, b, f, h1, h2, _ => ⟨h1, h2⟩
  | g + 1, s, b, f, h1, h2, h3 => by
    unfold fbF
    split
    · rename_i hn
      unfold newB at hn
      rw [Bool.and_eq_true] at hn
      exact fbF_inv m p rows v way g (s + 1) _ _ (memN_len s 4) (fun _ => ⟨s, by omega, rfl, hn.1⟩) (by omega)
    · exact fbF_inv m p rows v way g (s + 1) b f h1 h2 (by omega)
theorem fbV_len (m p : Int) (rows : List (List Int)) (v way : Int) : (fbV m p rows v way).length ≤ 1048576 := by
  unfold fbV fbR
  split
  · have := (fbF_inv m p rows v way (2 ^ rows.length) 0 [] false (by simp) (by simp) (by omega)).1
    omega
  · simp
/-- What the law asks of the fewest brakes. -/
theorem fb_law {m p v way : Int} {rows : List (List Int)} (h : fbOk m p rows v way = true) : ∃ s, rows.length ≤ 4 ∧ fbV m p rows v way = memN s rows.length ∧ (bwOk m p (sel s 0 rows) v = true ∧ bwV m p (sel s 0 rows) v ≤ way) ∧ (bwOk m p rows v = true ∧ bwV m p rows v ≤ bwV m p (sel s 0 rows) v) := by
  unfold fbOk fbR at h
  unfold fbV fbR
  split at h
  · rename_i ha
    rw [if_pos ha]
    obtain ⟨t, ht, e, hs⟩ := (fbF_inv m p rows v way (2 ^ rows.length) 0 [] false (by simp) (by simp) (by omega)).2 h
    simp only [fbA, Bool.and_eq_true, inr, decide_eq_true_eq] at ha
    obtain ⟨⟨hd, hv⟩, hw⟩ := ha
    obtain ⟨⟨hm, hp, hn⟩, hb⟩ := drvOk_iff.1 hd
    unfold stopsB at hs
    rw [Bool.and_eq_true, decide_eq_true_eq] at hs
    have hd2 := sel_ok t 0 hd
    have o1 : bwOk m p (sel t 0 rows) v = true := by
      unfold bwOk
      rw [hd2, hs.1]
      simp [inr]
      omega
    obtain ⟨k1, k2⟩ := brk_less hm.1 (wkr_sel hd t 0) hv.1 hs.1
    have o2 : bwOk m p rows v = true := by
      unfold bwOk
      rw [hd, k1]
      simp [inr]
      omega
    refine ⟨t, hn, ?_, ⟨o1, ?_⟩, o2, ?_⟩
    · rw [e]
      exact memN_top ht hn
    · unfold bwV
      rw [if_pos o1]
      exact hs.2
    · unfold bwV
      rw [if_pos o1, if_pos o2]
      exact k2
  · simp at h
/-- What the law asks of the speeds. -/
theorem bs_law {m p v : Int} {rows : List (List Int)} (h : bwOk m p rows v = true) : ∃ r, bsV m p rows v = v :: r ∧ bwV m p rows v = dw (v :: r) ∧ (v :: r).getLast? = some 0 ∧ r.length ≤ 60 ∧ ∀ z ∈ (v :: r), 0 ≤ z ∧ z ≤ 1000000000 := by
  have ho := h
  simp only [bwOk, Bool.and_eq_true, inr, decide_eq_true_eq] at ho
  obtain ⟨⟨hd, hv⟩, hk⟩ := ho
  refine ⟨brkF m p rows 60 0 v, ?_, ?_, brkS_last hv.1 hk, brkF_len _ _ _ _ _ _, brkS_mem hd hv.1 hv.2⟩
  · unfold bsV
    rw [if_pos h]
    rfl
  · unfold bwV
    rw [if_pos h]
    rfl
end Go.Proofs.Ythijklidjdhkdaa
