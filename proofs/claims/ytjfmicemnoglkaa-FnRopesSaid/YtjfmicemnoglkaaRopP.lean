/- Ropes: kinds, damages, windows: plain words and laws. No program in sight. -/
import Derived.Test.YtjfmicemnoglkaaGood
namespace Go.Proofs.Ytjfmicemnoglkaa
open Go.RowKit
set_option linter.unusedVariables false
set_option linter.unusedSimpArgs false

/-! ### Kinds -/
def kndOk (i s w g t : Int) : Bool := inr i 1 20 && (inr s 4 8 && (inr w 7 40 && (inr g 10 500 && inr t 10 5000)))
theorem kndOk_iff {i s w g t : Int} : kndOk i s w g t = true ↔ (1 ≤ i ∧ i ≤ 20) ∧ (4 ≤ s ∧ s ≤ 8) ∧ (7 ≤ w ∧ w ≤ 40) ∧ (10 ≤ g ∧ g ≤ 500) ∧ (10 ≤ t ∧ t ≤ 5000) := by simp [kndOk, inr]
def kndR (r : List Int) : Bool := kndOk (fld r 0) (fld r 1) (fld r 2) (fld r 3) (fld r 4)
abbrev kinds (rows : List (List Int)) : Bool := goodL kndR 6 rows

/-! ### Damages -/
def dmgOk (s w : Int) (r : List Int) : Bool := inr (fld r 0) 0 3000 && (inr (fld r 1) 0 (s - 1) && inr (fld r 2) 1 w)
theorem dmgOk_iff {s w a b c : Int} : dmgOk s w [a, b, c] = true ↔ (0 ≤ a ∧ a ≤ 3000) ∧ (0 ≤ b ∧ b ≤ s - 1) ∧ (1 ≤ c ∧ c ≤ w) := by simp [dmgOk, inr, fld]
def dmgLt (pa ps a b : Int) : Bool := decide (pa < a) || (decide (pa = a) && decide (ps < b))
theorem dmgLt_iff {pa ps a b : Int} : dmgLt pa ps a b = true ↔ pa < a ∨ pa = a ∧ ps < b := by simp [dmgLt]
theorem dmgLt_not {pa ps a b : Int} : dmgLt pa ps a b = false ↔ a < pa ∨ pa = a ∧ b ≤ ps := by
  rw [← Bool.not_eq_true, dmgLt_iff]; omega
/-- Every damage is valid and stands behind the one before. -/
def dmgF (s w : Int) : Int → Int → List (List Int) → Bool
  | _, _, [] => true
  | pa, ps, r :: rs => (dmgOk s w r && dmgLt pa ps (fld r 0) (fld r 1)) && dmgF s w (fld r 0) (fld r 1) rs
def dpA (rows : List (List Int)) (k : Nat) : Int := if k = 0 then -1 else fld (rows.getD (k - 1) []) 0
def dpS (rows : List (List Int)) (k : Nat) : Int := if k = 0 then 0 else fld (rows.getD (k - 1) []) 1
theorem dp_zero (rows : List (List Int)) : dpA rows 0 = -1 ∧ dpS rows 0 = 0 := by simp [dpA, dpS]
theorem dp_next {rows : List (List Int)} {k : Nat} {r : List Int} (h : rows[k]? = some r) : dpA rows (k + 1) = fld r 0 ∧ dpS rows (k + 1) = fld r 1 := by simp [dpA, dpS, List.getD, h]
theorem dmgF_bad {s w pa ps : Int} {rows : List (List Int)} {k : Nat} {r : List Int} (h : rows[k]? = some r) (ho : dmgOk s w r = false) : dmgF s w pa ps (rows.drop k) = false := by
  rw [drop_atR h]; simp [dmgF, ho]
theorem dmgF_low {s w pa ps : Int} {rows : List (List Int)} {k : Nat} {r : List Int} (h : rows[k]? = some r) (ho : dmgLt pa ps (fld r 0) (fld r 1) = false) : dmgF s w pa ps (rows.drop k) = false := by
  rw [drop_atR h]; simp only [dmgF]; rw [ho, Bool.and_false, Bool.false_and]
theorem dmgF_step {s w : Int} {rows : List (List Int)} {k : Nat} {r : List Int} (h : rows[k]? = some r) (ho : dmgOk s w r = true) (hp : dmgLt (dpA rows k) (dpS rows k) (fld r 0) (fld r 1) = true) :
    dmgF s w (dpA rows k) (dpS rows k) (rows.drop k) = dmgF s w (dpA rows (k + 1)) (dpS rows (k + 1)) (rows.drop (k + 1)) := by
  rw [drop_atR h, (dp_next h).1, (dp_next h).2]
  conv => lhs; unfold dmgF
  rw [ho, hp, Bool.true_and, Bool.true_and]
theorem dmgF_end {s w pa ps : Int} {rows : List (List Int)} {n k : Nat} (h : rows.length = n) (hk : n ≤ k) : dmgF s w pa ps (rows.drop k) = true := by
  rw [List.drop_of_length_le (by omega)]; rfl
theorem dmgF_at {s w : Int} : ∀ {rows : List (List Int)} {pa ps : Int}, dmgF s w pa ps rows = true → ∀ {k : Nat} {r : List Int}, rows[k]? = some r → dmgOk s w r = true
  | [], _, _, _, _, _, h => by simp at h
  | r0 :: rs, pa, ps, hg, 0, r, h => by
    simp only [dmgF, Bool.and_eq_true] at hg
    simp at h
    subst h
    exact hg.1.1
  | r0 :: rs, pa, ps, hg, k + 1, r, h => by
    simp only [dmgF, Bool.and_eq_true] at hg
    exact dmgF_at hg.2 (k := k) (by simpa using h)
def dmgA (s w : Int) (rows : List (List Int)) : Bool := dmgF s w (-1) 0 rows
def dmgs (i s w g t : Int) (rows : List (List Int)) : Bool := kndOk i s w g t && (decide (rows.length ≤ 15) && dmgA s w rows)
theorem dmgs_iff {i s w g t : Int} {rows : List (List Int)} : dmgs i s w g t rows = true ↔ kndOk i s w g t = true ∧ rows.length ≤ 15 ∧ dmgA s w rows = true := by simp [dmgs]

/-! ### Windows -/
def atR (rows : List (List Int)) (k : Nat) : Int := fld (rows.getD k []) 0
def wiR (rows : List (List Int)) (k : Nat) : Int := fld (rows.getD k []) 2
theorem atR_of {rows : List (List Int)} {k : Nat} {a b c : Int} (h : rows[k]? = some [a, b, c]) : atR rows k = a ∧ wiR rows k = c := by simp [atR, wiR, List.getD, h, fld]
/-- The broken wires from lo to hi among the first k damages. -/
def brW (rows : List (List Int)) (lo hi : Int) : Nat → Int
  | 0 => 0
  | k + 1 => if inr (atR rows k) lo hi then brW rows lo hi k + wiR rows k else brW rows lo hi k
theorem brW_yes {rows : List (List Int)} {lo hi : Int} {k : Nat} (h : inr (atR rows k) lo hi = true) : brW rows lo hi (k + 1) = brW rows lo hi k + wiR rows k := by simp [brW, h]
theorem brW_no {rows : List (List Int)} {lo hi : Int} {k : Nat} (h : inr (atR rows k) lo hi = false) : brW rows lo hi (k + 1) = brW rows lo hi k := by simp [brW, h]
def Wires (rows : List (List Int)) : Prop := ∀ k, k < rows.length → (0 ≤ atR rows k ∧ atR rows k ≤ 3000) ∧ 1 ≤ wiR rows k ∧ wiR rows k ≤ 40
theorem dmgs_wires {i s w g t : Int} {rows : List (List Int)} (h : dmgs i s w g t rows = true) (he : Even 3 rows) : Wires rows := by
  obtain ⟨h1, h2, h3⟩ := dmgs_iff.1 h
  have hk := kndOk_iff.1 h1
  intro k hk2
  have hr : rows[k]? = some rows[k] := List.getElem?_eq_getElem hk2
  obtain ⟨a, b, c, e⟩ := len3 (he rows[k] (List.getElem_mem hk2))
  rw [e] at hr
  have := dmgOk_iff.1 (dmgF_at h3 hr)
  rw [(atR_of hr).1, (atR_of hr).2]
  omega
theorem brW_bd {rows : List (List Int)} (hw : Wires rows) {lo hi : Int} : ∀ k : Nat, k ≤ rows.length → 0 ≤ brW rows lo hi k ∧ brW rows lo hi k ≤ 40 * (k : Int)
  | 0, _ => by simp [brW]
  | k + 1, hk => by
    have := brW_bd hw (lo := lo) (hi := hi) k (by omega)
    have := hw k (by omega)
    unfold brW
    split <;> omega
theorem brW_own {rows : List (List Int)} (hw : Wires rows) {lo hi : Int} {j : Nat} (hj : inr (atR rows j) lo hi = true) : ∀ k : Nat, j < k → k ≤ rows.length → 1 ≤ brW rows lo hi k
  | 0, h, _ => by omega
  | k + 1, h, hk => by
    rcases Nat.lt_or_ge j k with hl | hl
    · have := brW_own hw hj k hl (by omega)
      have := hw k (by omega)
      unfold brW
      split <;> omega
    · obtain rfl : j = k := by omega
      have := (brW_bd hw (lo := lo) (hi := hi) j (by omega)).1
      have := hw j (by omega)
      rw [brW_yes hj]
      omega
/-- A window is its first place and the rest. -/
theorem brW_cut (rows : List (List Int)) {lo m hi : Int} (h1 : lo ≤ m) (h2 : m ≤ hi) : ∀ k : Nat, brW rows lo hi k = brW rows lo m k + brW rows (m + 1) hi k
  | 0 => by simp [brW]
  | k + 1 => by
    have ih := brW_cut rows h1 h2 k
    have e : inr (atR rows k) lo hi = (inr (atR rows k) lo m || inr (atR rows k) (m + 1) hi) := by
      rw [Bool.eq_iff_iff]
      simp only [inr, Bool.or_eq_true, decide_eq_true_eq]
      omega
    have f : inr (atR rows k) lo m = true → inr (atR rows k) (m + 1) hi = false := by
      intro hh
      simp only [inr, decide_eq_true_eq, decide_eq_false_iff_not] at hh ⊢
      omega
    simp only [brW]
    rcases ha : inr (atR rows k) lo m with _ | _
    · rcases hb : inr (atR rows k) (m + 1) hi with _ | _
      · rw [e, ha, hb]
        simpa using ih
      · rw [e, ha, hb]
        simp
        omega
    · rw [e, ha, f ha]
      simp
      omega
def bwA (i s w g t : Int) (rows : List (List Int)) (lo len : Int) : Bool := dmgs i s w g t rows && (inr lo 0 3000 && inr len 1 3000)
def bwZ (i s w g t : Int) (rows : List (List Int)) (lo len : Int) : Int := if bwA i s w g t rows lo len then brW rows lo (lo + len - 1) rows.length else 0
/-- The window that begins at damage j. -/
def wnD (rows : List (List Int)) (len : Int) (j : Nat) : Int := brW rows (atR rows j) (atR rows j + len - 1) rows.length
/-- The worst of the first k: where it begins and its broken wires. -/
def wmF (rows : List (List Int)) (len : Int) : Nat → Int × Int
  | 0 => (0, -1)
  | k + 1 => if (wmF rows len k).2 < wnD rows len k then (atR rows k, wnD rows len k) else wmF rows len k
theorem wmF_up {rows : List (List Int)} {len : Int} {k : Nat} (h : (wmF rows len k).2 < wnD rows len k) : wmF rows len (k + 1) = (atR rows k, wnD rows len k) := by simp [wmF, h]
theorem wmF_keep {rows : List (List Int)} {len : Int} {k : Nat} (h : ¬ (wmF rows len k).2 < wnD rows len k) : wmF rows len (k + 1) = wmF rows len k := by simp [wmF, h]
theorem wnD_bd {rows : List (List Int)} (hw : Wires rows) {len : Int} (hl : 1 ≤ len) {j : Nat} (hj : j < rows.length) : 1 ≤ wnD rows len j ∧ wnD rows len j ≤ 40 * (rows.length : Int) :=
  ⟨brW_own hw (by simp [inr]; omega) _ hj (Nat.le_refl _), (brW_bd hw _ (Nat.le_refl _)).2⟩
theorem wmF_law {rows : List (List Int)} {len : Int} : ∀ k : Nat, (∀ j, j < k → wnD rows len j ≤ (wmF rows len k).2) ∧ (k = 0 ∨ (wmF rows len k).2 = -1 ∨ ∃ j, j < k ∧ wmF rows len k = (atR rows j, wnD rows len j))
  | 0 => ⟨fun j h => by omega, .inl rfl⟩
  | k + 1 => by
    obtain ⟨h1, h2⟩ := wmF_law (rows := rows) (len := len) k
    by_cases h : (wmF rows len k).2 < wnD rows len k
    · rw [wmF_up h]
      refine ⟨fun j hj => ?_, .inr (.inr ⟨k, by omega, rfl⟩)⟩
      rcases Nat.lt_or_ge j k with hl | hl
      · have := h1 j hl
        dsimp only
        omega
      · obtain rfl : j = k := by omega
        exact Int.le_refl _
    · rw [wmF_keep h]
      refine ⟨fun j hj => ?_, ?_⟩
      · rcases Nat.lt_or_ge j k with hl | hl
        · exact h1 j hl
        · obtain rfl : j = k := by omega
          omega
      · rcases h2 with rfl | h2 | ⟨j, hj, e⟩
        · exact .inr (.inl rfl)
        · exact .inr (.inl h2)
        · exact .inr (.inr ⟨j, by omega, e⟩)
def wwA (i s w g t : Int) (rows : List (List Int)) (len : Int) : Bool := dmgs i s w g t rows && (decide (rows.length ≠ 0) && inr len 1 3000)
def wwX (i s w g t : Int) (rows : List (List Int)) (len : Int) : Int := if wwA i s w g t rows len then (wmF rows len rows.length).1 else 0
def wwM (i s w g t : Int) (rows : List (List Int)) (len : Int) : Int := if wwA i s w g t rows len then (wmF rows len rows.length).2 else 0
/-- What the law asks of the worst window. -/
theorem ww_law {i s w g t len : Int} {rows : List (List Int)} (he : Even 3 rows) (h : wwA i s w g t rows len = true) {j : Nat} (hj : j < rows.length) :
    bwA i s w g t rows (atR rows j) len = true ∧ bwZ i s w g t rows (atR rows j) len ≤ wwM i s w g t rows len ∧ (atR rows j = wwX i s w g t rows len → bwZ i s w g t rows (atR rows j) len = wwM i s w g t rows len) := by
  have ho := h
  simp only [wwA, Bool.and_eq_true, decide_eq_true_eq] at ho
  obtain ⟨hd, hn, hl⟩ := ho
  have hw := dmgs_wires hd he
  have hb : bwA i s w g t rows (atR rows j) len = true := by
    unfold bwA
    rw [hd, hl]
    simp [inr, hw j hj]
  have hl1 : 1 ≤ len := by simp only [inr, decide_eq_true_eq] at hl; exact hl.1
  obtain ⟨h1, h2⟩ := wmF_law (rows := rows) (len := len) rows.length
  unfold bwZ wwM wwX
  rw [if_pos hb, if_pos h, if_pos h]
  refine ⟨hb, h1 j hj, fun e => ?_⟩
  rcases h2 with h2 | h2 | ⟨k, hk, e2⟩
  · omega
  · have := h1 j hj
    have := (wnD_bd hw hl1 hj).1
    omega
  · rw [e2] at e ⊢
    dsimp only at e ⊢
    unfold wnD
    rw [e]
/-- What the law asks of windows. -/
theorem bw_law {i s w g t lo len : Int} {rows : List (List Int)} (h : bwA i s w g t rows lo len = true) (hl : 1 < len) (h2 : bwA i s w g t rows (lo + 1) (len - 1) = true) :
    bwA i s w g t rows lo 1 = true ∧ bwZ i s w g t rows lo 1 + bwZ i s w g t rows (lo + 1) (len - 1) = bwZ i s w g t rows lo len := by
  have ho := h
  simp only [bwA, Bool.and_eq_true] at ho
  have h1 : bwA i s w g t rows lo 1 = true := by
    unfold bwA
    rw [ho.1, ho.2.1]
    rfl
  refine ⟨h1, ?_⟩
  unfold bwZ
  rw [if_pos h, if_pos h1, if_pos h2]
  have := brW_cut rows (lo := lo) (m := lo) (hi := lo + len - 1) (by omega) (by omega) rows.length
  rw [this, show lo + 1 - 1 = lo by omega, show lo + 1 + (len - 1) - 1 = lo + len - 1 by omega]

/-! ### The weight of a rope, the lightest kind -/
def rwA (i s w g t m : Int) : Bool := kndOk i s w g t && inr m 0 20000
def rwZ (i s w g t m : Int) : Int := if rwA i s w g t m then (m * g + 9) / 10 else 0
def idR (rows : List (List Int)) (k : Nat) : Int := fld (rows.getD k []) 0
def wtR (rows : List (List Int)) (k : Nat) : Int := fld (rows.getD k []) 3
def sgR (rows : List (List Int)) (k : Nat) : Int := fld (rows.getD k []) 4
theorem kR_of {rows : List (List Int)} {k : Nat} {a b c d e : Int} (h : rows[k]? = some [a, b, c, d, e]) : idR rows k = a ∧ wtR rows k = d ∧ sgR rows k = e := by simp [idR, wtR, sgR, List.getD, h, fld]
/-- The best of the first k, or -1. -/
def lkF (rows : List (List Int)) (strong : Int) : Nat → Int
  | 0 => -1
  | k + 1 => if strong ≤ sgR rows k ∧ (lkF rows strong k < 0 ∨ wtR rows k < wtR rows (lkF rows strong k).toNat) then (k : Int) else lkF rows strong k
theorem lkF_up {rows : List (List Int)} {strong : Int} {k : Nat} (h : strong ≤ sgR rows k ∧ (lkF rows strong k < 0 ∨ wtR rows k < wtR rows (lkF rows strong k).toNat)) : lkF rows strong (k + 1) = k := by simp only [lkF]; rw [if_pos h]
theorem lkF_keep {rows : List (List Int)} {strong : Int} {k : Nat} (h : ¬ (strong ≤ sgR rows k ∧ (lkF rows strong k < 0 ∨ wtR rows k < wtR rows (lkF rows strong k).toNat))) : lkF rows strong (k + 1) = lkF rows strong k := by simp only [lkF]; rw [if_neg h]
theorem lkF_bd (rows : List (List Int)) (strong : Int) : ∀ k : Nat, -1 ≤ lkF rows strong k ∧ lkF rows strong k < k ∨ k = 0 ∧ lkF rows strong k = -1
  | 0 => .inr ⟨rfl, rfl⟩
  | k + 1 => by
    have := lkF_bd rows strong k
    simp only [lkF]
    split <;> omega
theorem lkF_law (rows : List (List Int)) (strong : Int) : ∀ k : Nat, 0 ≤ lkF rows strong k → ∀ j, j < k → strong ≤ sgR rows j → wtR rows (lkF rows strong k).toNat ≤ wtR rows j
  | 0, h, j, hj, _ => by omega
  | k + 1, h, j, hj, hs => by
    by_cases hc : strong ≤ sgR rows k ∧ (lkF rows strong k < 0 ∨ wtR rows k < wtR rows (lkF rows strong k).toNat)
    · rw [lkF_up hc, Int.toNat_natCast]
      rcases Nat.lt_or_ge j k with hl | hl
      · rcases Int.lt_or_le (lkF rows strong k) 0 with h0 | h0
        · exfalso
          exact lkF_none rows strong k h0 j hl hs
        · have := lkF_law rows strong k h0 j hl hs
          omega
      · obtain rfl : j = k := by omega
        exact Int.le_refl _
    · rw [lkF_keep hc] at h ⊢
      rcases Nat.lt_or_ge j k with hl | hl
      · exact lkF_law rows strong k h j hl hs
      · obtain rfl : j = k := by omega
        omega
where
  lkF_none (rows : List (List Int)) (strong : Int) : ∀ k : Nat, lkF rows strong k < 0 → ∀ j, j < k → strong ≤ sgR rows j → False
    | 0, _, j, hj, _ => by omega
    | k + 1, h, j, hj, hs => by
      by_cases hc : strong ≤ sgR rows k ∧ (lkF rows strong k < 0 ∨ wtR rows k < wtR rows (lkF rows strong k).toNat)
      · rw [lkF_up hc] at h; omega
      · rw [lkF_keep hc] at h
        rcases Nat.lt_or_ge j k with hl | hl
        · exact lkF_none rows strong k h j hl hs
        · obtain rfl : j = k := by omega
          exact hc ⟨hs, .inl h⟩
def lkA (rows : List (List Int)) (strong : Int) : Bool := kinds rows && (inr strong 1 5000 && decide (0 ≤ lkF rows strong rows.length))
def lkZ (rows : List (List Int)) (strong : Int) : Int := if lkA rows strong then idR rows (lkF rows strong rows.length).toNat else 0
/-- The weight of the kind with an id, as the law finds it. -/
def wgF (rows : List (List Int)) (id : Int) : Nat → Int
  | 0 => 501
  | k + 1 => if idR rows k = id then wtR rows k else wgF rows id k
theorem wgF_yes {rows : List (List Int)} {id : Int} {k : Nat} (h : idR rows k = id) : wgF rows id (k + 1) = wtR rows k := by simp [wgF, h]
theorem wgF_no {rows : List (List Int)} {id : Int} {k : Nat} (h : ¬ idR rows k = id) : wgF rows id (k + 1) = wgF rows id k := by simp [wgF, h]
theorem good_rise {ok : List Int → Bool} : ∀ {rows : List (List Int)} {p : Int}, goodF ok p rows = true → ∀ {i j : Nat}, i < j → j < rows.length → idR rows i < idR rows j
  | [], _, _, i, j, _, h => by simp at h
  | r :: rs, p, hg, i, j, hij, hj => by
    simp only [goodF, Bool.and_eq_true, decide_eq_true_eq] at hg
    obtain ⟨j, rfl⟩ : ∃ j', j = j' + 1 := ⟨j - 1, by omega⟩
    have hj' : j < rs.length := by simpa using hj
    have e2 : idR (r :: rs) (j + 1) = idR rs j := by simp [idR]
    rw [e2]
    match i with
    | 0 =>
      have hr : rs[j]? = some rs[j] := List.getElem?_eq_getElem hj'
      have := (goodF_at hg.2.2 hr).2
      have e3 : idR rs j = fld rs[j] 0 := by simp [idR, List.getD, hr]
      rw [e3]
      simpa [idR] using this
    | i + 1 =>
      have e3 : idR (r :: rs) (i + 1) = idR rs i := by simp [idR]
      rw [e3]
      exact good_rise hg.2.2 (by omega) hj'
theorem wgF_at {rows : List (List Int)} (hk : goodF kndR 0 rows = true) {b : Nat} (hb : b < rows.length) : ∀ k, b < k → k ≤ rows.length → wgF rows (idR rows b) k = wtR rows b
  | 0, h, _ => by omega
  | k + 1, h, hk2 => by
    rcases Nat.lt_or_ge b k with hl | hl
    · have := good_rise hk hl (by omega)
      rw [wgF_no (by omega)]
      exact wgF_at hk hb k hl (by omega)
    · obtain rfl : b = k := by omega
      exact wgF_yes rfl
/-- What the law asks of the lightest kind. -/
theorem lk_law {rows : List (List Int)} {strong : Int} (h : lkA rows strong = true) {j : Nat} (hj : j < rows.length) (hs : strong ≤ sgR rows j) : ¬ wtR rows j < wgF rows (lkZ rows strong) rows.length := by
  have ho := h
  simp only [lkA, Bool.and_eq_true, decide_eq_true_eq] at ho
  obtain ⟨hk, _, h0⟩ := ho
  have hb := lkF_bd rows strong rows.length
  unfold lkZ
  rw [if_pos h, wgF_at (goodL_iff.1 hk).1 (b := (lkF rows strong rows.length).toNat) (by omega) _ (by omega) (Nat.le_refl _)]
  have := lkF_law rows strong rows.length h0 j hj hs
  omega
end Go.Proofs.Ytjfmicemnoglkaa
