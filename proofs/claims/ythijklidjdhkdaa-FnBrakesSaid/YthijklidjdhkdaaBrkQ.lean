/- Plain laws of the brakes: fewer brakes, a longer way; the greatest number of a fold. No program in sight. -/
import Derived.Test.YthijklidjdhkdaaBrkK
namespace Go.Proofs.Ythijklidjdhkdaa
open Go.RowKit
set_option linter.unusedVariables false
set_option linter.unusedSimpArgs false

theorem frcF_mono {k : Int} : ∀ (rows : List (List Int)) {z z' : Int}, z ≤ z' → frcF k z rows ≤ frcF k z' rows
  | [], z, z', h => h
  | r :: rs, z, z', h => by
    simp only [frcF]
    split
    · exact frcF_mono rs (by omega)
    · exact frcF_mono rs h
theorem frcF_sel {k : Int} (s : Nat) : ∀ (rows : List (List Int)) (i : Nat) {z : Int}, (∀ r ∈ rows, 0 ≤ fld r 0) → frcF k z rows ≤ frcF k z (sel s i rows)
  | [], i, z, _ => Int.le_refl _
  | r :: rs, i, z, h => by
    have h0 := h r (by simp)
    have hr : ∀ r ∈ rs, 0 ≤ fld r 0 := fun x hx => h x (List.mem_cons_of_mem _ hx)
    unfold sel
    split
    · simp only [frcF]
      exact frcF_sel s rs (i + 1) hr
    · simp only [frcF]
      refine Int.le_trans (frcF_mono rs (z' := z) ?_) (frcF_sel s rs (i + 1) hr)
      split <;> omega
theorem frcF_but {k : Int} : ∀ (rows : List (List Int)) (j : Nat) {z : Int}, (∀ r ∈ rows, 0 ≤ fld r 0) → frcF k z rows ≤ frcF k z (butR rows j)
  | [], j, z, _ => by simp [butR]
  | r :: rs, 0, z, h => by
    have h0 := h r (by simp)
    simp only [butR, List.take_zero, List.nil_append, Nat.zero_add, List.drop_succ_cons, List.drop_zero, frcF]
    refine frcF_mono rs ?_
    split <;> omega
  | r :: rs, j + 1, z, h => by
    have hr : ∀ r ∈ rs, 0 ≤ fld r 0 := fun x hx => h x (List.mem_cons_of_mem _ hx)
    have e : butR (r :: rs) (j + 1) = r :: butR rs j := by simp [butR]
    rw [e]
    simp only [frcF]
    exact frcF_but rs j hr
theorem brk_frc {m p : Int} {rows : List (List Int)} (h : drvOk m p rows = true) : ∀ r ∈ rows, 0 ≤ fld r 0 := fun r hr => by
  have := List.all_eq_true.1 (drvOk_iff.1 h).2 r hr
  simp only [brkOk, Bool.and_eq_true, decide_eq_true_eq] at this
  exact this.1.1
/-- At every second the force with rows is no more than with rows'. -/
def Wkr (p : Int) (rows rows' : List (List Int)) : Prop := ∀ k : Int, frcF k p rows ≤ frcF k p rows'
theorem wkr_sel {m p : Int} {rows : List (List Int)} (h : drvOk m p rows = true) (s i : Nat) : Wkr p rows (sel s i rows) := fun k => frcF_sel s rows i (brk_frc h)
theorem wkr_but {m p : Int} {rows : List (List Int)} (h : drvOk m p rows = true) (j : Nat) : Wkr p rows (butR rows j) := fun k => frcF_but rows j (brk_frc h)
section
variable {m p : Int} {rows rows' : List (List Int)}
theorem brkN_nn (k v : Int) : 0 ≤ brkN m p rows k v := by unfold brkN; omega
theorem brkN_mono (hm : 1 ≤ m) (hw : Wkr p rows rows') {k v v' : Int} (hv : v ≤ v') : brkN m p rows k v ≤ brkN m p rows' k v' := by
  have h1 : 10 * frcF k p rows / m ≤ 10 * frcF k p rows' / m := Int.ediv_le_ediv (by omega) (by have := hw k; omega)
  unfold brkN
  omega
theorem brkL_mono (hm : 1 ≤ m) (hw : Wkr p rows rows') : ∀ (f : Nat) {k v v' : Int}, v ≤ v' → brkL m p rows' f k v' ≤ 0 → brkL m p rows f k v ≤ 0
  | 0, k, v, v', hv, h => by simp only [brkL] at h ⊢; omega
  | f + 1, k, v, v', hv, h => by
    unfold brkL at h ⊢
    split
    · omega
    · rw [if_neg (by omega)] at h
      exact brkL_mono hm hw f (brkN_mono hm hw hv) h
theorem brkF_dw_nn : ∀ (f : Nat) {k v : Int}, 0 ≤ v → 0 ≤ dwF v (brkF m p rows f k v)
  | 0, k, v, hv => by simp [brkF, dwF]
  | f + 1, k, v, hv => by
    unfold brkF
    split
    · simp [dwF]
    · have h1 : 0 ≤ brkN m p rows k v := brkN_nn _ _
      have := brkF_dw_nn f (k := k + 1) h1
      simp only [dwF]
      omega
theorem brkF_dw (hm : 1 ≤ m) (hw : Wkr p rows rows') : ∀ (f : Nat) {k v v' : Int}, 0 ≤ v → v ≤ v' → dwF v (brkF m p rows f k v) ≤ dwF v' (brkF m p rows' f k v')
  | 0, k, v, v', h0, hv => by simp [brkF, dwF]
  | f + 1, k, v, v', h0, hv => by
    rcases Int.lt_or_le 0 v with hp | hp
    · unfold brkF
      rw [if_neg (by omega), if_neg (by omega)]
      have h1 := brkN_mono (k := k) hm hw hv
      have h2 := brkF_dw hm hw f (k := k + 1) (brkN_nn (m := m) (p := p) (rows := rows) k v) h1
      simp only [dwF]
      omega
    · have h3 := brkF_dw_nn (m := m) (p := p) (rows := rows') (f + 1) (k := k) (v := v') (by omega)
      have e : brkF m p rows (f + 1) k v = [] := by unfold brkF; rw [if_pos hp]
      rw [e]
      simpa [dwF] using h3
theorem brk_less (hm : 1 ≤ m) (hw : Wkr p rows rows') {v : Int} (hv : 0 ≤ v) (hk : brkK m p rows' v = true) : brkK m p rows v = true ∧ dw (brkS m p rows v) ≤ dw (brkS m p rows' v) := by
  refine ⟨?_, brkF_dw hm hw 60 hv (Int.le_refl _)⟩
  unfold brkK at hk ⊢
  rw [decide_eq_true_eq] at hk ⊢
  exact brkL_mono hm hw 60 (Int.le_refl _) hk
theorem brkF_last : ∀ (f : Nat) (k v : Int), (v :: brkF m p rows f k v).getLast? = some (brkL m p rows f k v)
  | 0, k, v => by simp [brkF, brkL]
  | f + 1, k, v => by
    unfold brkF brkL
    split
    · simp
    · rw [List.getLast?_cons_cons]
      exact brkF_last f (k + 1) _
theorem brkL_nn : ∀ (f : Nat) {k v : Int}, 0 ≤ v → 0 ≤ brkL m p rows f k v
  | 0, k, v, h => h
  | f + 1, k, v, h => by
    unfold brkL
    split
    · exact h
    · exact brkL_nn f (brkN_nn _ _)
theorem brkS_last {v : Int} (hv : 0 ≤ v) (hk : brkK m p rows v = true) : (brkS m p rows v).getLast? = some 0 := by
  unfold brkK at hk
  rw [decide_eq_true_eq] at hk
  have h0 := brkL_nn (m := m) (p := p) (rows := rows) 60 (k := 0) hv
  unfold brkS
  rw [brkF_last]
  congr 1
  omega
end
theorem dw_take (xs : List Int) : ∀ (k : Nat), k + 1 < xs.length → dw (xs.take (k + 2)) = dw (xs.take (k + 1)) + (xs.getD k 0 + xs.getD (k + 1) 0) := by
  suffices h : ∀ (xs : List Int) (p : Int) (k : Nat), k < xs.length → dwF p (xs.take (k + 1)) = dwF p (xs.take k) + ((p :: xs).getD k 0 + xs.getD k 0) by
    intro k hk
    match xs with
    | [] => simp at hk
    | x :: r =>
      have := h r x k (by simpa using hk)
      simpa [dw] using this
  intro xs
  induction xs with
  | nil => intro p k hk; simp at hk
  | cons a r ih =>
    intro p k hk
    match k with
    | 0 => simp [dwF]
    | k + 1 =>
      have := ih a k (by simpa using hk)
      simp only [List.take_succ_cons, dwF, this]
      simp
      omega

/-! ### The greatest speed up to which the way is short enough -/
theorem sfB_law {m p : Int} {rows : List (List Int)} {way : Int} : ∀ (f : Nat) (v b : Int), b < v → (∀ x, v ≤ x → x ≤ sfB m p rows way f v b → stopsB m p rows way x = true) ∧ b ≤ sfB m p rows way f v b ∧ sfB m p rows way f v b < v + f
  | 0, v, b, h => by
    simp only [sfB]
    exact ⟨fun x h1 h2 => by omega, Int.le_refl _, by omega⟩
  | f + 1, v, b, h => by
    unfold sfB
    split
    · obtain ⟨h1, h2, h3⟩ := sfB_law (m := m) (p := p) (rows := rows) (way := way) f (v + 1) v (by omega)
      refine ⟨fun x hx hx2 => ?_, by omega, by omega⟩
      rcases Int.lt_or_le v x with hl | hl
      · exact h1 x (by omega) hx2
      · obtain rfl : x = v := by omega
        assumption
    · exact ⟨fun x h1 h2 => by omega, Int.le_refl _, by omega⟩
theorem wbF_law {e : Nat → Int} {g : Nat → Option Int} : ∀ (f i : Nat) (b mo b' mo' : Int), wbF e g f i b mo = some (b', mo') → (∀ j, i ≤ j → j < i + f → ∃ z, g j = some z ∧ z ≤ mo') ∧ mo ≤ mo' ∧ (b' = b ∧ mo' = mo ∨ ∃ j, i ≤ j ∧ j < i + f ∧ b' = e j)
  | 0, i, b, mo, b', mo', h => by
    simp only [wbF, Option.some.injEq, Prod.mk.injEq] at h
    obtain ⟨rfl, rfl⟩ := h
    exact ⟨fun j h1 h2 => by omega, Int.le_refl _, .inl ⟨rfl, rfl⟩⟩
  | f + 1, i, b, mo, b', mo', h => by
    rcases hg : g i with _ | z
    · simp [wbF, hg] at h
    · simp only [wbF, hg] at h
      split at h
      · obtain ⟨h1, h2, h3⟩ := wbF_law f (i + 1) (e i) z b' mo' h
        refine ⟨fun j hj1 hj2 => ?_, by omega, .inr ?_⟩
        · rcases Nat.lt_or_ge i j with hl | hl
          · exact h1 j hl (by omega)
          · obtain rfl : j = i := by omega
            exact ⟨z, hg, h2⟩
        · rcases h3 with ⟨rfl, _⟩ | ⟨j, hj1, hj2, e'⟩
          · exact ⟨i, Nat.le_refl _, by omega, rfl⟩
          · exact ⟨j, by omega, by omega, e'⟩
      · obtain ⟨h1, h2, h3⟩ := wbF_law f (i + 1) b mo b' mo' h
        refine ⟨fun j hj1 hj2 => ?_, h2, ?_⟩
        · rcases Nat.lt_or_ge i j with hl | hl
          · exact h1 j hl (by omega)
          · obtain rfl : j = i := by omega
            exact ⟨z, hg, by omega⟩
        · rcases h3 with h3 | ⟨j, hj1, hj2, e'⟩
          · exact .inl h3
          · exact .inr ⟨j, by omega, by omega, e'⟩

/-! ### What the law on loads asks -/
theorem ss_law {m p way : Int} {rows : List (List Int)} (hk : 1 ≤ ssV m p rows way) : ssV m p rows way ≤ 100 ∧ ∀ x, 1 ≤ x → x ≤ ssV m p rows way → bwOk m p rows x = true ∧ bwV m p rows x ≤ way := by
  unfold ssV at hk ⊢
  split at hk
  · rename_i ho
    rw [if_pos ho]
    obtain ⟨h1, h2, h3⟩ := sfB_law (m := m) (p := p) (rows := rows) (way := way) 100 1 0 (by omega)
    refine ⟨by omega, fun x hx hx2 => ?_⟩
    have h4 := h1 x hx hx2
    unfold stopsB at h4
    rw [Bool.and_eq_true, decide_eq_true_eq] at h4
    unfold ssOk at ho
    rw [Bool.and_eq_true] at ho
    have hb : bwOk m p rows x = true := by
      unfold bwOk
      rw [ho.1, h4.1]
      simp [inr]
      omega
    refine ⟨hb, ?_⟩
    unfold bwV
    rw [if_pos hb]
    exact h4.2
  · omega
theorem wp_law {m p v low high b mo : Int} {rows : List (List Int)} (h : wpR m p rows v low high = some (b, mo)) : bwOk m high rows v = true ∧ bwV m high rows v ≤ mo ∧ low ≤ b ∧ b ≤ high := by
  unfold wpR at h
  split at h
  · rename_i ho
    unfold wpOk at ho
    simp only [Bool.and_eq_true, inr, decide_eq_true_eq] at ho
    obtain ⟨⟨⟨hd, hv⟩, hl⟩, hh⟩ := ho
    obtain ⟨h1, h2, h3⟩ := wbF_law _ _ _ _ _ _ h
    obtain ⟨z, hz, hz2⟩ := h1 (high - low).toNat (by omega) (by omega)
    have hhl : low + ((high - low).toNat : Int) = high := by omega
    have hz0 : 0 ≤ z ∧ brkK m high rows v = true ∧ z = dw (brkS m high rows v) := by
      unfold pullG at hz
      rw [hhl] at hz
      split at hz
      · injection hz with hz
        refine ⟨?_, ‹_›, hz.symm⟩
        rw [← hz]
        exact brkF_dw_nn 60 hv.1
      · simp at hz
    obtain ⟨⟨hm, hp, hn⟩, hb⟩ := drvOk_iff.1 hd
    have hdh : drvOk m high rows = true := drvOk_iff.2 ⟨⟨hm, by omega, hn⟩, hb⟩
    have hk : bwOk m high rows v = true := by
      unfold bwOk
      rw [hdh, hz0.2.1]
      simp [inr]
      omega
    refine ⟨hk, ?_, ?_⟩
    · unfold bwV
      rw [if_pos hk, ← hz0.2.2]
      exact hz2
    · rcases h3 with ⟨_, h3⟩ | ⟨j, hj1, hj2, rfl⟩
      · omega
      · omega
  · simp at h
theorem wl_law {m p v b mo : Int} {rows : List (List Int)} (h : wlR m p rows v = some (b, mo)) : ∀ i : Nat, i < rows.length → wwOk m p rows v i = true ∧ wwV m p rows v i ≤ mo := by
  intro i hi
  unfold wlR at h
  split at h
  · rename_i ho
    simp only [Bool.and_eq_true, inr, decide_eq_true_eq] at ho
    obtain ⟨⟨hd, hv⟩, hl⟩ := ho
    obtain ⟨h1, _, _⟩ := wbF_law _ _ _ _ _ _ h
    obtain ⟨z, hz, hz2⟩ := h1 i (by omega) (by omega)
    unfold lossG at hz
    split at hz
    · rename_i hk
      injection hz with hz
      have ho : wwOk m p rows v i = true := by
        unfold wwOk
        rw [hd, Int.toNat_natCast, hk]
        simp [inr]
        omega
      refine ⟨ho, ?_⟩
      unfold wwV
      rw [if_pos ho, Int.toNat_natCast, hz]
      exact hz2
    · simp at hz
  · simp at h
theorem ww_law {m p v brake : Int} {rows : List (List Int)} (h : wwOk m p rows v brake = true) : bwOk m p rows v = true ∧ bwV m p rows v ≤ wwV m p rows v brake := by
  have ho := h
  unfold wwOk at ho
  simp only [Bool.and_eq_true, inr, decide_eq_true_eq] at ho
  obtain ⟨⟨⟨hd, hv⟩, hb⟩, hk⟩ := ho
  obtain ⟨⟨hm, hp, hn⟩, hbb⟩ := drvOk_iff.1 hd
  obtain ⟨h1, h2⟩ := brk_less hm.1 (wkr_but hd brake.toNat) hv.1 hk
  have hbk : bwOk m p rows v = true := by
    unfold bwOk
    rw [hd, h1]
    simp [inr]
    omega
  refine ⟨hbk, ?_⟩
  unfold bwV wwV
  rw [if_pos hbk, if_pos h]
  exact h2
end Go.Proofs.Ythijklidjdhkdaa
