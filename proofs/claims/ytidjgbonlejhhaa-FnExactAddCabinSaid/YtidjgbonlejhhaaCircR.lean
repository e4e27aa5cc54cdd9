/- The circle: a cabin is added: the plain words. -/
import Derived.Test.YtidjgbonlejhhaaSrt
import Derived.Test.YtidjgbonlejhhaaCircM
namespace Go.Proofs.Ytidjgbonlejhhaa
open Go.RowKit
set_option linter.unusedVariables false
set_option linter.unusedSimpArgs false

def putZ (p : Int) : List Int → List Int
  | [] => [p]
  | x :: xs => if x < p then x :: putZ p xs else if x = p then x :: xs else p :: x :: xs
theorem risF_sorted {lo hi : Int} : ∀ {zs : List Int} {p : Int}, risF lo hi p zs = true → zs.Pairwise (fun x y => x < y) ∧ ∀ x, x ∈ zs → p < x
  | [], _, _ => ⟨List.Pairwise.nil, by simp⟩
  | x0 :: xs, p, h => by
    simp only [risF, inr, Bool.and_eq_true, decide_eq_true_eq] at h
    have ih := risF_sorted h.2.2
    refine ⟨List.pairwise_cons.2 ⟨fun y hy => ih.2 y hy, ih.1⟩, fun x hx => ?_⟩
    rcases List.mem_cons.1 hx with e | hx
    · subst e; exact h.2.1
    · have := ih.2 x hx; omega
theorem putZ_perm {p : Int} : ∀ {zs : List Int}, p ∉ zs → (putZ p zs).Perm (p :: zs)
  | [], _ => List.Perm.refl _
  | x :: xs, h => by
    unfold putZ
    have h1 : x ≠ p := fun e => h (by simp [e])
    have h2 : p ∉ xs := fun e => h (by simp [e])
    by_cases h0 : x < p
    · rw [if_pos h0]; exact ((putZ_perm h2).cons x).trans (List.Perm.swap p x xs)
    · rw [if_neg h0, if_neg h1]
theorem putZ_sorted {p : Int} : ∀ {zs : List Int}, zs.Pairwise (fun x y => x < y) → (putZ p zs).Pairwise (fun x y => x ≤ y)
  | [], _ => by simp [putZ]
  | x :: xs, h => by
    have hc := List.pairwise_cons.1 h
    have hle : xs.Pairwise (fun x y => x ≤ y) := hc.2.imp (fun h => by omega)
    unfold putZ
    by_cases h1 : x < p
    · rw [if_pos h1]
      refine List.pairwise_cons.2 ⟨fun y hy => ?_, putZ_sorted hc.2⟩
      by_cases hm : p ∈ xs
      · have hy' : y = p ∨ y ∈ xs := putZ_mem hy
        rcases hy' with e | hy'
        · omega
        · have := hc.1 y hy'; omega
      · rcases putZ_mem hy with e | hy'
        · omega
        · have := hc.1 y hy'; omega
    · rw [if_neg h1]
      have hx : (x :: xs).Pairwise (fun x y => x ≤ y) := List.pairwise_cons.2 ⟨fun y hy => by have := hc.1 y hy; omega, hle⟩
      by_cases h2 : x = p
      · rw [if_pos h2]; exact hx
      · rw [if_neg h2]
        refine List.pairwise_cons.2 ⟨fun y hy => ?_, hx⟩
        rcases List.mem_cons.1 hy with e | hy'
        · omega
        · have := hc.1 y hy'; omega
where
  putZ_mem {p y : Int} : ∀ {zs : List Int}, y ∈ putZ p zs → y = p ∨ y ∈ zs
    | [], h => by simp [putZ] at h; exact .inl h
    | x :: xs, h => by
      unfold putZ at h
      split at h
      · rcases List.mem_cons.1 h with e | h
        · exact .inr (by simp [e])
        · rcases putZ_mem h with e | h
          · exact .inl e
          · exact .inr (by simp [h])
      · split at h
        · exact .inr h
        · rcases List.mem_cons.1 h with e | h
          · exact .inl e
          · exact .inr h
theorem srtZ_perm (zs : List Int) : (srtZ zs).Perm zs := List.mergeSort_perm _ _
theorem srtZ_sorted (zs : List Int) : (srtZ zs).Pairwise (fun x y => x ≤ y) := by
  have := List.pairwise_mergeSort (le := fun x y : Int => decide (x ≤ y)) (fun a b c h1 h2 => by simp at *; omega) (fun a b => by simp; omega) zs
  exact this.imp (fun h => by simpa using h)
theorem srt_put {zs : List Int} {p : Int} (hs : zs.Pairwise (fun x y => x < y)) (hp : p ∉ zs) : srtZ (zs ++ [p]) = putZ p zs := by
  refine List.Perm.eq_of_pairwise (le := fun x y => x ≤ y) (fun a b _ _ h1 h2 => by omega) (srtZ_sorted _) (putZ_sorted hs) ?_
  refine (srtZ_perm _).trans ?_
  refine List.Perm.trans ?_ (putZ_perm hp).symm
  exact List.perm_append_comm
theorem srt_dup {zs : List Int} {p lo hi : Int} (hp : p ∈ zs) : rising lo hi (srtZ (zs ++ [p])) = false := by
  rcases h : rising lo hi (srtZ (zs ++ [p])) with _ | _
  · rfl
  · exfalso
    have h1 := (risF_sorted h).1
    have h2 : (srtZ (zs ++ [p])).Nodup := h1.imp (fun h => by omega)
    have h3 := (srtZ_perm (zs ++ [p])).nodup_iff.1 h2
    rw [List.nodup_append] at h3
    exact h3.2.2 p hp p (by simp) rfl
theorem put_step {p : Int} {zs : List Int} {k : Nat} {x : Int} (hx : zs[k]? = some x) (h : x < p) : zs.take k ++ putZ p (zs.drop k) = zs.take (k + 1) ++ putZ p (zs.drop (k + 1)) := by
  have e : putZ p (x :: zs.drop (k + 1)) = x :: putZ p (zs.drop (k + 1)) := by
    conv => lhs; unfold putZ
    rw [if_pos h]
  rw [drop_atZ hx, take_next hx, e]
  simp
theorem put_eq {p : Int} {zs : List Int} {k : Nat} (hx : zs[k]? = some p) : zs.take k ++ putZ p (zs.drop k) = zs := by
  rw [drop_atZ hx]
  unfold putZ
  rw [if_neg (by omega), if_pos rfl, ← drop_atZ hx, List.take_append_drop]
theorem put_in {p : Int} {zs : List Int} {k : Nat} {x : Int} (hx : zs[k]? = some x) (h : p < x) : zs.take k ++ putZ p (zs.drop k) = zs.take k ++ [p] ++ zs.drop k := by
  rw [drop_atZ hx]
  unfold putZ
  rw [if_neg (by omega), if_neg (by omega)]
  simp
theorem put_end {p : Int} {zs : List Int} {k : Nat} (h : zs.length = k) : zs.take k ++ putZ p (zs.drop k) = zs.take k ++ [p] ++ zs.drop k := by
  rw [List.drop_of_length_le (by omega)]; simp [putZ]
theorem circ_mono {l s : Int} {zs : List Int} (h : circOk l s zs = true) {j : Nat} {x : Int} (hx : zs[j]? = some x) : ∀ {k : Nat} {y : Int}, j ≤ k → zs[k]? = some y → x ≤ y
  | k, y, hjk, hy => by
    induction k generalizing y with
    | zero =>
      have : j = 0 := by omega
      subst this
      rw [hx] at hy; injection hy with e; omega
    | succ k ih =>
      by_cases e : j = k + 1
      · subst e; rw [hx] at hy; injection hy with e; omega
      · have hk := lt_of_at hy
        have hp : zs[k]? = some zs[k] := List.getElem?_eq_getElem (by omega)
        have h1 := ih _ (by omega) hp
        have h2 := circ_lt h hp hy
        omega
/-- The first widest gap among the first k + 1. -/
def bestTo (l : Int) (zs : List Int) : Nat → Nat
  | 0 => 0
  | k + 1 => if gapZ l zs (bestTo l zs k) < gapZ l zs (k + 1) then k + 1 else bestTo l zs k
theorem bestTo_le (l : Int) (zs : List Int) : ∀ k, bestTo l zs k ≤ k
  | 0 => Nat.le_refl _
  | k + 1 => by
    have := bestTo_le l zs k
    unfold bestTo; split <;> omega
theorem gap_pos {l s : Int} {zs : List Int} (h : circOk l s zs = true) {k : Nat} (hk : k < zs.length) : 1 ≤ gapZ l zs k := by
  have hx : zs[k]? = some zs[k] := List.getElem?_eq_getElem hk
  by_cases h1 : k + 1 < zs.length
  · have hy : zs[k + 1]? = some zs[k + 1] := List.getElem?_eq_getElem h1
    rw [gap_mid hx hy]
    have := circ_lt h hx hy
    omega
  · have hz : zs[0]? = some zs[0] := List.getElem?_eq_getElem (by omega)
    rw [gap_last hx hz (by omega)]
    have a1 := circ_at h hx
    have a2 := circ_at h hz
    omega
def midP (l : Int) (zs : List Int) (b : Nat) : Int := (zs.getD b 0 + gapZ l zs b / 2) % l
theorem mid_new {l s : Int} {zs : List Int} (h : circOk l s zs = true) {b : Nat} (hb : b < zs.length) (h2 : 2 ≤ gapZ l zs b) : midP l zs b ∉ zs := by
  intro hm
  obtain ⟨j, hj⟩ := List.getElem?_of_mem hm
  have hx : zs[b]? = some zs[b] := List.getElem?_eq_getElem hb
  have hz : zs[0]? = some zs[0] := List.getElem?_eq_getElem (by omega)
  have ax := circ_at h hx
  have az := circ_at h hz
  have l0 := (circOk_iff.1 h).1.1
  have hg : zs.getD b 0 = zs[b] := by simp [List.getD, hx]
  generalize zs[b] = x at *
  generalize zs[0] = z at *
  unfold midP at hj
  rw [hg] at hj
  by_cases h1 : b + 1 < zs.length
  · have hy : zs[b + 1]? = some zs[b + 1] := List.getElem?_eq_getElem h1
    have ay := circ_at h hy
    generalize zs[b + 1] = y at *
    rw [gap_mid hx hy] at hj h2
    rw [Int.emod_eq_of_lt (by omega) (by omega)] at hj
    rcases Nat.lt_or_ge b j with hjb | hjb
    · have := circ_mono h hy (show b + 1 ≤ j from hjb) hj
      omega
    · have := circ_mono h hj hjb hx
      omega
  · rw [gap_last hx hz (by omega)] at hj h2
    have hjl := lt_of_at hj
    have m1 := circ_mono h hj (show j ≤ b by omega) hx
    have m2 := circ_mono h hz (Nat.zero_le j) hj
    by_cases hv : x + (l - x + z) / 2 < l
    · rw [Int.emod_eq_of_lt (by omega) hv] at m1 m2
      omega
    · rw [show x + (l - x + z) / 2 = (x + (l - x + z) / 2 - l) + l by omega, Int.add_emod_right, Int.emod_eq_of_lt (by omega) (by omega)] at m1 m2
      omega
theorem mid_old {l s : Int} {zs : List Int} (h : circOk l s zs = true) {b : Nat} (hb : b < zs.length) (h2 : gapZ l zs b < 2) : midP l zs b ∈ zs := by
  have hx : zs[b]? = some zs[b] := List.getElem?_eq_getElem hb
  have ax := circ_at h hx
  have hp := gap_pos h hb
  have hg : zs.getD b 0 = zs[b] := by simp [List.getD, hx]
  have hm := List.getElem_mem hb
  unfold midP
  rw [hg, show gapZ l zs b / 2 = 0 by omega, Int.add_zero, Int.emod_eq_of_lt ax.1 (by omega)]
  exact hm
def addP (l : Int) (zs : List Int) : Int := if zs.length = 0 then 0 else midP l zs (bestTo l zs (zs.length - 1))
def addOk (l s : Int) (zs : List Int) (m : Int) : Bool :=
  circOk l s zs && (inr m 1 4000 && ((decide (zs.length = 0) || decide (2 ≤ gapZ l zs (bestTo l zs (zs.length - 1)))) && (circOk l s (putZ (addP l zs) zs) && decide (m ≤ minL (gapsL l (putZ (addP l zs) zs))))))
theorem add_srt {l s : Int} {zs : List Int} (h : circOk l s zs = true) (h2 : zs.length = 0 ∨ 2 ≤ gapZ l zs (bestTo l zs (zs.length - 1))) : srtZ (zs ++ [addP l zs]) = putZ (addP l zs) zs := by
  refine srt_put (risF_sorted (circOk_iff.1 h).2.2.1).1 ?_
  unfold addP
  by_cases h0 : zs.length = 0
  · rw [List.eq_nil_of_length_eq_zero h0]; simp
  · rw [if_neg h0]
    have := bestTo_le l zs (zs.length - 1)
    exact mid_new h (by omega) (h2.resolve_left h0)
theorem add_dup {l s : Int} {zs : List Int} (h : circOk l s zs = true) (h0 : zs.length ≠ 0) (h2 : gapZ l zs (bestTo l zs (zs.length - 1)) < 2) : circOk l s (srtZ (zs ++ [addP l zs])) = false := by
  have := bestTo_le l zs (zs.length - 1)
  have hm := mid_old h (show bestTo l zs (zs.length - 1) < zs.length by omega) h2
  unfold circOk addP
  rw [if_neg h0, srt_dup hm]
  simp
def addV (l s : Int) (zs : List Int) (m : Int) : List Int := if addOk l s zs m then putZ (addP l zs) zs else []
def addL (l s : Int) (zs : List Int) (m : Int) : Int := if addOk l s zs m then l else 0
def addS (l s : Int) (zs : List Int) (m : Int) : Int := if addOk l s zs m then s else 0
theorem putZ_len (p : Int) (zs : List Int) : (putZ p zs).length ≤ zs.length + 1 := by
  induction zs with
  | nil => simp [putZ]
  | cons x xs ih =>
    unfold putZ
    split
    · simp; omega
    · split <;> simp
theorem addV_len {l s : Int} {zs : List Int} {m : Int} : (addV l s zs m).length ≤ 1048576 := by
  unfold addV
  split
  · rename_i h
    simp only [addOk, Bool.and_eq_true] at h
    have := (circOk_iff.1 h.2.2.2.1).2.2.2
    omega
  · simp
end Go.Proofs.Ytidjgbonlejhhaa
