/- Cabins keep their distances; the next pass is one pass more; the time of a round. Plain. -/
import Derived.Test.YtidjgbonlejhhaaCircG
import Derived.Test.YtidjgbonlejhhaaCircE
import Derived.Test.YtidjgbonlejhhaaCircI
import Derived.Test.YtidjgbonlejhhaaCircL
namespace Go.Proofs.Ytidjgbonlejhhaa
open Go.RowKit
set_option linter.unusedVariables false
set_option linter.unusedSimpArgs false

theorem nextW_ge {R T y : Int} (hR : 0 < R) : T ≤ nextW R T y := by
  unfold nextW
  split
  · have h1 := Int.lt_ediv_add_one_mul_self (T - y + R - 1) hR
    rw [Int.add_mul, Int.one_mul] at h1
    omega
  · omega
theorem nbest_mem {ws : List Int} : ∀ {k : Nat}, 0 < k → ∃ j, j < k ∧ (nbest ws k).2 = ws.getD j 0
  | 0, h => absurd h (by omega)
  | k + 1, _ => by
    unfold nbest
    split
    · exact ⟨k, by omega, rfl⟩
    · rename_i hn
      have hk : 0 < k := by
        rcases Nat.eq_zero_or_pos k with h0 | h0
        · subst h0
          exact absurd (.inl (by simp [nbest])) hn
        · exact h0
      obtain ⟨j, hj, e⟩ := nbest_mem (ws := ws) hk
      exact ⟨j, by omega, e⟩
theorem ceil_ge {w s : Int} (hs : 1 ≤ s) : w ≤ s * ((w + s - 1) / s) := by
  have h1 := Int.lt_ediv_add_one_mul_self (w + s - 1) (show 0 < s by omega)
  rw [Int.add_mul, Int.one_mul, Int.mul_comm] at h1
  omega
theorem sumZ_cons (f : Int → Int) (x : Int) (r : List Int) : sumZ f (x :: r) = f x + sumZ f r := by simp [sumZ]
theorem sumZ_mono {f g : Int → Int} : ∀ {zs : List Int}, (∀ z ∈ zs, f z ≤ g z) → sumZ f zs ≤ sumZ g zs
  | [], _ => by simp [sumZ]
  | x :: r, h => by
    rw [sumZ_cons, sumZ_cons]
    have h1 := h x (by simp)
    have h2 := sumZ_mono (zs := r) fun z hz => h z (by simp [hz])
    omega
theorem sumZ_pos {f : Int → Int} : ∀ {zs : List Int} {x : Int}, (∀ z ∈ zs, 0 ≤ f z) → x ∈ zs → f x ≤ sumZ f zs
  | [], _, _, hx => by simp at hx
  | y :: r, x, h, hx => by
    rw [sumZ_cons]
    have h1 := h y (by simp)
    have h3 : ∀ zs : List Int, (∀ z ∈ zs, 0 ≤ f z) → 0 ≤ sumZ f zs := fun zs hz => by
      have := sumZ_mono (f := fun _ => 0) (g := f) (zs := zs) hz
      have h0 : sumZ (fun _ => 0) zs = 0 := by clear this hz; induction zs with | nil => simp [sumZ] | cons a b ih => rw [sumZ_cons, ih]; rfl
      omega
    rcases List.mem_cons.1 hx with rfl | hx
    · have := h3 r fun z hz => h z (by simp [hz])
      omega
    · have := sumZ_pos (zs := r) (fun z hz => h z (by simp [hz])) hx
      omega
/-- What the law says of the next pass. -/
theorem pass_facts {l s : Int} {zs : List Int} {place time : Int} (h : nextOk l s zs place time = true) :
    time ≤ nextT l s zs place time ∧ passOk l s zs place time = true ∧
    (passOk l s zs place (nextT l s zs place time) = true → passV l s zs place time ≤ passV l s zs place (nextT l s zs place time) ∧ passV l s zs place (nextT l s zs place time) ≠ 0) := by
  have hT : nextT l s zs place time = ((nbest (nextWs l s zs place time) zs.length).2 + s - 1) / s := by simp [nextT, h]
  have h' := h
  simp only [nextOk, Bool.and_eq_true, decide_eq_true_eq] at h
  obtain ⟨hc, hp, ht, hn⟩ := h
  have hcb := circOk_iff.1 hc
  have hs1 := hcb.2.1.1
  have hl0 := hcb.1.1
  have hl1 := hcb.1.2
  obtain ⟨j, hj, hb⟩ := nbest_mem (ws := nextWs l s zs place time) (show 0 < zs.length by omega)
  have hxj : zs[j]? = some zs[j] := List.getElem?_eq_getElem hj
  rw [nextWs_at hxj] at hb
  have hge := nextW_ge (R := 10 * l) (T := s * time) (y := wayZ l place zs[j]) (by omega)
  have hwb := wayZ_bd (place := place) (x := zs[j]) hl0 hl1
  have hle := (nextW_bd (R := 10 * l) (T := s * time) (y := wayZ l place zs[j]) (by omega) hwb.1).1
  rw [← hb] at hge hle
  generalize (nbest (nextWs l s zs place time) zs.length).2 = w at hT hge hle
  have hce := ceil_ge (w := w) hs1
  rw [← hT] at hce
  generalize nextT l s zs place time = t at hT hce
  have hst : s * time ≤ s * t := by omega
  have htt : time ≤ t := Int.le_of_mul_le_mul_left hst (by omega)
  refine ⟨htt, by simp [passOk, hc, hp, ht], fun hok => ?_⟩
  have e1 : passV l s zs place time = sumZ (passF l s place time) zs := by simp [passV, passOk, hc, hp, ht]
  have e2 : passV l s zs place t = sumZ (passF l s place t) zs := by simp [passV, hok]
  rw [e1, e2]
  have hnn : ∀ z, 0 ≤ passF l s place t z := fun z => by
    unfold passF
    split
    · have := Int.ediv_nonneg (a := s * t - wayZ l place z) (b := 10 * l) (by omega) (by omega)
      omega
    · omega
  refine ⟨sumZ_mono fun z _ => ?_, ?_⟩
  · have := hnn z
    unfold passF at this ⊢
    split
    · rename_i h1
      rw [if_pos (by omega)]
      have := Int.ediv_le_ediv (a := s * time - wayZ l place z) (b := s * t - wayZ l place z) (c := 10 * l) (by omega) (by omega)
      omega
    · exact this
  · have h1 := sumZ_pos (f := passF l s place t) (zs := zs) (fun z _ => hnn z) (List.getElem_mem hj)
    have h2 : 1 ≤ passF l s place t zs[j] := by
      unfold passF
      rw [if_pos (by omega)]
      have := Int.ediv_nonneg (a := s * t - wayZ l place zs[j]) (b := 10 * l) (by omega) (by omega)
      omega
    omega
theorem mod_gap {l a b c t : Int} (hl : 10 ≤ l) (h0 : 0 ≤ c) (h1 : c < l) (h2 : ∃ q : Int, b - a = c + l * q) : ((10 * b + t) % (10 * l) - (10 * a + t) % (10 * l) + 10 * l) % (10 * l) = 10 * c := by
  obtain ⟨q, hq⟩ := h2
  have e1 := Int.emod_add_mul_ediv (10 * b + t) (10 * l)
  have e2 := Int.emod_add_mul_ediv (10 * a + t) (10 * l)
  generalize (10 * b + t) % (10 * l) = x at *
  generalize (10 * a + t) % (10 * l) = y at *
  generalize (10 * b + t) / (10 * l) = u at *
  generalize (10 * a + t) / (10 * l) = v at *
  have e3 : x - y + 10 * l = 10 * c + (10 * l) * (q - u + v + 1) := by
    rw [Int.mul_add, Int.mul_add, Int.mul_sub, Int.mul_assoc 10 l q]
    omega
  rw [e3, Int.add_mul_emod_self_left]
  exact Int.emod_eq_of_lt (by omega) (by omega)
/-- What the law says of the distances. -/
theorem way_gap {l s : Int} {zs : List Int} {time : Int} (h : circOk l s zs = true) (hk : 1 < zs.length) {i : Nat} (hi : i < zs.length) {x y : Int} (hx : zs[i]? = some x) (hy : zs[(i + 1) % zs.length]? = some y) :
    (plF l s time y - plF l s time x + 10 * l) % (10 * l) = 10 * gapZ l zs i := by
  have hcb := circOk_iff.1 h
  have hl0 := hcb.1.1
  have bx := circ_at h hx
  have by_ := circ_at h hy
  unfold plF
  by_cases h1 : i + 1 < zs.length
  · rw [Nat.mod_eq_of_lt h1] at hy
    have hlt := circ_lt h hx hy
    rw [gap_mid hx hy]
    exact mod_gap hl0 (by omega) (by omega) ⟨0, by simp⟩
  · have he : zs.length = i + 1 := by omega
    rw [he, Nat.mod_self] at hy
    rw [gap_last hx hy he]
    have hx1 : zs[1]? = some zs[1] := List.getElem?_eq_getElem hk
    have h2 := circ_lt h hy hx1
    have h3 : zs[1] ≤ x := by
      have aux : ∀ k, 1 ≤ k → (hk : k < zs.length) → zs[1] ≤ zs[k] := by
        intro k hk1
        induction k with
        | zero => omega
        | succ k ih =>
          intro hk2
          rcases Nat.eq_or_lt_of_le hk1 with e | hlt
          · have : k = 0 := by omega
            subst this
            exact Int.le_refl _
          · have a1 := ih (by omega) (by omega)
            have a2 := circ_lt h (List.getElem?_eq_getElem (show k < zs.length by omega)) (List.getElem?_eq_getElem hk2)
            omega
      have := aux i (by omega) hi
      rw [List.getElem?_eq_getElem hi] at hx
      injection hx with hx
      omega
    refine mod_gap hl0 (by omega) (by omega) ⟨-1, by simp; omega⟩
theorem round_fact {l s : Int} {zs : List Int} (h : circOk l s zs = true) : rtN l s zs * s = 10 * l * rtD l s zs := by
  have hcb := circOk_iff.1 h
  have hl0 := hcb.1.1
  have hs1 := hcb.2.1.1
  have e1 : rtN l s zs = 10 * l / gcdZ (10 * l) s := by simp [rtN, h]
  have e2 : rtD l s zs = s / gcdZ (10 * l) s := by simp [rtD, h]
  rw [e1, e2]
  have g0 : 0 < gcdZ (10 * l) s := gcdZ_pos (by omega)
  have d1 : gcdZ (10 * l) s ∣ 10 * l := by
    unfold gcdZ
    have := Int.natCast_dvd_natCast.2 (Nat.gcd_dvd_left (10 * l).toNat s.toNat)
    rwa [Int.toNat_of_nonneg (show 0 ≤ 10 * l by omega)] at this
  have d2 : gcdZ (10 * l) s ∣ s := by
    unfold gcdZ
    have := Int.natCast_dvd_natCast.2 (Nat.gcd_dvd_right (10 * l).toNat s.toNat)
    rwa [Int.toNat_of_nonneg (show 0 ≤ s by omega)] at this
  generalize gcdZ (10 * l) s = g at *
  obtain ⟨u, hu⟩ := d1
  obtain ⟨v, hv⟩ := d2
  rw [hu, hv, Int.mul_ediv_cancel_left _ (by omega), Int.mul_ediv_cancel_left _ (by omega)]
  rw [Int.mul_left_comm, Int.mul_assoc]
theorem round_bd {l s : Int} {zs : List Int} (h : circOk l s zs = true) : 0 ≤ rtN l s zs ∧ rtN l s zs ≤ 40000 ∧ 0 ≤ rtD l s zs ∧ rtD l s zs ≤ 100 := by
  have hcb := circOk_iff.1 h
  have hl0 := hcb.1.1
  have hl1 := hcb.1.2
  have hs1 := hcb.2.1.1
  have hs2 := hcb.2.1.2
  have e1 : rtN l s zs = 10 * l / gcdZ (10 * l) s := by simp [rtN, h]
  have e2 : rtD l s zs = s / gcdZ (10 * l) s := by simp [rtD, h]
  have g0 : 0 < gcdZ (10 * l) s := gcdZ_pos (by omega)
  rw [e1, e2]
  have a1 := Int.ediv_nonneg (a := 10 * l) (b := gcdZ (10 * l) s) (by omega) (by omega)
  have a2 := Int.ediv_nonneg (a := s) (b := gcdZ (10 * l) s) (by omega) (by omega)
  have a3 := Int.ediv_le_self (a := 10 * l) (gcdZ (10 * l) s) (by omega)
  have a4 := Int.ediv_le_self (a := s) (gcdZ (10 * l) s) (by omega)
  omega
theorem places_at {l s : Int} {zs : List Int} {time : Int} (h : plOk l s zs time = true) {i : Nat} {x : Int} (hx : (placesV l s zs time)[i]? = some x) : ∃ z, zs[i]? = some z ∧ x = plF l s time z ∧ 0 ≤ x ∧ x < 10 * l := by
  have e : placesV l s zs time = zs.map (plF l s time) := by simp [placesV, h]
  simp only [plOk, Bool.and_eq_true] at h
  have hl0 := (circOk_iff.1 h.1).1.1
  rw [e, List.getElem?_map] at hx
  rcases hz : zs[i]? with _ | z
  · rw [hz] at hx; simp at hx
  · rw [hz] at hx
    simp at hx
    refine ⟨z, rfl, hx.symm, ?_, ?_⟩
    · rw [← hx]; exact Int.emod_nonneg _ (by omega)
    · rw [← hx]; exact Int.emod_lt_of_pos _ (by omega)
/-- The law's sentence on the distances. -/
theorem way_fact {l s : Int} {zs : List Int} {time : Int} (h : plOk l s zs time = true) {i j M : Nat} (hM : zs.length = M) (hi : i < M) (hj : j = (i + 1) % M) {x y g : Int} (hx : (placesV l s zs time)[j]? = some x) (hy : (placesV l s zs time)[i]? = some y) (hg : (gapsV l s zs)[i]? = some g) :
    0 ≤ x ∧ x < 10 * l ∧ 0 ≤ y ∧ y < 10 * l ∧ (1 < M → (x - y + 10 * l).tmod (10 * l) = 10 * g) ∧ 10 ≤ l ∧ l ≤ 4000 ∧ -9000 ≤ g ∧ g ≤ 9000 := by
  obtain ⟨a, ha, ex, x0, x1⟩ := places_at h hx
  obtain ⟨b, hb, ey, y0, y1⟩ := places_at h hy
  simp only [plOk, Bool.and_eq_true] at h
  have hcb := circOk_iff.1 h.1
  have eg : gapsV l s zs = gapsL l zs := by simp [gapsV, h.1]
  have hgz : g = gapZ l zs i := by
    rw [eg] at hg
    simp only [gapsL] at hg
    rw [List.getElem?_map, List.getElem?_range (by omega)] at hg
    simp at hg
    exact hg.symm
  subst hM hj
  have bb : ∀ k : Nat, -1 ≤ zs.getD k 0 ∧ zs.getD k 0 ≤ 4000 := fun k => by
    rcases hz : zs[k]? with _ | z
    · simp [List.getD, hz]
    · have := circ_at h.1 hz
      simp [List.getD, hz]
      omega
  have gb : -9000 ≤ g ∧ g ≤ 9000 := by
    rw [hgz]
    unfold gapZ
    have b1 := bb i
    have b2 := bb (i + 1)
    have b3 := bb 0
    split <;> omega
  refine ⟨x0, x1, y0, y1, fun h1 => ?_, hcb.1.1, hcb.1.2, gb.1, gb.2⟩
  have := way_gap (time := time) h.1 h1 hi hb ha
  rw [← ex, ← ey] at this
  rw [Int.tmod_eq_emod_of_nonneg (by omega), this, hgz]
end Go.Proofs.Ytidjgbonlejhhaa
