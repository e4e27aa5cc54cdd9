/- What the law says of tickets: plain. -/
import Derived.Test.YtobcgcdjoogfnaaTickJ
import Derived.Test.YtobcgcdjoogfnaaTickH
import Derived.Test.YtobcgcdjoogfnaaTickI
namespace Go.Proofs.Ytobcgcdjoogfnaa
open Go.RowKit
set_option linter.unusedVariables false
set_option linter.unusedSimpArgs false

theorem goodF_mono {ok : List Int → Bool} : ∀ {rows : List (List Int)} {p : Int}, goodF ok p rows = true → ∀ {j k : Nat} {r s : List Int}, rows[j]? = some r → rows[k]? = some s → j < k → fld r 0 < fld s 0
  | [], _, _, _, _, _, _, h, _, _ => by simp at h
  | r0 :: rs, p, hg, 0, 0, _, _, _, _, h => by omega
  | r0 :: rs, p, hg, 0, k + 1, r, s, hr, hs, _ => by
    simp only [goodF, Bool.and_eq_true, decide_eq_true_eq] at hg
    simp at hr
    subst hr
    exact (goodF_at hg.2.2 (k := k) (by simpa using hs)).2
  | r0 :: rs, p, hg, j + 1, 0, _, _, _, _, h => by omega
  | r0 :: rs, p, hg, j + 1, k + 1, r, s, hr, hs, h => by
    simp only [goodF, Bool.and_eq_true, decide_eq_true_eq] at hg
    exact goodF_mono hg.2.2 (j := j) (k := k) (by simpa using hr) (by simpa using hs) (by omega)
theorem good_inj {ok : List Int → Bool} {m : Nat} {rows : List (List Int)} (hg : goodL ok m rows = true) {j k : Nat} {r s : List Int} (hr : rows[j]? = some r) (hs : rows[k]? = some s) (h : fld r 0 = fld s 0) : j = k := by
  rcases Nat.lt_trichotomy j k with h1 | h1 | h1
  · have := goodF_mono (goodL_iff.1 hg).1 hr hs h1; omega
  · exact h1
  · have := goodF_mono (goodL_iff.1 hg).1 hs hr h1; omega
theorem use_num (up : Bool) (r : List Int) : fld (useR up r) 0 = fld r 0 := by unfold useR; split <;> rfl
/-- A ticket that is used has a ride less. -/
theorem use_at {rows : List (List Int)} {number day : Int} {up : Bool} (he : Even 5 rows) (h : useOk rows number day up = true) {i : Nat} {u : List Int} (hu : (useV rows number day up)[i]? = some u) (hn : fld u 0 = number) :
    ∃ n k dy x y x' y', rows[i]? = some [n, k, dy, x, y] ∧ u = [n, k, dy, x', y'] ∧ crOk n k dy x y day = true ∧ crOk n k dy x' y' day = true ∧ crV n k dy x y day up = true ∧
      (up = true → rlU n k dy x' y' day = rlU n k dy x y day - 1) ∧ (up = false → rlD n k dy x' y' day = rlD n k dy x y day - 1) ∧ -100 ≤ rlU n k dy x y day ∧ rlU n k dy x y day ≤ 100 ∧ -100 ≤ rlD n k dy x y day ∧ rlD n k dy x y day ≤ 100 := by
  have hV : useV rows number day up = useL rows number up := by simp [useV, h]
  rw [hV] at hu
  simp only [useOk, Bool.and_eq_true, decide_eq_true_eq] at h
  obtain ⟨hg, hd, ha, hc⟩ := h
  rcases idxR_at (numP number) rows with h0 | ⟨j, r, h1, h2, h3⟩
  · have : atT rows number = -1 := h0
    omega
  have hat : atT rows number = (j : Int) := h1
  have hrow : rowT rows number = r := by unfold rowT; rw [hat]; simp [List.getD, h2]
  rw [hrow] at hc
  have hrn : fld r 0 = number := by simpa [numP] using h3
  unfold useL at hu
  rw [hat, hrow] at hu
  simp only [Int.toNat_natCast] at hu
  have hij : i = j := by
    by_cases e : i = j
    · exact e
    · rw [List.getElem?_set_ne (Ne.symm e)] at hu
      exact good_inj hg hu h2 (by rw [hn, hrn])
  subst hij
  have hlt := lt_of_at h2
  rw [List.getElem?_set_self hlt] at hu
  injection hu with hu
  obtain ⟨n, k, dy, x, y, rfl⟩ := len5 (he r (List.mem_of_getElem? h2))
  have hok := goodR hg h2
  have hok' : tickOk n k dy x y = true := tickOk_iff.2 hok
  obtain ⟨⟨a1, a2, a3, a4, a5, a6, a7, a8, a9, a10⟩, b1, b2⟩ := hok
  have hcr : crOk n k dy x y day = true := by unfold crOk; rw [hok', hd]; rfl
  have hct : canT k dy x y day up = true := hc
  have hop : openOn k dy day = true := by unfold canT at hct; simp only [Bool.and_eq_true] at hct; exact hct.1
  have eU : ∀ x y, crOk n k dy x y day = true → rlU n k dy x y day = kU k x y := fun x y hh => by unfold rlU ridU; rw [hh, hop]; simp
  have eD : ∀ x y, crOk n k dy x y day = true → rlD n k dy x y day = kD k x y := fun x y hh => by unfold rlD ridD; rw [hh, hop]; simp
  have bU : -100 ≤ kU k x y ∧ kU k x y ≤ 100 := by unfold kU; split <;> (try split) <;> (try split) <;> omega
  have bD : -100 ≤ kD k x y ∧ kD k x y ≤ 100 := by unfold kD; split <;> (try split) <;> (try split) <;> omega
  have hcv : crV n k dy x y day up = true := by unfold crV; rw [hcr, hct]; rfl
  rcases up with _ | _
  · have hkd : 0 < kD k x y := by unfold canT at hct; simp only [Bool.and_eq_true] at hct; simpa using hct.2
    have hT : tickOk n k dy x (y + 1) = true := by
      refine tickOk_iff.2 ⟨⟨a1, a2, a3, a4, a5, a6, a7, a8, by omega, ?_⟩, ?_, ?_⟩ <;> (unfold kU at *; unfold kD at *; (repeat' split at hkd) <;> simp_all <;> omega)
    have hcr2 : crOk n k dy x (y + 1) day = true := by unfold crOk; rw [hT, hd]; rfl
    refine ⟨n, k, dy, x, y, x, y + 1, h2, by rw [← hu]; rfl, hcr, hcr2, hcv, (fun e => by cases e), fun _ => ?_, ?_⟩
    · rw [eD _ _ hcr, eD _ _ hcr2]
      unfold kD at *
      (repeat' split) <;> omega
    · rw [eU _ _ hcr, eD _ _ hcr]; exact ⟨bU.1, bU.2, bD.1, bD.2⟩
  · have hkd : 0 < kU k x y := by unfold canT at hct; simp only [Bool.and_eq_true] at hct; simpa using hct.2
    have hT : tickOk n k dy (x + 1) y = true := by
      refine tickOk_iff.2 ⟨⟨a1, a2, a3, a4, a5, a6, by omega, ?_, a9, a10⟩, ?_, ?_⟩ <;> (unfold kU at *; unfold kD at *; (repeat' split at hkd) <;> simp_all <;> omega)
    have hcr2 : crOk n k dy (x + 1) y day = true := by unfold crOk; rw [hT, hd]; rfl
    refine ⟨n, k, dy, x, y, x + 1, y, h2, by rw [← hu]; rfl, hcr, hcr2, hcv, fun _ => ?_, (fun e => by cases e), ?_⟩
    · rw [eU _ _ hcr, eU _ _ hcr2]
      unfold kU at *
      (repeat' split) <;> omega
    · rw [eU _ _ hcr, eD _ _ hcr]; exact ⟨bU.1, bU.2, bD.1, bD.2⟩
theorem exp_mem {rows : List (List Int)} {day x : Int} (h : x ∈ expL rows day) : ∃ (j : Nat) (r : List Int), rows[j]? = some r ∧ fld r 0 = x ∧ expB day r = true := by
  unfold expL at h
  obtain ⟨r, hr, e⟩ := List.mem_map.1 h
  obtain ⟨hm, hb⟩ := List.mem_filter.1 hr
  obtain ⟨j, hj⟩ := List.mem_iff_getElem?.1 hm
  exact ⟨j, r, hj, e, hb⟩
/-- A ticket that is sold can be used at once, and has not expired. -/
theorem sell_facts {rows : List (List Int)} {kind on : Int} (h : sellOk rows kind on = true) :
    useOk (sellV rows kind on) (sellZ rows kind on) on true = true ∧ expOk (sellV rows kind on) on = true ∧ sellZ rows kind on ∉ expV (sellV rows kind on) on ∧ good (sellV rows kind on) = true := by
  have e1 : sellV rows kind on = sellL rows kind on := by simp [sellV, h]
  have e2 : sellZ rows kind on = sellN rows := by simp [sellZ, h]
  rw [e1, e2]
  simp only [sellOk, Bool.and_eq_true] at h
  obtain ⟨hg0, hg⟩ := h
  have hlast : (sellL rows kind on)[rows.length]? = some [sellN rows, kind, on, 0, 0] := by simp [sellL]
  have hok := goodR hg hlast
  obtain ⟨⟨a1, a2, a3, a4, a5, a6, a7, a8, a9, a10⟩, b1, b2⟩ := hok
  have hd : inr on 0 999 = true := by simp [inr]; omega
  have hex : expOk (sellL rows kind on) on = true := by unfold expOk; rw [hg, hd]; rfl
  refine ⟨?_, hex, ?_, hg⟩
  · rcases atT_at (sellL rows kind on) (sellN rows) with ha | ⟨j, r, ha, hr, hra⟩
    · exfalso
      have := idx_any (numP (sellN rows)) (sellL rows kind on)
      rw [show idxR (numP (sellN rows)) (sellL rows kind on) = -1 from ha] at this
      have h2 : (sellL rows kind on).any (numP (sellN rows)) = true := List.any_eq_true.2 ⟨_, List.mem_of_getElem? hlast, by simp [numP, fld]⟩
      rw [h2] at this
      simp at this
    · have hj : j = rows.length := by
        rcases idxR_at (numP (sellN rows)) (sellL rows kind on) with h0 | ⟨j', r', h1, h2, h3⟩
        · have : atT (sellL rows kind on) (sellN rows) = -1 := h0
          omega
        · have h4 : atT (sellL rows kind on) (sellN rows) = (j' : Int) := h1
          have h5 : j' = j := by omega
          subst h5
          rw [h2] at hr
          injection hr with hr
          subst hr
          exact good_inj hg h2 hlast (by simpa [numP, fld] using h3)
      subst hj
      rw [hlast] at hr
      injection hr with hr
      have hcan : canR on true (rowT (sellL rows kind on) (sellN rows)) = true := by
        rw [hra, ← hr]
        have e0 : canR on true [sellN rows, kind, on, 0, 0] = canT kind on 0 0 on true := rfl
        rw [e0]
        unfold canT openOn
        have := lastD_bd kind on
        simp only [Bool.and_eq_true, decide_eq_true_eq]
        refine ⟨⟨by omega, by omega⟩, ?_⟩
        unfold kU
        simp
        (repeat' split) <;> omega
      unfold useOk
      rw [hg, hd, ha, hcan]
      simp
  · have e3 : expV (sellL rows kind on) on = expL (sellL rows kind on) on := by simp [expV, hex]
    rw [e3]
    intro hm
    obtain ⟨j, r, hr, hn, hb⟩ := exp_mem hm
    have hj := good_inj hg hr hlast (by simpa [fld] using hn)
    subst hj
    rw [hlast] at hr
    injection hr with hr
    subst hr
    have e0 : expB on [sellN rows, kind, on, 0, 0] = decide (lastD kind on < on) := rfl
    rw [e0] at hb
    have := lastD_bd kind on
    simp at hb
    omega
/-- A ticket that has expired has no rides left. -/
theorem exp_facts {rows : List (List Int)} {day : Int} (h : expOk rows day = true) {i : Nat} {n k dy x y : Int} (hr : rows[i]? = some [n, k, dy, x, y]) :
    crOk n k dy x y day = true ∧ (n ∈ expV rows day → ¬ 0 < rlU n k dy x y day + rlD n k dy x y day) ∧ -100 ≤ rlU n k dy x y day ∧ rlU n k dy x y day ≤ 100 ∧ -100 ≤ rlD n k dy x y day ∧ rlD n k dy x y day ≤ 100 := by
  have e1 : expV rows day = expL rows day := by simp [expV, h]
  rw [e1]
  simp only [expOk, Bool.and_eq_true] at h
  have hok := goodR h.1 hr
  have hok' : tickOk n k dy x y = true := tickOk_iff.2 hok
  have hcr : crOk n k dy x y day = true := by unfold crOk; rw [hok', h.2]; rfl
  obtain ⟨⟨a1, a2, a3, a4, a5, a6, a7, a8, a9, a10⟩, b1, b2⟩ := hok
  refine ⟨hcr, fun hm => ?_, ?_⟩
  · obtain ⟨j, r, hj, hn, hb⟩ := exp_mem hm
    have := good_inj h.1 hj hr (by simpa [fld] using hn)
    subst this
    rw [hr] at hj
    injection hj with hj
    subst hj
    have e0 : expB day [n, k, dy, x, y] = decide (lastD k dy < day) := rfl
    rw [e0] at hb
    simp at hb
    have ho : openOn k dy day = false := by unfold openOn; simp; omega
    unfold rlU rlD ridU ridD
    rw [hcr, ho]
    simp
  · unfold rlU rlD ridU ridD
    rw [hcr]
    simp only [if_true]
    unfold kU kD
    (repeat' split) <;> omega
end Go.Proofs.Ytobcgcdjoogfnaa
