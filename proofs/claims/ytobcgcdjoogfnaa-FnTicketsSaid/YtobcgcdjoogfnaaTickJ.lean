/- The tickets: a ticket is used, the reference's. -/
import Derived.Test.YtobcgcdjoogfnaaTickF
import Derived.Test.YtobcgcdjoogfnaaFlTicketC
import Derived.Test.YtobcgcdjoogfnaaIdxG
import Derived.Test.YtobcgcdjoogfnaaPut
namespace Go.Proofs.Ytobcgcdjoogfnaa
open Go.RowKit
set_option linter.unusedVariables false
set_option linter.unusedSimpArgs false

def canR (day : Int) (up : Bool) (r : List Int) : Bool := canT (fld r 1) (fld r 2) (fld r 3) (fld r 4) day up
def useR (up : Bool) (r : List Int) : List Int := if up then [fld r 0, fld r 1, fld r 2, fld r 3 + 1, fld r 4] else [fld r 0, fld r 1, fld r 2, fld r 3, fld r 4 + 1]
def atT (rows : List (List Int)) (number : Int) : Int := idxR (numP number) rows
def rowT (rows : List (List Int)) (number : Int) : List Int := rows.getD (atT rows number).toNat []
def useL (rows : List (List Int)) (number : Int) (up : Bool) : List (List Int) := rows.set (atT rows number).toNat (useR up (rowT rows number))
def useOk (rows : List (List Int)) (number day : Int) (up : Bool) : Bool := good rows && (inr day 0 999 && (decide (0 ≤ atT rows number) && canR day up (rowT rows number)))
def useV (rows : List (List Int)) (number day : Int) (up : Bool) : List (List Int) := if useOk rows number day up then useL rows number up else []
theorem useV_len {rows : List (List Int)} {number day : Int} {up : Bool} (h : rows.length ≤ 1048576) : (useV rows number day up).length ≤ 1048576 := by
  unfold useV useL; split <;> simp <;> omega
theorem atT_at (rows : List (List Int)) (number : Int) : atT rows number = -1 ∨ ∃ (j : Nat) (r : List Int), atT rows number = (j : Int) ∧ rows[j]? = some r ∧ rowT rows number = r := by
  rcases idxR_at (numP number) rows with h | ⟨j, r, h1, h2, _⟩
  · exact .inl h
  · refine .inr ⟨j, r, h1, h2, ?_⟩
    unfold rowT atT
    rw [h1]
    simp [List.getD, h2]
/-- What the reference's search asks of a row. -/
def useP (number day : Int) (up : Bool) (r : List Int) : Bool := numP number r && canR day up r
/-- The reference's search hits. -/
theorem use_hit {rows : List (List Int)} {number day : Int} {up : Bool} {k : Nat} {r : List Int} (hg : good rows = true) (hd : inr day 0 999 = true) (hr : rows[k]? = some r) (hi : idxR (useP number day up) rows = (k : Int)) :
    useOk rows number day up = true ∧ useV rows number day up = rows.set k (useR up r) := by
  rcases atT_at rows number with ha | ⟨j, r', ha, hr', hra⟩
  · have := idxR_and_none number (canR day up) ha
    rw [show idxR (fun r => numP number r && canR day up r) rows = idxR (useP number day up) rows from rfl, hi] at this
    omega
  · have := idxR_and (goodL_iff.1 hg).1 number (canR day up) ha hr'
    rw [show idxR (fun r => numP number r && canR day up r) rows = idxR (useP number day up) rows from rfl, hi] at this
    split at this
    · rename_i hc
      obtain rfl : k = j := by omega
      rw [hr] at hr'
      injection hr' with hr'
      subst hr'
      have hok : useOk rows number day up = true := by unfold useOk; rw [hg, hd, hra, ha, hc]; simp
      refine ⟨hok, ?_⟩
      unfold useV useL
      rw [hok, hra, ha]
      simp
    · omega
/-- It misses. -/
theorem use_miss {rows : List (List Int)} {number day : Int} {up : Bool} (hg : good rows = true) (hi : idxR (useP number day up) rows = -1) :
    useOk rows number day up = false ∧ useV rows number day up = [] := by
  have hok : useOk rows number day up = false := by
    rcases atT_at rows number with ha | ⟨j, r', ha, hr', hra⟩
    · unfold useOk; rw [ha]; simp
    · have := idxR_and (goodL_iff.1 hg).1 number (canR day up) ha hr'
      rw [show idxR (fun r => numP number r && canR day up r) rows = idxR (useP number day up) rows from rfl, hi] at this
      split at this
      · omega
      · rename_i hc
        unfold useOk
        rw [hra]
        simp at hc
        simp [hc]
  exact ⟨hok, by unfold useV; rw [hok]; rfl⟩
theorem RetRB.lit {w : World} {e : TypeId} {F : Nat} {w0 : World} (h : Below w0.heap.size w0 w) : RetRB w0 e F [] false (.returned (.tuple #[.slice (some ⟨w.heap.size, 0, none⟩) 0 0, .bool false])) (w.alloc (.cells #[] e)) :=
  ⟨_, _, rfl, OwR.lit0 _ _ _ _ h.size, h.alloc h.size _⟩
theorem RetRB.nil {w w' : World} {e : TypeId} {F : Nat} (h : Below w.heap.size w w') : RetRB w e F [] false (.returned (.tuple #[.slice none 0 0, .bool false])) w' := ⟨none, 0, rfl, OwR.nil _ _ _ _, h⟩
theorem lt_alloc {w : World} {n : Nat} (h : n < w.heap.size) (o : Obj) : n < (w.alloc o).heap.size := by simp; omega
theorem new_alloc (w : World) (o : Obj) : w.heap.size < (w.alloc o).heap.size := by simp
theorem goodT {rows : List (List Int)} (h : good rows = true) {k : Nat} {x0 x1 x2 x3 x4 : Int} (hr : rows[k]? = some [x0, x1, x2, x3, x4]) : tickR x0 x1 x2 x3 x4 = true := tickR_iff.2 (goodR h hr).1
set_option maxRecDepth 100000 in
set_option maxHeartbeats 4000000 in
theorem spec_UseTicket (A : Option Addr) (n c : Nat) (rows : List (List Int)) (number day : Int) (up : Bool) (w : World) (h : RdR w 5 A n rows) (hm : n ≤ 1048577) :
    Calls Try.prog 43 #[.slice A n c, .int .i64 number, .int .i64 day, .bool up] w (RetRB w 25 5 (useV rows number day up) (useOk rows number day up)) := by
  obtain rfl : rows.length = n := h.2.2
  have cg := fun w' (h' : RdR w' 5 A rows.length rows) => spec_l11Good A rows.length c rows w' h' hm
  generalize hV : useV rows number day up = V
  generalize hO : useOk rows number day up = O
  have HV := Lib.hid hV
  have HO := Lib.hid hO
  clear hV hO
  rcases hg : good rows with _ | _
  · obtain rfl : V = [] := by rw [← HV.out]; simp [useV, useOk, hg]
    obtain rfl : O = false := by rw [← HO.out]; simp [useOk, hg]
    rw [hg] at cg
    have CG := Lib.hid cg
    clear cg hg HV HO
    go_enter Try.func43, Try.ntmps43
    go_wp2_with (go_at_call 69; refine (CG.out _ h).mono ?_; rintro e w' ⟨rfl, hb⟩; have hB : Below w.heap.size w w' := Below.thenn (by repeat (first | exact Below.refl _ _ | assumption | apply Below.drew | apply below_drewN | (refine Below.alloc ?_ (by first | omega | (simp; done) | (simp; omega)) _) | (refine Below.setCell ?_ (by first | omega | (simp; done) | (simp; omega)) _))) hb (by first | omega | (simp; done) | (simp; omega)); have hz : w.heap.size ≤ w'.heap.size := hB.size; (try (have hz1 : w.heap.size + 1 ≤ w'.heap.size := (by have h := hb.size; (try simp at h); omega))); obtain ⟨hc, hf⟩ := bcell hb; clear hb)
    go_ret2
    exact RetRB.lit hB
  rw [hg] at cg
  have CG := Lib.hid cg
  rcases hd : inr day 0 999 with _ | _
  · obtain rfl : V = [] := by rw [← HV.out]; simp [useV, useOk, hd]
    obtain rfl : O = false := by rw [← HO.out]; simp [useOk, hd]
    clear cg hg HV HO
    go_enter Try.func43, Try.ntmps43
    go_wp2_with (first | (go_at_call 69; refine (CG.out _ h).mono ?_; rintro e w' ⟨rfl, hb⟩; have hB : Below w.heap.size w w' := Below.thenn (by repeat (first | exact Below.refl _ _ | assumption | apply Below.drew | apply below_drewN | (refine Below.alloc ?_ (by first | omega | (simp; done) | (simp; omega)) _) | (refine Below.setCell ?_ (by first | omega | (simp; done) | (simp; omega)) _))) hb (by first | omega | (simp; done) | (simp; omega)); have hz : w.heap.size ≤ w'.heap.size := hB.size; (try (have hz1 : w.heap.size + 1 ≤ w'.heap.size := (by have h := hb.size; (try simp at h); omega))); obtain ⟨hc, hf⟩ := bcell hb; clear hb) | (go_at_call 60; refine (spec_l11Day _ _).mono ?_; rintro e w' ⟨rfl, rfl⟩))
    go_ret2
    exact RetRB.lit hB
  have HG := Lib.hid hg
  have HD := Lib.hid hd
  have cd := fun w' => spec_l11Day day w'
  rw [hd] at cd
  have CD := Lib.hid cd
  clear cg hg hd cd
  go_enter Try.func43, Try.ntmps43
  go_wp2_with (first | (go_at_call 69; refine (CG.out _ h).mono ?_; rintro e w' ⟨rfl, hb⟩; have hB : Below w.heap.size w w' := Below.thenn (by repeat (first | exact Below.refl _ _ | assumption | apply Below.drew | apply below_drewN | (refine Below.alloc ?_ (by first | omega | (simp; done) | (simp; omega)) _) | (refine Below.setCell ?_ (by first | omega | (simp; done) | (simp; omega)) _))) hb (by first | omega | (simp; done) | (simp; omega)); have hz : w.heap.size ≤ w'.heap.size := hB.size; (try (have hz1 : w.heap.size + 1 ≤ w'.heap.size := (by have h := hb.size; (try simp at h); omega))); obtain ⟨hc, hf⟩ := bcell hb; clear hb) | (go_at_call 60; refine (CD.out _).mono ?_; rintro e w' ⟨rfl, rfl⟩) | (at_builtin; refine wp_app_TicketS rfl (.tmp 22) (.tmp 23) rfl (w'.alloc (.cells #[] 25)) w'.heap.size (.slice (some ⟨w'.heap.size, 0, none⟩) 0 0) [] rfl (OwR.lit0 w' w'.heap.size _ _ (Nat.le_refl _)) A rows.length c rows rfl (h.below (hB.alloc hz _)) (by simp; omega) (by simp) ?_; intro A1 c1 w1 ho1 hb1; rw [List.nil_append] at ho1; have hB1 : Below w.heap.size w w1 := Below.thenn hB (((Below.refl _ _).alloc (Nat.le_refl _) _).trans hb1) hz; have hz1 : w.heap.size ≤ w1.heap.size := hB1.size; have HO1 := Lib.hid (OwR.base (B' := w.heap.size) ho1 hz); clear ho1 hb1 hc hf))
  go_loopg [11] rows.length (fun gg i wr => ∃ (k : Nat), k ≤ rows.length ∧ rows.length ≤ k + gg ∧ i = .int .i64 k ∧ Below w.heap.size w wr ∧ w.heap.size ≤ wr.heap.size ∧ Hid (OwR wr w.heap.size 25 5 (.slice A1 rows.length c1) rows) ∧ Hid (idxF (useP number day up) k (rows.drop k) = idxR (useP number day up) rows))
  case atStart => exact ⟨0, by omega, by omega, rfl, hB1, hz1, HO1.out, rfl⟩
  case round =>
    clear hB1 hz1 HO1 hB hz
    obtain ⟨k, hk1, hk2, rfl, hBr, hzr, ho, ha⟩ := hrel
    by_cases hlt : k < rows.length
    · obtain ⟨b', off', x0, x1, x2, x3, x4, hAe, hr, _⟩ := h.row5 hlt
      clear hAe
      obtain ⟨g, rfl, hgB, hgl, ⟨c0, c1', c2, c3, c4⟩, hfs⟩ := ho.out.cells5 hr
      have HR := Lib.hid hr
      have HH := Lib.hid h
      have HT := Lib.hid (goodT HG.out hr)
      have hgx := (goodR HG.out hr).1
      have x30 : 0 ≤ x3 := by omega
      have x31 : x3 ≤ 50 := by omega
      have x40 : 0 ≤ x4 := by omega
      have x41 : x4 ≤ 50 := by omega
      have CC := Lib.hid (fun w => spec_l11Can x0 x1 x2 x3 x4 day up w HT.out)
      clear hr h hgx
      by_cases hq : x0 = number
      · have hne : (x0 != number) = false := by simp [hq]
        have HQ : Hid (∀ z, canT x1 x2 x3 x4 day up = z → useP number day up [x0, x1, x2, x3, x4] = z) := fun z hz => by unfold useP; simp [numP, fld, hq, canR, hz]
        generalize canT x1 x2 x3 x4 day up = z at CC HQ
        clear hq
        rcases z with _ | _
        · have HP := Lib.hid (HQ.out false rfl)
          clear HQ
          go_wp2_with (go_at_call 63; refine (CC.out _).mono ?_; rintro e w' ⟨rfl, hb⟩; have hB : Below w.heap.size w w' := Below.thenn (by repeat (first | exact Below.refl _ _ | assumption | apply Below.drew | apply below_drewN | (refine Below.alloc ?_ (by first | omega | (simp; done) | (simp; omega)) _) | (refine Below.setCell ?_ (by first | omega | (simp; done) | (simp; omega)) _))) hb (by first | omega | (simp; done) | (simp; omega)); have hz : w.heap.size ≤ w'.heap.size := hB.size; (try (have hz1 : w.heap.size + 1 ≤ w'.heap.size := (by have h := hb.size; (try simp at h); omega))); obtain ⟨hc, hf⟩ := bcell hb; have HO2 := Lib.hid ((ho.out.alloc _).below hb); clear hb)
          go_roundg (rows.length - (k + 1))
          case measure => omega
          case rel => exact ⟨k + 1, by omega, by omega, by go_num, hB, hz, HO2.out, (idxF_no HR.out HP.out).symm.trans ha.out⟩
        · have HP := Lib.hid (HQ.out true rfl)
          obtain ⟨e1, e2⟩ := use_hit HG.out HD.out HR.out (by rw [← ha.out, idxF_yes HR.out HP.out])
          rw [HO.out] at e1
          subst e1
          rw [HV.out] at e2
          subst e2
          clear HQ
          rcases up with _ | _
          · rw [show useR false [x0, x1, x2, x3, x4] = [x0, x1, x2, x3, x4 + 1] by simp [useR, fld]]
            go_wp2_with (go_at_call 63; refine (CC.out _).mono ?_; rintro e w' ⟨rfl, hb⟩; have hB : Below w.heap.size w w' := Below.thenn (by repeat (first | exact Below.refl _ _ | assumption | apply Below.drew | apply below_drewN | (refine Below.alloc ?_ (by first | omega | (simp; done) | (simp; omega)) _) | (refine Below.setCell ?_ (by first | omega | (simp; done) | (simp; omega)) _))) hb (by first | omega | (simp; done) | (simp; omega)); have hz : w.heap.size ≤ w'.heap.size := hB.size; (try (have hz1 : w.heap.size + 1 ≤ w'.heap.size := (by have h := hb.size; (try simp at h); omega))); obtain ⟨hc, hf⟩ := bcell hb; have HO2 := Lib.hid ((ho.out.alloc _).below hb); have hgl2 := Nat.lt_of_lt_of_le (lt_alloc hgl _) hb.size; have hbx := Nat.lt_of_lt_of_le (new_alloc wr _) hb.size; have hgx : wr.heap.size ≠ g := (by omega); have hfb := hf wr.heap.size 4 (new_alloc wr _); clear hb)
            go_ret2
            exact ⟨_, c1, ret_ssb (by simp), OwR.cast_ ((HO2.out.far (p := ⟨wr.heap.size, 4, none⟩) hgx _).put5 rfl HR.out) (by simp), Below.put5 (hB.setCell (p := ⟨wr.heap.size, 4, none⟩) hzr _) hgB _ _ _ _ _⟩
          · rw [show useR true [x0, x1, x2, x3, x4] = [x0, x1, x2, x3 + 1, x4] by simp [useR, fld]]
            go_wp2_with (go_at_call 63; refine (CC.out _).mono ?_; rintro e w' ⟨rfl, hb⟩; have hB : Below w.heap.size w w' := Below.thenn (by repeat (first | exact Below.refl _ _ | assumption | apply Below.drew | apply below_drewN | (refine Below.alloc ?_ (by first | omega | (simp; done) | (simp; omega)) _) | (refine Below.setCell ?_ (by first | omega | (simp; done) | (simp; omega)) _))) hb (by first | omega | (simp; done) | (simp; omega)); have hz : w.heap.size ≤ w'.heap.size := hB.size; (try (have hz1 : w.heap.size + 1 ≤ w'.heap.size := (by have h := hb.size; (try simp at h); omega))); obtain ⟨hc, hf⟩ := bcell hb; have HO2 := Lib.hid ((ho.out.alloc _).below hb); have hgl2 := Nat.lt_of_lt_of_le (lt_alloc hgl _) hb.size; have hbx := Nat.lt_of_lt_of_le (new_alloc wr _) hb.size; have hgx : wr.heap.size ≠ g := (by omega); have hfb := hf wr.heap.size 3 (new_alloc wr _); clear hb)
            go_ret2
            exact ⟨_, c1, ret_ssb (by simp), OwR.cast_ ((HO2.out.far (p := ⟨wr.heap.size, 3, none⟩) hgx _).put5 rfl HR.out) (by simp), Below.put5 (hB.setCell (p := ⟨wr.heap.size, 3, none⟩) hzr _) hgB _ _ _ _ _⟩
      · have HP : Hid (useP number day up [x0, x1, x2, x3, x4] = false) := (show _ = _ by simp [useP, numP, fld, hq])
        have hne : (x0 != number) = true := by simp [hq]
        clear hq
        go_wp2_with fail
        go_roundg (rows.length - (k + 1))
        case measure => omega
        case rel => exact ⟨k + 1, by omega, by omega, by go_num, hBr.alloc hzr _, by simp; omega, ho.out.alloc _, (idxF_no HR.out HP.out).symm.trans ha.out⟩
    · obtain ⟨e1, e2⟩ := use_miss HG.out (by rw [← ha.out, idxF_end (n := rows.length) rfl (by omega)])
      rw [HO.out] at e1
      subst e1
      rw [HV.out] at e2
      subst e2
      go_wp2_with fail
      go_ret2
      exact RetRB.lit hBr
end Go.Proofs.Ytobcgcdjoogfnaa
