/- Two profiles joined. -/
import Derived.Test.YthhameglamemkaaSpeedD
import Derived.Deep.RegionWith
import Derived.Deep.RegionLaw
import Derived.Test.YthhameglamemkaaConcat
namespace Go.Proofs.Ythhameglamemkaa
open Go.RowKit
set_option linter.unusedVariables false
set_option linter.unusedSimpArgs false

/-! ### Two profiles joined: the reference -/
def joinOk (xs ys : List Int) : Bool := prof xs && (prof ys && (decide (xs.getLast? = ys.head?) && decide (xs.length + ys.length ≤ 31)))
def joinR (xs ys : List Int) : List Int := if joinOk xs ys then xs ++ ys.drop 1 else []
theorem joinR_len (xs ys : List Int) : (joinR xs ys).length ≤ 1048576 := by
  unfold joinR
  split
  · rename_i h
    simp only [joinOk, Bool.and_eq_true, decide_eq_true_eq] at h
    have h1 := prof_len h.1
    have h2 := prof_len h.2.1
    simp; omega
  · simp
theorem last_of {xs : List Int} {x : Int} {n : Nat} (hn : xs.length = n) (h : xs[n - 1]? = some x) : xs.getLast? = some x := by
  rw [List.getLast?_eq_getElem?, hn]; exact h
theorem head_of {xs : List Int} {x : Int} (h : xs[0]? = some x) : xs.head? = some x := by rw [List.head?_eq_getElem?]; exact h
set_option maxHeartbeats 2000000 in
theorem spec_JoinProfiles (A A' : Option Addr) (n c n' c' : Nat) (xs ys : List Int) (w : World) (h : Rd w 1 A n (IV xs)) (h' : Rd w 1 A' n' (IV ys)) (hm : n ≤ 1048576) (hm' : n' ≤ 1048576) (hc' : n' ≤ c') (hcm : c' ≤ 9223372036854775807) :
    Calls Try.prog 30 #[.slice A n c, .slice A' n' c'] w (RetSB w (joinR xs ys) (joinOk xs ys)) := by
  have hl := Lib.hid h.len
  have hl' := Lib.hid h'.len
  have hm1 : n ≤ 9223372036854775807 := by omega
  have hm1' : n' ≤ 9223372036854775807 := by omega
  rcases hp : prof xs with _ | _
  · have eO : joinOk xs ys = false := by simp [joinOk, hp]
    have eR : joinR xs ys = [] := by simp [joinR, eO]
    rw [eO, eR]
    clear eO eR
    go_enter Try.func30, Try.ntmps30
    go_wp2_with fail
    go_quiet ((go_at_call 46; first | exact quiet_left (spec_l9Good _ _ _ xs _ (h.drewN _) hm1) | exact quiet_add_left (spec_l9Good _ _ _ xs _ (h.drewN _) hm1) | exact quiet_left (spec_l9Good _ _ _ ys _ (h'.drewN _) hm1') | exact quiet_add_left (spec_l9Good _ _ _ ys _ (h'.drewN _) hm1')))
    go_wp2_with fail
    go_ret2
    exact RetSB.lit' (below_n _ _)
  · rcases hp' : prof ys with _ | _
    · have eO : joinOk xs ys = false := by simp [joinOk, hp, hp']
      have eR : joinR xs ys = [] := by simp [joinR, eO]
      rw [eO, eR]
      clear eO eR
      go_enter Try.func30, Try.ntmps30
      go_wp2_with fail
      go_quiet ((go_at_call 46; first | exact quiet_left (spec_l9Good _ _ _ xs _ (h.drewN _) hm1) | exact quiet_add_left (spec_l9Good _ _ _ xs _ (h.drewN _) hm1) | exact quiet_left (spec_l9Good _ _ _ ys _ (h'.drewN _) hm1') | exact quiet_add_left (spec_l9Good _ _ _ ys _ (h'.drewN _) hm1')))
      go_wp2_with fail
      go_ret2
      exact RetSB.lit' (below_n _ _)
    · have hpl := prof_len hp
      have hpl' := prof_len hp'
      rw [h.len] at hpl
      rw [h'.len] at hpl'
      obtain ⟨b, off, x, rfl, hx, hc⟩ := h.at1 (k := n - 1) (by omega)
      obtain ⟨b', off', y, rfl, hy, hcy⟩ := h'.at1 (k := 0) (by omega)
      simp only [Nat.add_zero] at hcy
      have hj1 : joinOk xs ys = (decide (x = y) && decide (n + n' ≤ 31)) := by
        simp only [joinOk, hp, hp', last_of hl.out hx, head_of hy, Bool.true_and, hl.out, hl'.out]
        simp
      have HJ := Lib.hid hj1
      have w1' : IntKind.i64.wrap (↑n - 1) = ↑n - 1 := IntWalk.i64_in _ (by omega)
      have w2' : (0 : Int) ≤ ↑n - 1 := by omega
      have w3 : ((n : Int) - 1).toNat = n - 1 := by omega
      have w6 : (n : Int) - 1 < n := by omega
      have w7 : (0 : Int) < n' := by omega
      have w8 : IntKind.i64.wrap (↑n + ↑n') = ↑n + ↑n' := IntWalk.i64_in _ (by omega)
      have w9 : IntKind.i64.wrap (↑n + ↑n' - 1) = ↑n + ↑n' - 1 := IntWalk.i64_in _ (by omega)
      clear hx hy hj1
      rcases Decidable.em (x = y) with rfl | hne
      · by_cases h31 : (30 : Int) < ↑n + ↑n' - 1
        · have eO : joinOk xs ys = false := by rw [HJ.out]; simp; omega
          have eR : joinR xs ys = [] := by simp [joinR, eO]
          rw [eO, eR]
          clear eO eR
          have h31' : decide ((30 : Int) < ↑n + ↑n' - 1) = true := by simpa using h31
          go_enter Try.func30, Try.ntmps30
          go_wp2_with fail
          go_quiet ((go_at_call 46; first | exact quiet_left (spec_l9Good _ _ _ xs _ (h.drewN _) hm1) | exact quiet_add_left (spec_l9Good _ _ _ xs _ (h.drewN _) hm1) | exact quiet_left (spec_l9Good _ _ _ ys _ (h'.drewN _) hm1') | exact quiet_add_left (spec_l9Good _ _ _ ys _ (h'.drewN _) hm1')))
          go_wp2_with fail
          go_ret2
          exact RetSB.lit' (below_n _ _)
        · have eO : joinOk xs ys = true := by rw [HJ.out]; simp; omega
          obtain ⟨R, hR⟩ : ∃ R, R = xs ++ ys.drop 1 := ⟨_, rfl⟩
          have eR : joinR xs ys = R := by rw [hR]; simp [joinR, eO]
          rw [eO, eR]
          have HR := Lib.hid hR
          clear eO eR hR
          have h31' : decide ((30 : Int) < ↑n + ↑n' - 1) = false := by simpa using h31
          go_enter Try.func30, Try.ntmps30
          go_wp2_with fail
          go_quiet ((go_at_call 46; first | exact quiet_left (spec_l9Good _ _ _ xs _ (h.drewN _) hm1) | exact quiet_add_left (spec_l9Good _ _ _ xs _ (h.drewN _) hm1) | exact quiet_left (spec_l9Good _ _ _ ys _ (h'.drewN _) hm1') | exact quiet_add_left (spec_l9Good _ _ _ ys _ (h'.drewN _) hm1')))
          go_wp2_with fail
          have hcut := h'.cut (k := 1) (cap := c') (by omega) hc'
          simp only [Nat.one_mul] at hcut
          have hn1 : xs.length ≤ 1048576 := by rw [hl.out]; exact hm
          have hn2 : ys.length ≤ 1048576 := by rw [hl'.out]; exact hm'
          have HCUT := Lib.hid hcut
          clear hcut
          by_cases hc1 : c' = 1
          · have hcut := HCUT.out
            rw [if_pos hc1, ← List.map_drop] at hcut
            subst hc1
            obtain rfl : n' = 1 := by omega
            go_region_law (first | (go_simp; go_at_call 58; refine (spec_l1Own _ _ _ xs _ (h.drewN _) hm).mono ?_; rintro e w1 ⟨A1, c1, rfl, ho1, hb1⟩; have hr1 := Rd.below (hcut.drewN _) hb1; have hsz := hb1.size) | (refine step_app_ints rfl (.tmp 37) (.tmp 39) rfl w1 _ (.slice A1 xs.length c1) xs rfl ho1 (some ⟨b', off', none⟩) 0 0 (ys.drop 1) rfl hr1 (by simp; omega) hsz ?_; intro A2 c2 w2 ho2 hb2))
            all_goals go_wp2_with fail
            all_goals go_ret2
            all_goals exact ⟨A2, c2, ret_ssb (by rw [HR.out]; simp), by rw [HR.out]; exact ho2, (below_n w _).trans (hb1.trans hb2)⟩
          · have hcut := HCUT.out
            rw [if_neg hc1, ← List.map_drop] at hcut
            simp only [Option.map_some, Addr.add_lit, Nat.mul_one] at hcut
            have h1c : (1 : Int) ≤ c' := by omega
            have h1n : (1 : Int) ≤ n' := by omega
            go_region_law (first | (go_simp; go_at_call 58; refine (spec_l1Own _ _ _ xs _ (h.drewN _) hm).mono ?_; rintro e w1 ⟨A1, c1, rfl, ho1, hb1⟩; have hr1 := Rd.below (hcut.drewN _) hb1; have hsz := hb1.size) | (refine step_app_ints rfl (.tmp 37) (.tmp 39) rfl w1 _ (.slice A1 xs.length c1) xs rfl ho1 (some ⟨b', off' + 1, none⟩) (n' - 1) (c' - 1) (ys.drop 1) rfl hr1 (by simp; omega) hsz ?_; intro A2 c2 w2 ho2 hb2))
            all_goals go_wp2_with fail
            all_goals go_ret2
            all_goals exact ⟨A2, c2, ret_ssb (by rw [HR.out]; simp), by rw [HR.out]; exact ho2, (below_n w _).trans (hb1.trans hb2)⟩
      · have eO : joinOk xs ys = false := by rw [HJ.out]; simp [hne]
        have eR : joinR xs ys = [] := by simp [joinR, eO]
        rw [eO, eR]
        clear eO eR
        have hb : (x != y) = true := by simpa using hne
        clear hne
        go_enter Try.func30, Try.ntmps30
        go_wp2_with fail
        go_quiet ((go_at_call 46; first | exact quiet_left (spec_l9Good _ _ _ xs _ (h.drewN _) hm1) | exact quiet_add_left (spec_l9Good _ _ _ xs _ (h.drewN _) hm1) | exact quiet_left (spec_l9Good _ _ _ ys _ (h'.drewN _) hm1') | exact quiet_add_left (spec_l9Good _ _ _ ys _ (h'.drewN _) hm1')))
        go_wp2_with fail
        go_ret2
        exact RetSB.lit' (below_n _ _)

set_option maxHeartbeats 2000000 in
theorem impl_JoinProfiles (A A' : Option Addr) (n c n' c' : Nat) (xs ys : List Int) (w : World) (h : Rd w 1 A n (IV xs)) (h' : Rd w 1 A' n' (IV ys)) (hm : n ≤ 1048576) (hm' : n' ≤ 1048576) (hc' : n' ≤ c') (hcm : c' ≤ 9223372036854775807) :
    Calls Try.prog 31 #[.slice A n c, .slice A' n' c'] w (RetSB w (joinR xs ys) (joinOk xs ys)) := by
  have hl := Lib.hid h.len
  have hl' := Lib.hid h'.len
  have hm1 : n ≤ 9223372036854775807 := by omega
  have hm1' : n' ≤ 9223372036854775807 := by omega
  rcases hp : prof xs with _ | _
  · have eO : joinOk xs ys = false := by simp [joinOk, hp]
    have eR : joinR xs ys = [] := by simp [joinR, eO]
    rw [eO, eR]
    clear eO eR
    go_enter Try.func31, Try.ntmps31
    go_wp2_with fail
    go_quiet ((go_at_call 16; first | exact quiet_left (impl_IsProfile _ _ _ xs _ (h.drewN _) hm1) | exact quiet_add_left (impl_IsProfile _ _ _ xs _ (h.drewN _) hm1) | exact quiet_left (impl_IsProfile _ _ _ ys _ (h'.drewN _) hm1') | exact quiet_add_left (impl_IsProfile _ _ _ ys _ (h'.drewN _) hm1')))
    go_wp2_with fail
    go_ret2
    exact RetSB.nil (below_n _ _)
  · rcases hp' : prof ys with _ | _
    · have eO : joinOk xs ys = false := by simp [joinOk, hp, hp']
      have eR : joinR xs ys = [] := by simp [joinR, eO]
      rw [eO, eR]
      clear eO eR
      go_enter Try.func31, Try.ntmps31
      go_wp2_with fail
      go_quiet ((go_at_call 16; first | exact quiet_left (impl_IsProfile _ _ _ xs _ (h.drewN _) hm1) | exact quiet_add_left (impl_IsProfile _ _ _ xs _ (h.drewN _) hm1) | exact quiet_left (impl_IsProfile _ _ _ ys _ (h'.drewN _) hm1') | exact quiet_add_left (impl_IsProfile _ _ _ ys _ (h'.drewN _) hm1')))
      go_wp2_with fail
      go_ret2
      exact RetSB.nil (below_n _ _)
    · have hpl := prof_len hp
      have hpl' := prof_len hp'
      rw [h.len] at hpl
      rw [h'.len] at hpl'
      obtain ⟨b, off, x, rfl, hx, hc⟩ := h.at1 (k := n - 1) (by omega)
      obtain ⟨b', off', y, rfl, hy, hcy⟩ := h'.at1 (k := 0) (by omega)
      simp only [Nat.add_zero] at hcy
      have hj1 : joinOk xs ys = (decide (x = y) && decide (n + n' ≤ 31)) := by
        simp only [joinOk, hp, hp', last_of hl.out hx, head_of hy, Bool.true_and, hl.out, hl'.out]
        simp
      have HJ := Lib.hid hj1
      have w1' : IntKind.i64.wrap (↑n - 1) = ↑n - 1 := IntWalk.i64_in _ (by omega)
      have w2' : (0 : Int) ≤ ↑n - 1 := by omega
      have w3 : ((n : Int) - 1).toNat = n - 1 := by omega
      have w6 : (n : Int) - 1 < n := by omega
      have w7 : (0 : Int) < n' := by omega
      clear hx hy hj1
      rcases Decidable.em (x = y) with rfl | hne
      · obtain ⟨R, hR⟩ : ∃ R, R = joinR xs ys := ⟨_, rfl⟩
        obtain ⟨OK, hOK⟩ : ∃ OK, OK = joinOk xs ys := ⟨_, rfl⟩
        rw [← hR, ← hOK]
        have HR := Lib.hid hR
        have HOK := Lib.hid hOK
        clear hR hOK
        have h1c : (1 : Int) ≤ c' := by omega
        have h1n : (1 : Int) ≤ n' := by omega
        have hfin : ∀ (e : Ending) (w' : World) (A3 : Option Addr) (c3 : Nat), Ow w' w.heap.size (.slice A3 (xs ++ ys.drop 1).length c3) (xs ++ ys.drop 1) → Below w.heap.size w w' →
            (¬ (30 < (xs ++ ys.drop 1).length) → e = .returned (.tuple #[.slice A3 (xs ++ ys.drop 1).length c3, .bool true])) → (30 < (xs ++ ys.drop 1).length → e = .returned (.tuple #[.slice none 0 0, .bool false])) → RetSB w R OK e w' := by
          intro e w' A3 c3 ho hb h1 h2
          have hll : (xs ++ ys.drop 1).length = n + (n' - 1) := by simp [hl.out, hl'.out]
          by_cases h31 : 30 < (xs ++ ys.drop 1).length
          · have e1 : OK = false := by rw [HOK.out, HJ.out]; simp; omega
            have e2 : R = [] := by rw [HR.out, joinR, ← HOK.out, e1]; rfl
            rw [h2 h31, e1, e2]
            exact RetSB.nil hb
          · have e1 : OK = true := by rw [HOK.out, HJ.out]; simp; omega
            have e2 : R = xs ++ ys.drop 1 := by rw [HR.out, joinR, ← HOK.out, e1]; rfl
            rw [h1 h31, e1, e2]
            exact ⟨A3, c3, rfl, ho, hb⟩
        have HFIN := Lib.hid hfin
        clear hfin
        by_cases hc1 : c' = 1
        · subst hc1
          obtain rfl : n' = 1 := by omega
          have hcut := h'.cut (k := 1) (cap := 1) (by omega) hc'
          rw [if_pos rfl, Nat.one_mul, ← List.map_drop] at hcut
          go_enter Try.func31, Try.ntmps31
          go_wp2_with fail
          go_quiet ((go_at_call 16; first | exact quiet_left (impl_IsProfile _ _ _ xs _ (h.drewN _) hm1) | exact quiet_add_left (impl_IsProfile _ _ _ xs _ (h.drewN _) hm1) | exact quiet_left (impl_IsProfile _ _ _ ys _ (h'.drewN _) hm1') | exact quiet_add_left (impl_IsProfile _ _ _ ys _ (h'.drewN _) hm1')))
          go_wp2_with fail
          refine (slices_Concat _ _ _ _ _ _ _ xs (ys.drop 1) _ (by show ((w.drewN nq).alloc _).cell? ⟨(w.drewN nq).heap.size, 0, none⟩ = _; rw [World.cell?_alloc_new]; rfl) (by show ((w.drewN nq).alloc _).cell? ⟨(w.drewN nq).heap.size, 1, none⟩ = _; rw [World.cell?_alloc_new]; rfl) ((h.drewN _).alloc _) ((hcut.drewN _).alloc _) (by omega) (by omega)).mono ?_
          rintro e w1 ⟨A3, c3, rfl, ho3, hb3⟩
          have hb3' : Below w.heap.size w w1 := Below.thenn ((below_n w _).alloc (Nat.le_refl _) _) hb3 (by simp)
          have ho3' := ho3.base (B' := w.heap.size) (by simp)
          have HB3 := Lib.hid hb3'
          have HO3 := Lib.hid ho3'
          clear hb3 ho3 hb3' ho3'
          have hLb : (xs ++ ys.drop 1).length ≤ 1000000000 := by simp [hl.out]; have := hl'.out; omega
          generalize hLL : (xs ++ ys.drop 1).length = L at HO3 hLb
          have HL := Lib.hid hLL
          clear hLL
          by_cases h31 : 30 < L
          · have h31' : (30 : Int) < (L : Int) := by omega
            go_wp2_with fail
            all_goals go_ret2
            all_goals exact HFIN.out _ _ A3 c3 (by rw [HL.out]; exact HO3.out) HB3.out (fun hh => absurd (by rw [HL.out]; exact h31) hh) (fun _ => rfl)
          · have h31' : ¬ (30 : Int) < (L : Int) := by omega
            go_wp2_with fail
            all_goals go_ret2
            all_goals exact HFIN.out _ _ A3 c3 (by rw [HL.out]; exact HO3.out) HB3.out (fun _ => ret_ssb HL.out.symm) (fun hh => absurd (by rw [HL.out] at hh; exact hh) h31)
        · have hcut := h'.cut (k := 1) (cap := c') (by omega) hc'
          rw [if_neg hc1, Nat.one_mul, ← List.map_drop] at hcut
          simp only [Option.map_some, Addr.add_lit] at hcut
          go_enter Try.func31, Try.ntmps31
          go_wp2_with fail
          go_quiet ((go_at_call 16; first | exact quiet_left (impl_IsProfile _ _ _ xs _ (h.drewN _) hm1) | exact quiet_add_left (impl_IsProfile _ _ _ xs _ (h.drewN _) hm1) | exact quiet_left (impl_IsProfile _ _ _ ys _ (h'.drewN _) hm1') | exact quiet_add_left (impl_IsProfile _ _ _ ys _ (h'.drewN _) hm1')))
          go_wp2_with fail
          refine (slices_Concat _ _ _ _ _ _ _ xs (ys.drop 1) _ (by show ((w.drewN nq).alloc _).cell? ⟨(w.drewN nq).heap.size, 0, none⟩ = _; rw [World.cell?_alloc_new]; rfl) (by show ((w.drewN nq).alloc _).cell? ⟨(w.drewN nq).heap.size, 1, none⟩ = _; rw [World.cell?_alloc_new]; rfl) ((h.drewN _).alloc _) ((hcut.drewN _).alloc _) (by omega) (by omega)).mono ?_
          rintro e w1 ⟨A3, c3, rfl, ho3, hb3⟩
          have hb3' : Below w.heap.size w w1 := Below.thenn ((below_n w _).alloc (Nat.le_refl _) _) hb3 (by simp)
          have ho3' := ho3.base (B' := w.heap.size) (by simp)
          have HB3 := Lib.hid hb3'
          have HO3 := Lib.hid ho3'
          clear hb3 ho3 hb3' ho3'
          have hLb : (xs ++ ys.drop 1).length ≤ 1000000000 := by simp [hl.out]; have := hl'.out; omega
          generalize hLL : (xs ++ ys.drop 1).length = L at HO3 hLb
          have HL := Lib.hid hLL
          clear hLL
          by_cases h31 : 30 < L
          · have h31' : (30 : Int) < (L : Int) := by omega
            go_wp2_with fail
            all_goals go_ret2
            all_goals exact HFIN.out _ _ A3 c3 (by rw [HL.out]; exact HO3.out) HB3.out (fun hh => absurd (by rw [HL.out]; exact h31) hh) (fun _ => rfl)
          · have h31' : ¬ (30 : Int) < (L : Int) := by omega
            go_wp2_with fail
            all_goals go_ret2
            all_goals exact HFIN.out _ _ A3 c3 (by rw [HL.out]; exact HO3.out) HB3.out (fun _ => ret_ssb HL.out.symm) (fun hh => absurd (by rw [HL.out] at hh; exact hh) h31)
      · have eO : joinOk xs ys = false := by rw [HJ.out]; simp [hne]
        have eR : joinR xs ys = [] := by simp [joinR, eO]
        rw [eO, eR]
        clear eO eR
        have hb : (x != y) = true := by simpa using hne
        clear hne
        go_enter Try.func31, Try.ntmps31
        go_wp2_with fail
        go_quiet ((go_at_call 16; first | exact quiet_left (impl_IsProfile _ _ _ xs _ (h.drewN _) hm1) | exact quiet_add_left (impl_IsProfile _ _ _ xs _ (h.drewN _) hm1) | exact quiet_left (impl_IsProfile _ _ _ ys _ (h'.drewN _) hm1') | exact quiet_add_left (impl_IsProfile _ _ _ ys _ (h'.drewN _) hm1')))
        go_wp2_with fail
        go_ret2
        exact RetSB.nil (below_n _ _)
end Go.Proofs.Ythhameglamemkaa
