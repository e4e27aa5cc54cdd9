/- The fewest brakes: comparing lists, the members of a set. -/
import Derived.Test.YthijklidjdhkdaaBrkR
import Derived.Deep.RegionHeld3
namespace Go.Proofs.Ythijklidjdhkdaa
open Go.RowKit
set_option linter.unusedVariables false
set_option linter.unusedSimpArgs false

theorem drewN_two (w : World) (a b : Nat) : (w.drewN a).drewN b = w.drewN (a + b) := by simp [World.drewN, Nat.add_assoc]
theorem drewN_three (w : World) (a b c : Nat) : ((w.drewN a).drewN b).drewN c = w.drewN (a + b + c) := by simp [World.drewN, Nat.add_assoc]
theorem cmp_Compare (a b : Int) (w : World) : Calls Try.prog 82 #[.int .i64 a, .int .i64 b] w fun e w' => e = .returned (.int .i64 (if a = b then 0 else if a < b then -1 else 1)) ∧ w = w' := by
  rcases Int.lt_trichotomy a b with h | h | h
  · rw [if_neg (by omega), if_pos h]
    go_enter Try.func82, Try.ntmps82
    go_wp2
    go_ret
    exact ⟨rfl, rfl⟩
  · subst h
    rw [if_pos rfl]
    go_enter Try.func82, Try.ntmps82
    go_wp2
    go_ret
    exact ⟨rfl, rfl⟩
  · rw [if_neg (by omega), if_neg (by omega)]
    go_enter Try.func82, Try.ntmps82
    go_wp2
    go_ret
    exact ⟨rfl, rfl⟩
set_option maxHeartbeats 1000000 in
theorem slices_Compare (A A' : Option Addr) (n c c' : Nat) (xs ys : List Int) (w : World) (h : Rd w 1 A n (IV xs)) (h' : Rd w 1 A' n (IV ys)) (hm : n ≤ 1000000) :
    Calls Try.prog 67 #[.slice A n c, .slice A' n c'] w fun e w' => e = .returned (.int .i64 (cmpL xs ys)) ∧ w = w' := by
  have hl := Lib.hid h.len
  have hl' := Lib.hid h'.len
  have HX := Lib.hid h
  have HY := Lib.hid h'
  clear h h'
  generalize hE : cmpL xs ys = E
  have HE := Lib.hid hE
  clear hE
  go_enter Try.func67, Try.ntmps67
  go_wp2_with fail
  go_loopg [11] n (fun g i wr => ∃ k : Nat, k ≤ n ∧ n ≤ k + g ∧ i = .int .i64 k ∧ w = wr ∧ Hid (cmpL (xs.drop k) (ys.drop k) = E))
  case atStart => exact ⟨0, by omega, by omega, rfl, rfl, HE.out⟩
  case round =>
    obtain ⟨k, hk1, hk2, rfl, rfl, hc⟩ := hrel
    by_cases hlt : k < n
    · obtain ⟨b, off, x, rfl, hx, c0⟩ := HX.out.at1 hlt
      obtain ⟨b', off', y, rfl, hy, c1⟩ := HY.out.at1 hlt
      by_cases he : x = y
      · subst he
        have hq : Hid (cmpL (xs.drop (k + 1)) (ys.drop (k + 1)) = E) := (show _ = _ by rw [← cmpL_eq hx hy]; exact hc.out)
        have cm := fun w => cmp_Compare x x w
        simp only [if_true] at cm
        have CM := Lib.hid cm
        clear cm hx hy
        go_wp2_with (go_at_call 82; refine (CM.out _).mono ?_; rintro e w' ⟨rfl, rfl⟩)
        go_roundg (n - (k + 1))
        case measure => omega
        case rel => exact ⟨k + 1, by omega, by omega, by go_num, rfl, hq⟩
      · have hq : E = if x < y then -1 else 1 := by rw [← hc.out]; exact cmpL_ne hx hy he
        have cm := fun w => cmp_Compare x y w
        simp only [if_neg he] at cm
        rw [← hq] at cm
        have hne : ¬ E = 0 := by rw [hq]; split <;> decide
        have CM := Lib.hid cm
        have hne2 : (E == 0) = false := by simpa using hne
        clear cm hx hy hq he hc HE
        go_wp2_with (go_at_call 82; refine (CM.out _).mono ?_; rintro e w' ⟨rfl, rfl⟩)
        go_ret
        exact ⟨rfl, rfl⟩
    · have hq : E = 0 := by rw [← hc.out]; exact cmpL_end (by have := hl.out; omega)
      clear hc HE
      subst hq
      go_wp2_with fail
      go_ret
      exact ⟨rfl, rfl⟩
set_option maxHeartbeats 1000000 in
theorem spec_l10Members (s : Nat) (w : World) (hs : s < 65536) : Calls Try.prog 65 #[.int .i64 s] w (RetS w (memN s 4)) := by
  go_enter Try.func65, Try.ntmps65
  go_wp2_with fail
  go_loopg [3, 4] 4 (fun g out i wr => ∃ (k : Nat) (A : Option Addr) (c : Nat), k ≤ 4 ∧ 4 ≤ k + g ∧ i = .int .i64 k ∧ out = .slice A (memN s k).length c ∧ Hid (Ow wr w.heap.size (.slice A (memN s k).length c) (memN s k)) ∧ Below w.heap.size w wr ∧ w.heap.size ≤ wr.heap.size)
  case atStart => exact ⟨0, _, _, by omega, by omega, rfl, rfl, Ow.lit0 w w.heap.size (Nat.le_refl _), (by repeat (first | exact Below.refl _ _ | assumption | apply Below.drew | apply below_drewN | (refine Below.alloc ?_ (by first | omega | (simp; done) | (simp; omega)) _) | (refine Below.setCell ?_ (by first | omega | (simp; done) | (simp; omega)) _))), by simp⟩
  case round =>
    obtain ⟨k, A, c, hk1, hk2, rfl, rfl, HO, hBr, hzr⟩ := hrel
    have hlen := memN_len s k
    by_cases hlt : k < 4
    · have hbit := bit_and s k hs
      by_cases hb : s / 2 ^ k % 2 = 1
      · rw [hb] at hbit
        have HM := Lib.hid (memN_yes hb)
        clear hb
        generalize memN s k = zs at *
        go_wp2_with (at_builtin; refine wp_app_int rfl (.tmp 16) (.tmp 18) rfl _ w.heap.size (.slice A zs.length c) zs (k : Int) rfl HO.out rfl (by omega) hzr ?_; intro A2 c2 w1 hown1 hb1)
        go_roundg (4 - (k + 1))
        case measure => omega
        case rel => exact ⟨k + 1, A2, c2, by omega, by omega, by go_num, by rw [HM.out]; simp, (show Ow _ _ _ _ by rw [HM.out]; exact hown1), hBr.trans hb1, Nat.le_trans hzr hb1.size⟩
      · have hb0 : s / 2 ^ k % 2 = 0 := by omega
        rw [hb0] at hbit
        have HM := Lib.hid (memN_no hb)
        clear hb hb0
        generalize memN s k = zs at *
        go_wp2_with fail
        go_roundg (4 - (k + 1))
        case measure => omega
        case rel => exact ⟨k + 1, A, c, by omega, by omega, by go_num, by rw [HM.out], (show Ow _ _ _ _ by rw [HM.out]; exact HO.out), hBr, hzr⟩
    · obtain rfl : k = 4 := by omega
      go_wp2_with fail
      go_ret
      exact ⟨A, c, rfl, HO.out, hBr⟩
set_option maxHeartbeats 1000000 in
theorem spec_l10Before (A A' : Option Addr) (n n' c c' : Nat) (xs ys : List Int) (w : World) (h : Rd w 1 A n (IV xs)) (h' : Rd w 1 A' n' (IV ys)) (hm : n ≤ 1000000) (hm' : n' ≤ 1000000) :
    Calls Try.prog 66 #[.slice A n c, .slice A' n' c'] w (Quiet w (.bool (bef xs ys))) := by
  have hl := Lib.hid h.len
  have hl' := Lib.hid h'.len
  have HX := Lib.hid h
  have HY := Lib.hid h'
  clear h h'
  by_cases hn : n = n'
  · subst hn
    have hbf : bef xs ys = ltL xs ys := by unfold bef; rw [if_pos (by rw [hl.out, hl'.out])]
    rw [hbf]
    clear hbf
    generalize hE : ltL xs ys = E
    have HE := Lib.hid hE
    clear hE
    go_enter Try.func66, Try.ntmps66
    go_wp2_with fail
    go_loopg [5] n (fun g i wr => ∃ (k m : Nat), k ≤ n ∧ n ≤ k + g ∧ i = .int .i64 k ∧ w.drewN m = wr ∧ Hid (ltL (xs.drop k) (ys.drop k) = E))
    case atStart => exact ⟨0, 0, by omega, by omega, rfl, rfl, HE.out⟩
    case round =>
      obtain ⟨k, m, hk1, hk2, rfl, rfl, hc⟩ := hrel
      by_cases hlt : k < n
      · obtain ⟨b, off, x, rfl, hx, c0⟩ := HX.out.at1 hlt
        obtain ⟨b', off', y, rfl, hy, c1⟩ := HY.out.at1 hlt
        by_cases he : x = y
        · subst he
          have hq : Hid (ltL (xs.drop (k + 1)) (ys.drop (k + 1)) = E) := (show _ = _ by rw [← ltL_eq hx hy]; exact hc.out)
          clear hx hy
          go_wp2_with fail
          go_quiet (fail)
          go_wp2_with fail
          go_roundg (n - (k + 1))
          case measure => omega
          case rel => exact ⟨k + 1, _, by omega, by omega, by go_num, rfl, hq⟩
        · have hq : E = decide (x < y) := by rw [← hc.out]; exact ltL_ne hx hy he
          have hne2 : (x == y) = false := by simpa using he
          clear hx hy hc HE
          subst hq
          go_wp2_with fail
          go_quiet (fail)
          go_wp2_with fail
          go_quiet (fail)
          go_wp2_with fail
          go_ret
          exact ⟨rfl, _, drewN_three _ _ _ _⟩
      · have hq : E = false := by rw [← hc.out]; exact ltL_end (by have := hl.out; omega)
        clear hc HE
        subst hq
        go_wp2_with fail
        go_ret
        exact ⟨rfl, _, rfl⟩
  · have hbf : bef xs ys = decide (n < n') := by unfold bef; rw [if_neg (by rw [hl.out, hl'.out]; exact hn), hl.out, hl'.out]
    rw [hbf]
    clear hbf
    go_enter Try.func66, Try.ntmps66
    go_wp2_with fail
    go_ret
    exact ⟨ret_bool (by simp), 0, rfl⟩
end Go.Proofs.Ythijklidjdhkdaa
