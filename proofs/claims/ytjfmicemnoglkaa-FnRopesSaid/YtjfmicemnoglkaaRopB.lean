/- Ropes: damages, one by one and in order. -/
import Derived.Test.YtjfmicemnoglkaaRopA
import Derived.Test.YtjfmicemnoglkaaTail
namespace Go.Proofs.Ytjfmicemnoglkaa
open Go.RowKit
set_option linter.unusedVariables false
set_option linter.unusedSimpArgs false

theorem tail_pure {P : Program} {f : FuncId} {args : Array Value} {w : World} {v : Value} (h : Calls P f args w fun e w' => e = .returned v ∧ w = w') : Calls P f args w fun e w'' => e = .returned v ∧ w'' = w :=
  h.mono fun _ _ ⟨he, hw⟩ => ⟨he, hw.symm⟩
def cmI (a b : Int) : Int := if a = b then 0 else if a < b then -1 else 1
theorem cmp_Compare (a b : Int) (w : World) : Calls Try.prog 162 #[.int .i64 a, .int .i64 b] w fun e w' => e = .returned (.int .i64 (if a = b then 0 else if a < b then -1 else 1)) ∧ w = w' := by
  rcases Int.lt_trichotomy a b with h | h | h
  · rw [if_neg (by omega), if_pos h]
    go_enter Try.func162, Try.ntmps162
    go_wp2
    go_ret
    exact ⟨rfl, rfl⟩
  · subst h
    rw [if_pos rfl]
    go_enter Try.func162, Try.ntmps162
    go_wp2
    go_ret
    exact ⟨rfl, rfl⟩
  · rw [if_neg (by omega), if_neg (by omega)]
    go_enter Try.func162, Try.ntmps162
    go_wp2
    go_ret
    exact ⟨rfl, rfl⟩
theorem cmp_Cmp (a b : Int) (w : World) : Calls Try.prog 162 #[.int .i64 a, .int .i64 b] w fun e w' => e = .returned (.int .i64 (cmI a b)) ∧ w = w' := cmp_Compare a b w
theorem cmp_Or (a b : Int) (bk : Nat) (w : World) (h : Rd w 1 (some ⟨bk, 0, none⟩) 2 (IV [a, b])) : Calls Try.prog 161 #[.slice (some ⟨bk, 0, none⟩) 2 2] w fun e w' => e = .returned (.int .i64 (if a = 0 then b else a)) ∧ w = w' := by
  obtain ⟨b1, o1, x1, e1, hx1, hc1⟩ := h.at1 (k := 0) (by omega)
  obtain ⟨b2, o2, x2, e2, hx2, hc2⟩ := h.at1 (k := 1) (by omega)
  injection e1 with e1
  injection e1 with e1 e1'
  subst e1 e1'
  injection e2 with e2
  injection e2 with e2 e2'
  subst e2 e2'
  simp at hx1 hx2
  subst hx1 hx2
  simp only [Nat.add_zero, Nat.zero_add] at hc1 hc2
  by_cases ha : a = 0
  · subst ha
    by_cases hb : b = 0
    · subst hb
      go_enter Try.func161, Try.ntmps161
      go_wp2_with fail
      go_loopg [8] 2 (fun g i wr => ∃ k : Nat, k ≤ 2 ∧ 2 ≤ k + g ∧ i = .int .i64 k ∧ w = wr)
      case atStart => exact ⟨0, by omega, by omega, rfl, rfl⟩
      case round =>
        obtain ⟨k, hk1, hk2, rfl, rfl⟩ := hrel
        rcases (by omega : k = 0 ∨ k = 1 ∨ k = 2) with rfl | rfl | rfl
        · go_wp2_with fail
          go_roundg 1
          case measure => omega
          case rel => exact ⟨1, by omega, by omega, rfl, rfl⟩
        · go_wp2_with fail
          go_roundg 0
          case measure => omega
          case rel => exact ⟨2, by omega, by omega, rfl, rfl⟩
        · go_wp2_with fail
          go_ret
          exact ⟨rfl, rfl⟩
    · have hb2 : (b != 0) = true := by simpa using hb
      go_enter Try.func161, Try.ntmps161
      go_wp2_with fail
      go_loopg [8] 2 (fun g i wr => ∃ k : Nat, k ≤ 1 ∧ 2 ≤ k + g ∧ i = .int .i64 k ∧ w = wr)
      case atStart => exact ⟨0, by omega, by omega, rfl, rfl⟩
      case round =>
        obtain ⟨k, hk1, hk2, rfl, rfl⟩ := hrel
        rcases (by omega : k = 0 ∨ k = 1) with rfl | rfl
        · go_wp2_with fail
          go_roundg 1
          case measure => omega
          case rel => exact ⟨1, by omega, by omega, rfl, rfl⟩
        · go_wp2_with fail
          go_ret
          exact ⟨ret_int (by simp), rfl⟩
  · have ha2 : (a != 0) = true := by simpa using ha
    go_enter Try.func161, Try.ntmps161
    go_wp2_with fail
    go_loopg [8] 2 (fun g i wr => i = .int .i64 0 ∧ w = wr ∧ 2 ≤ g)
    case atStart => exact ⟨rfl, rfl, by omega⟩
    case round =>
      obtain ⟨rfl, rfl, _⟩ := hrel
      go_wp2_with fail
      go_ret
      exact ⟨ret_int (by simp [ha]), rfl⟩
/-- What comparing two damages tells. -/
def cdV (a b c d : Int) : Int := if cmI a c = 0 then cmI b d else cmI a c
theorem cdV_ge (a b c d : Int) : decide (0 ≤ cdV a b c d) = !dmgLt a b c d := by
  unfold cdV cmI dmgLt
  rw [Bool.eq_iff_iff]
  simp only [decide_eq_true_eq, Bool.not_eq_true', Bool.or_eq_false_iff, Bool.and_eq_false_iff, decide_eq_false_iff_not]
  by_cases h1 : a = c <;> by_cases h2 : a < c <;> by_cases h3 : b = d <;> by_cases h4 : b < d <;> simp [h1, h2, h3, h4] <;> omega
set_option maxRecDepth 100000 in
set_option maxHeartbeats 4000000 in
theorem impl_compareDamages (a b x c d y : Int) (wo : World) :
    Calls Try.prog 160 #[.agg #[.int .i64 a, .int .i64 b, .int .i64 x], .agg #[.int .i64 c, .int .i64 d, .int .i64 y]] wo (Ret wo (.int .i64 (cdV a b c d))) := by
  have hWV : Below wo.heap.size wo ((wo.alloc (.cells #[.int .i64 a, .int .i64 b, .int .i64 x] 92)).alloc (.cells #[.int .i64 c, .int .i64 d, .int .i64 y] 92)) := ((Below.refl _ _).alloc (Nat.le_refl _) _).alloc (by simp) _
  have T1 := (Blk.new wo 92 #[.int .i64 a, .int .i64 b, .int .i64 x]).alloc (.cells #[.int .i64 c, .int .i64 d, .int .i64 y] 92)
  have T2 := Blk.new (wo.alloc (.cells #[.int .i64 a, .int .i64 b, .int .i64 x] 92)) 92 #[.int .i64 c, .int .i64 d, .int .i64 y]
  have hsz : (wo.alloc (.cells #[.int .i64 a, .int .i64 b, .int .i64 x] 92)).heap.size = wo.heap.size + 1 := by simp
  rw [hsz] at T2
  have v0 := T1.cell 0
  have v1 := T1.cell 1
  have v2 := T2.cell 0
  have v3 := T2.cell 1
  simp only [List.getElem?_toArray, List.getElem?_cons_zero, List.getElem?_cons_succ] at v0 v1 v2 v3
  generalize hq : wo.heap.size + 1 = q at *
  have HQ := Lib.hid hq
  have HWV := Lib.hid hWV
  clear hq hsz T1 T2
  have HV : Hid (cdV a b c d = if cmI a c = 0 then cmI b d else cmI a c) := Lib.hid rfl
  generalize cdV a b c d = V at *
  go_enter Try.func160, Try.ntmps160
  go_wp2_with fail
  rw [HQ.out]
  generalize (wo.alloc (.cells #[.int .i64 a, .int .i64 b, .int .i64 x] 92)).alloc (.cells #[.int .i64 c, .int .i64 d, .int .i64 y] 92) = w at *
  (refine wp_region_tail 10 (by kernel_rfl) (by kernel_rfl) ?_; simp only [List.take_succ_cons, List.take_zero, List.drop_succ_cons, List.drop_zero]; (repeat (go_big_quiet_step (exact tail_pure (cmp_Cmp _ _ _) _))); refine wpQuiet_nil ?_)
  have hv := HV.out
  have CO := fun (bk : Nat) (w : World) (h : Rd w 1 (some ⟨bk, 0, none⟩) 2 (IV [cmI a c, cmI b d])) => cmp_Or (cmI a c) (cmI b d) bk w h
  rw [← hv] at CO
  have CO2 := Lib.hid CO
  clear CO hv HV
  generalize cmI a c = u at *
  generalize cmI b d = t at *
  have HR : ∀ w' : World, Rd (w'.alloc (.cells #[.int .i64 u, .int .i64 t] 3)) 1 (some ⟨w'.heap.size, 0, none⟩) 2 (IV [u, t]) := fun w' => by
    have := Rd.of_block (n := 2) (size := 1) (heap_alloc_new w' (.cells #[.int .i64 u, .int .i64 t] 3)) rfl
    simpa using this
  have HRR := Lib.hid HR
  clear HR
  go_wp2_with (go_at_call 161; refine (CO2.out _ _ ?_).mono ?_; (first | exact HRR.out _ | exact Rd.drew (HRR.out _) | exact HRR.out _); rintro e w2 ⟨rfl, rfl⟩)
  go_ret
  exact ⟨rfl, Below.thenn HWV.out (show Below w.heap.size w _ from (by repeat (first | exact Below.refl _ _ | assumption | apply Below.drew | apply below_drewN | (refine Below.alloc ?_ (by first | omega | (simp; done) | (simp; omega)) _) | (refine Below.setCell ?_ (by first | omega | (simp; done) | (simp; omega)) _)))) HWV.out.size⟩
set_option maxHeartbeats 4000000 in
theorem impl_isDamage (i s x g t a b c : Int) (wo : World) (hs : -1000000 ≤ s ∧ s ≤ 1000000) :
    Calls Try.prog 159 #[.agg #[.int .i64 i, .int .i64 s, .int .i64 x, .int .i64 g, .int .i64 t], .agg #[.int .i64 a, .int .i64 b, .int .i64 c]] wo (Ret wo (.bool (dmgOk s x [a, b, c]))) := by
  have e : dmgOk s x [a, b, c] = (inr a 0 3000 && (inr b 0 (s - 1) && inr c 1 x)) := rfl
  rw [e]
  have u1 : IntKind.i64.wrap (s - 1) = s - 1 := IntWalk.i64_in _ (by omega)
  rcases h0 : inr a 0 3000 with _ | _ <;> rcases h1 : inr b 0 (s - 1) with _ | _ <;> rcases h2 : inr c 1 x with _ | _
  all_goals (go_enter Try.func159, Try.ntmps159)
  all_goals go_wp2_with (go_at_call 98; refine (impl_within _ _ _ _).mono ?_; rintro e w' ⟨rfl, rfl⟩)
  all_goals (go_ret; exact ⟨ret_bool (by simp), ((Below.refl _ _).alloc (Nat.le_refl _) _).alloc (by simp) _⟩)
theorem spec_l2Place (x : Int) (w : World) : Calls Try.prog 144 #[.int .i64 x] w (fun e w' => e = .returned (.bool (inr x 0 3000)) ∧ w = w') := by
  go_enter Try.func144, Try.ntmps144
  go_wp2_with (go_at_call 102; refine (spec_l1In _ _ _ _).mono ?_; rintro e w' ⟨rfl, rfl⟩)
  go_ret
  exact ⟨rfl, rfl⟩
theorem spec_l3Length (x : Int) (w : World) : Calls Try.prog 141 #[.int .i64 x] w (fun e w' => e = .returned (.bool (inr x 1 3000)) ∧ w = w') := by
  go_enter Try.func141, Try.ntmps141
  go_wp2_with (go_at_call 102; refine (spec_l1In _ _ _ _).mono ?_; rintro e w' ⟨rfl, rfl⟩)
  go_ret
  exact ⟨rfl, rfl⟩
end Go.Proofs.Ytjfmicemnoglkaa
