/- Merged: ClrH, ClrI. -/
import Derived.Test.YtjfmicemnoglkaaClrPX
import Derived.Test.YtjfmicemnoglkaaCmpP
import Derived.Test.YtjfmicemnoglkaaExt
import Derived.Test.YtjfmicemnoglkaaClrF
import Derived.Test.YtjfmicemnoglkaaClrAX
namespace Go.Proofs.Ytjfmicemnoglkaa
open Go.RowKit
set_option linter.unusedVariables false
set_option linter.unusedSimpArgs false

theorem floor_neg {a b : Int} (ha : a < 0) (hb : 0 < b) : -((-a + b - 1).tdiv b) = a / b := by
  rw [Int.tdiv_eq_ediv_of_nonneg (by omega)]
  have h1 := Int.ediv_mul_le a (b := b) (by omega)
  have h2 := Int.lt_ediv_add_one_mul_self a hb
  have h3 := Int.ediv_mul_le (-a + b - 1) (b := b) (by omega)
  have h4 := Int.lt_ediv_add_one_mul_self (-a + b - 1) hb
  generalize a / b = p at *
  generalize (-a + b - 1) / b = q at *
  have e1 : (p + 1) * b = p * b + b := by rw [Int.add_mul, Int.one_mul]
  have e2 : (q + 1) * b = q * b + b := by rw [Int.add_mul, Int.one_mul]
  have h5 : (q + p) * b < 1 * b := by rw [Int.add_mul]; omega
  have h6 : (-1) * b < (q + p) * b := by rw [Int.add_mul]; omega
  have := Int.lt_of_mul_lt_mul_right h5 (by omega)
  have := Int.lt_of_mul_lt_mul_right h6 (by omega)
  omega
theorem fl_bd {a b : Int} (hb : 0 < b) : a / b * b ≤ a ∧ a < a / b * b + b := by
  have h1 := Int.ediv_mul_le a (b := b) (by omega)
  have h2 := Int.lt_ediv_add_one_mul_self a hb
  rw [Int.add_mul, Int.one_mul] at h2
  exact ⟨h1, h2⟩
set_option maxHeartbeats 1000000 in
theorem spec_l4Floor (a b : Int) (w : World) (ha : -4000000000000000000 ≤ a ∧ a ≤ 4000000000000000000) (hb : 0 < b ∧ b ≤ 4000000000000000000) :
    Calls Try.prog 155 #[.int .i64 a, .int .i64 b] w fun e w' => e = .returned (.int .i64 (a / b)) ∧ w = w' := by
  have hb0 : b ≠ 0 := by omega
  by_cases h0 : 0 ≤ a
  · have e1 : IntKind.i64.wrap (a.tdiv b) = a / b := by
      rw [Int.tdiv_eq_ediv_of_nonneg h0]
      have := Int.ediv_nonneg h0 (Int.le_of_lt hb.1)
      have := Int.ediv_le_self b h0
      exact IntWalk.i64_in _ (by omega)
    go_enter Try.func155, Try.ntmps155
    go_wp2_with fail
    go_ret
    exact ⟨ret_int (by simp [*]), rfl⟩
  · have h3 := floor_neg (a := a) (b := b) (by omega) hb.1
    have hq0 : 0 ≤ (-a + b - 1).tdiv b := Int.tdiv_nonneg (by omega) (by omega)
    have hq1 : (-a + b - 1).tdiv b ≤ -a + b - 1 := by
      rw [Int.tdiv_eq_ediv_of_nonneg (by omega)]
      exact Int.ediv_le_self b (by omega)
    have u1 : IntKind.i64.wrap (-a) = -a := IntWalk.i64_in _ (by omega)
    have u2 : IntKind.i64.wrap (-a + b) = -a + b := IntWalk.i64_in _ (by omega)
    have u3 : IntKind.i64.wrap (-a + b - 1) = -a + b - 1 := IntWalk.i64_in _ (by omega)
    have u4 : IntKind.i64.wrap ((-a + b - 1).tdiv b) = (-a + b - 1).tdiv b := IntWalk.i64_in _ (by omega)
    have u5 : IntKind.i64.wrap (-((-a + b - 1).tdiv b)) = a / b := by rw [h3]; exact IntWalk.i64_in _ (by omega)
    clear hq0 hq1 h3
    go_enter Try.func155, Try.ntmps155
    go_wp2_with fail
    go_ret
    exact ⟨ret_int (by simp [*]), rfl⟩
def LessOk (a b c d : Int) : Prop :=
  ∀ (w : World), Calls Try.prog 124 #[.int .i64 a, .int .i64 b, .int .i64 c, .int .i64 d] w fun e w' => e = .returned (.bool (decide (a * d < c * b))) ∧ w = w'
set_option maxRecDepth 100000 in
set_option maxHeartbeats 2000000 in
theorem less_ne (a b c d p q : Int) (w : World) (h2 : (p == q) = false)
    (F1 : Hid (∀ w', Calls Try.prog 155 #[.int .i64 a, .int .i64 b] w' fun e w'' => e = .returned (.int .i64 p) ∧ w' = w''))
    (F2 : Hid (∀ w', Calls Try.prog 155 #[.int .i64 c, .int .i64 d] w' fun e w'' => e = .returned (.int .i64 q) ∧ w' = w'')) :
    Calls Try.prog 124 #[.int .i64 a, .int .i64 b, .int .i64 c, .int .i64 d] w fun e w' => e = .returned (.bool (decide (p < q))) ∧ w = w' := by
  go_enter Try.func124, Try.ntmps124
  go_wp2_with fail
  (go_at_call 155; refine (F1.out _).mono ?_; rintro e w' ⟨rfl, rfl⟩)
  go_wp2_with fail
  (go_at_call 155; refine (F2.out _).mono ?_; rintro e w' ⟨rfl, rfl⟩)
  go_wp2_with fail
  all_goals go_ret
  all_goals exact ⟨ret_bool (by simp [*]), rfl⟩
set_option maxRecDepth 100000 in
set_option maxHeartbeats 2000000 in
theorem less_eq0 (a b c d p s x y : Int) (w : World) (hx : IntKind.i64.wrap (p * b) = x) (hy : IntKind.i64.wrap (p * d) = y)
    (u2 : IntKind.i64.wrap (a - x) = 0) (u4 : IntKind.i64.wrap (c - y) = s)
    (F1 : Hid (∀ w', Calls Try.prog 155 #[.int .i64 a, .int .i64 b] w' fun e w'' => e = .returned (.int .i64 p) ∧ w' = w''))
    (F2 : Hid (∀ w', Calls Try.prog 155 #[.int .i64 c, .int .i64 d] w' fun e w'' => e = .returned (.int .i64 p) ∧ w' = w'')) :
    Calls Try.prog 124 #[.int .i64 a, .int .i64 b, .int .i64 c, .int .i64 d] w fun e w' => e = .returned (.bool (decide (0 < s))) ∧ w = w' := by
  go_enter Try.func124, Try.ntmps124
  go_wp2_with fail
  (go_at_call 155; refine (F1.out _).mono ?_; rintro e w' ⟨rfl, rfl⟩)
  go_wp2_with fail
  (go_at_call 155; refine (F2.out _).mono ?_; rintro e w' ⟨rfl, rfl⟩)
  go_wp2_with fail
  all_goals go_ret
  all_goals exact ⟨ret_bool (by simp [*]), rfl⟩
set_option maxRecDepth 100000 in
set_option maxHeartbeats 2000000 in
theorem less_eq1 (a b c d p r x y : Int) (w : World) (hx : IntKind.i64.wrap (p * b) = x) (hy : IntKind.i64.wrap (p * d) = y)
    (u2 : IntKind.i64.wrap (a - x) = r) (u4 : IntKind.i64.wrap (c - y) = 0) (h2 : (r == 0) = false)
    (F1 : Hid (∀ w', Calls Try.prog 155 #[.int .i64 a, .int .i64 b] w' fun e w'' => e = .returned (.int .i64 p) ∧ w' = w''))
    (F2 : Hid (∀ w', Calls Try.prog 155 #[.int .i64 c, .int .i64 d] w' fun e w'' => e = .returned (.int .i64 p) ∧ w' = w'')) :
    Calls Try.prog 124 #[.int .i64 a, .int .i64 b, .int .i64 c, .int .i64 d] w fun e w' => e = .returned (.bool false) ∧ w = w' := by
  go_enter Try.func124, Try.ntmps124
  go_wp2_with fail
  (go_at_call 155; refine (F1.out _).mono ?_; rintro e w' ⟨rfl, rfl⟩)
  go_wp2_with fail
  (go_at_call 155; refine (F2.out _).mono ?_; rintro e w' ⟨rfl, rfl⟩)
  go_wp2_with fail
  all_goals go_ret
  all_goals exact ⟨ret_bool (by simp [*]), rfl⟩
set_option maxRecDepth 100000 in
set_option maxHeartbeats 2000000 in
theorem less_rec (a b c d p r s x y : Int) (v : Bool) (w : World) (hx : IntKind.i64.wrap (p * b) = x) (hy : IntKind.i64.wrap (p * d) = y)
    (u2 : IntKind.i64.wrap (a - x) = r) (u4 : IntKind.i64.wrap (c - y) = s) (h2 : (r == 0) = false) (h3 : (s == 0) = false)
    (F1 : Hid (∀ w', Calls Try.prog 155 #[.int .i64 a, .int .i64 b] w' fun e w'' => e = .returned (.int .i64 p) ∧ w' = w''))
    (F2 : Hid (∀ w', Calls Try.prog 155 #[.int .i64 c, .int .i64 d] w' fun e w'' => e = .returned (.int .i64 p) ∧ w' = w''))
    (CI : Hid (∀ w', Calls Try.prog 124 #[.int .i64 d, .int .i64 s, .int .i64 b, .int .i64 r] w' fun e w'' => e = .returned (.bool v) ∧ w' = w'')) :
    Calls Try.prog 124 #[.int .i64 a, .int .i64 b, .int .i64 c, .int .i64 d] w fun e w' => e = .returned (.bool v) ∧ w = w' := by
  go_enter Try.func124, Try.ntmps124
  go_wp2_with fail
  (go_at_call 155; refine (F1.out _).mono ?_; rintro e w' ⟨rfl, rfl⟩)
  go_wp2_with fail
  (go_at_call 155; refine (F2.out _).mono ?_; rintro e w' ⟨rfl, rfl⟩)
  go_wp2_with fail
  all_goals first | skip
  (go_at_call 124; refine (CI.out _).mono ?_; rintro e w' ⟨rfl, rfl⟩)
  go_wp2_with fail
  all_goals go_ret
  all_goals exact ⟨ret_bool (by simp [*]), rfl⟩
theorem less_step {a b c d : Int} (ha : -4000000000000000000 ≤ a ∧ a ≤ 4000000000000000000) (hc : -4000000000000000000 ≤ c ∧ c ≤ 4000000000000000000) (hb : 0 < b ∧ b ≤ 2000000000000000000) (hd : 0 < d ∧ d ≤ 2000000000000000000)
    (IH : ¬ a % b = 0 → ¬ c % d = 0 → 0 ≤ a % b → a % b < b → 0 ≤ c % d → c % d < d → LessOk d (c % d) b (a % b)) : LessOk a b c d := by
  intro w
  have f1 := fun w' => spec_l4Floor a b w' ha (by omega)
  have f2 := fun w' => spec_l4Floor c d w' hc (by omega)
  by_cases hpq : a / b = c / d
  · have r1 := less_rest hb.1 hd.1 hpq
    have p1 := fl_bd (a := a) hb.1
    have p2 := fl_bd (a := c) hd.1
    have m1 : a % b = a - a / b * b := by have := Int.emod_def a b; rw [Int.mul_comm] at this; exact this
    have m2 : c % d = c - c / d * d := by have := Int.emod_def c d; rw [Int.mul_comm] at this; exact this
    have hr : 0 ≤ a % b ∧ a % b < b := by omega
    have hs : 0 ≤ c % d ∧ c % d < d := by omega
    rw [r1]
    rw [← hpq] at f2 m2 p2
    have u1 : IntKind.i64.wrap (a / b * b) = a / b * b := IntWalk.i64_in _ (by omega)
    have u3 : IntKind.i64.wrap (a / b * d) = a / b * d := IntWalk.i64_in _ (by omega)
    have u2 : IntKind.i64.wrap (a - a / b * b) = a % b := by rw [m1]; exact IntWalk.i64_in _ (by omega)
    have u4 : IntKind.i64.wrap (c - a / b * d) = c % d := by rw [m2]; exact IntWalk.i64_in _ (by omega)
    have HZ := fun (h : a % b = 0 ∨ c % d = 0) => less_zero hb.1 hd.1 hr.1 hs.1 h
    by_cases h0 : a % b = 0
    · rw [HZ (.inl h0)]
      have e : (decide (a % b = 0) && decide (0 < c % d)) = decide (0 < c % d) := by simp [h0]
      rw [e]
      exact less_eq0 a b c d _ _ _ _ w u1 u3 (u2.trans h0) u4 (Lib.hid f1) (Lib.hid f2)
    · have h2 : (a % b == 0) = false := by simpa using h0
      by_cases h1 : c % d = 0
      · rw [HZ (.inr h1)]
        have e : (decide (a % b = 0) && decide (0 < c % d)) = false := by simp [h0]
        rw [e]
        exact less_eq1 a b c d _ _ _ _ w u1 u3 u2 (u4.trans h1) h2 (Lib.hid f1) (Lib.hid f2)
      · have h3 : (c % d == 0) = false := by simpa using h1
        have H := less_rec a b c d _ _ _ _ _ _ w u1 u3 u2 u4 h2 h3 (Lib.hid f1) (Lib.hid f2) (Lib.hid (IH h0 h1 hr.1 hr.2 hs.1 hs.2))
        rw [Int.mul_comm d, Int.mul_comm b] at H
        exact H
  · have r1 := less_floor hb.1 hd.1 hpq
    rw [r1]
    exact less_ne a b c d _ _ w (by simpa using hpq) (Lib.hid f1) (Lib.hid f2)
theorem less_all : ∀ (k : Nat) (a b c d : Int), b + d ≤ k → (-4000000000000000000 ≤ a ∧ a ≤ 4000000000000000000) → (-4000000000000000000 ≤ c ∧ c ≤ 4000000000000000000) → (0 < b ∧ b ≤ 2000000000000000000) → (0 < d ∧ d ≤ 2000000000000000000) → LessOk a b c d := by
  intro k
  induction k with
  | zero => intro a b c d hk ha hc hb hd; omega
  | succ k ih =>
    intro a b c d hk ha hc hb hd
    exact less_step ha hc hb hd (fun h0 h1 h2 h3 h4 h5 => ih _ _ _ _ (by omega) (by omega) (by omega) (by omega) (by omega))
theorem spec_l4Less (a b c d : Int) (w : World) (ha : -4000000000000000000 ≤ a ∧ a ≤ 4000000000000000000) (hc : -4000000000000000000 ≤ c ∧ c ≤ 4000000000000000000) (hb : 0 < b ∧ b ≤ 2000000000000000000) (hd : 0 < d ∧ d ≤ 2000000000000000000) :
    Calls Try.prog 124 #[.int .i64 a, .int .i64 b, .int .i64 c, .int .i64 d] w fun e w' => e = .returned (.bool (decide (a * d < c * b))) ∧ w = w' :=
  less_all (b + d).toNat a b c d (by omega) ha hc hb hd w
end Go.Proofs.Ytjfmicemnoglkaa
namespace Go.Proofs.Ytjfmicemnoglkaa
open Go.RowKit
set_option linter.unusedVariables false
set_option linter.unusedSimpArgs false

theorem lw_step {rows g : List (List Int)} {w p : Int} (hl : lineOk rows = true) (hg : grdA rows g = true) (hr : ropeOk w p = true) {j : Nat} (hj : ((j + 1 : Nat) : Int) ≤ endN rows) :
    lwF rows g w p (j + 1) = if slN_ rows g w p ((j + 1 : Nat) : Int) * slD_ rows g p ((lwF rows g w p j : Nat) : Int) < slN_ rows g w p ((lwF rows g w p j : Nat) : Int) * slD_ rows g p ((j + 1 : Nat) : Int) then j + 1 else lwF rows g w p j := by
  have hle := lwF_le rows g w p j
  have K1 := clr_at hl hg hr (place := ((j + 1 : Nat) : Int)) (by omega) hj
  have K2 := clr_at hl hg hr (place := ((lwF rows g w p j : Nat) : Int)) (by omega) (by omega)
  have e := (clr_less K1 K2).trans (sl_less K1 K2).symm
  simp only [lwF]
  simp only [e]
theorem lw_asked (rows : List (List Int)) (x p : Int) : sagOk rows x p 0 = (lineOk rows && ropeOk x p) := by
  unfold sagOk onOk
  rcases ho : lineOk rows with _ | _
  · simp
  · have := (lineOk_line ho).end_pos
    have e : decide (0 ≤ (0 : Int) ∧ 0 ≤ endN rows) = true := by simp; omega
    rw [e]
    simp
theorem lw_no {rows g : List (List Int)} {w p : Int} (h : lwOk rows g w p = false) : lwA rows g w p = 0 ∧ lwN rows g w p = 0 ∧ lwD rows g w p = 0 := by simp [lwA, lwN, lwD, h]
set_option maxRecDepth 100000 in
set_option maxHeartbeats 4000000 in
theorem spec_LowestClearance (A A2 : Option Addr) (n c m c2 : Nat) (rows g : List (List Int)) (x p : Int) (wo : World) (h : RdL wo A n rows) (h2 : RdR wo 2 A2 m g) (hn : n ≤ 1048577) (hm : m ≤ 1048577) :
    Calls Try.prog 42 #[.slice A n c, .agg #[.int .i64 x, .int .i64 p], .slice A2 m c2] wo (Ret wo (.tuple #[.int .i64 (lwA rows g x p), .int .i64 (lwN rows g x p), .int .i64 (lwD rows g x p), .bool (lwOk rows g x p)])) := by
  have ci := fun w' (h' : RdL w' A n rows) => spec_l4Asked A n c rows x p 0 w' h' hn
  have cg := fun w' (h' : RdL w' A n rows) (h2' : RdR w' 2 A2 m g) => spec_l4Ground A A2 n c m c2 rows g w' h' h2' hn hm
  have HGO := Lib.hid h2
  rw [lw_asked] at ci
  rcases hs : (lineOk rows && ropeOk x p) with _ | _
  · rw [hs] at ci
    have hk : lwOk rows g x p = false := by
      simp only [Bool.and_eq_false_iff] at hs
      rcases hs with hs | hs <;> simp [lwOk, igOk, hs]
    obtain ⟨g1, g2, g3⟩ := lw_no hk
    rw [hk, g1, g2, g3]
    have CI := Lib.hid ci
    clear ci cg hk h2 hs g1 g2 g3
    go_enter Try.func42, Try.ntmps42
    go_wp2_with fail
    (have hWV : Below wo.heap.size wo (wo.alloc (.cells #[.int .i64 x, .int .i64 p] 26)) := (Below.refl _ _).alloc (Nat.le_refl _) _; have hV0 : wo.heap.size < (wo.alloc (.cells #[.int .i64 x, .int .i64 p] 26)).heap.size := (by simp); have hv0 : (wo.alloc (.cells #[.int .i64 x, .int .i64 p] 26)).cell? ⟨wo.heap.size, 0, none⟩ = some (.int .i64 x) := (by rw [cell_of_row _ _ _ _ _ _ (heap_alloc_new wo _)]; rfl); have hv1 : (wo.alloc (.cells #[.int .i64 x, .int .i64 p] 26)).cell? ⟨wo.heap.size, 1, none⟩ = some (.int .i64 p) := (by rw [cell_of_row _ _ _ _ _ _ (heap_alloc_new wo _)]; rfl); have HHW := Lib.hid hWV; have HV1 : Hid (wo.heap.size + 1 = (wo.alloc (.cells #[.int .i64 x, .int .i64 p] 26)).heap.size) := (show _ = _ by simp); generalize wo.alloc (.cells #[.int .i64 x, .int .i64 p] 26) = w at hWV HHW hV0 HV1 hv0 hv1 ⊢; have HH := Lib.hid (h.below hWV); have hB : Below w.heap.size w w := Below.refl _ _; have hwz : wo.heap.size ≤ w.heap.size := hWV.size; (try rw [HV1.out]); clear hWV)
    go_wp2_with (go_at_call 101; refine (CI.out _ (by exact HH.out.below (by repeat (first | exact Below.refl _ _ | assumption | apply Below.drew | apply below_drewN | (refine Below.alloc ?_ (by first | omega | (simp; done) | (simp; omega)) _) | (refine Below.setCell ?_ (by first | omega | (simp; done) | (simp; omega)) _))))).mono ?_; rintro e w' ⟨rfl, hb⟩; have hB : Below w.heap.size w w' := Below.thenn (by repeat (first | exact Below.refl _ _ | assumption | apply Below.drew | apply below_drewN | (refine Below.alloc ?_ (by first | omega | (simp; done) | (simp; omega)) _) | (refine Below.setCell ?_ (by first | omega | (simp; done) | (simp; omega)) _))) hb (by first | omega | (simp; done) | (simp; omega)); have hz : w.heap.size ≤ w'.heap.size := hB.size; (try (have hz1 : w.heap.size + 1 ≤ w'.heap.size := (by have h := hb.size; (try simp at h); omega))); obtain ⟨hc, hf⟩ := bcell hb; (have b0 := (hB.cell (p := ⟨wo.heap.size, 0, none⟩) hV0).trans hv0; have b1 := (hB.cell (p := ⟨wo.heap.size, 1, none⟩) hV0).trans hv1; have hVk : wo.heap.size < w'.heap.size := Nat.lt_of_lt_of_le hV0 hB.size); clear hb)
    go_light
    refine bodyPost_ret (v := .tuple #[.int .i64 0, .int .i64 0, .int .i64 0, .bool false]) ?_ rfl ⟨rfl, (Below.thenn HHW.out (show Below w.heap.size w _ from (by repeat (first | exact Below.refl _ _ | assumption | apply Below.drew | apply below_drewN | (refine Below.alloc ?_ (by first | omega | (simp; done) | (simp; omega)) _) | (refine Below.setCell ?_ (by first | omega | (simp; done) | (simp; omega)) _)))) HHW.out.size)⟩
    simp [results, Try.results42, go_sem]
  rw [hs] at ci
  rcases hg : igOk rows g with _ | _
  · rw [hg] at cg
    have hk : lwOk rows g x p = false := by simp [lwOk, hg]
    obtain ⟨g1, g2, g3⟩ := lw_no hk
    rw [hk, g1, g2, g3]
    have CI := Lib.hid ci
    have CG := Lib.hid cg
    clear ci cg hk h2 hs hg g1 g2 g3
    go_enter Try.func42, Try.ntmps42
    go_wp2_with fail
    (have hWV : Below wo.heap.size wo (wo.alloc (.cells #[.int .i64 x, .int .i64 p] 26)) := (Below.refl _ _).alloc (Nat.le_refl _) _; have hV0 : wo.heap.size < (wo.alloc (.cells #[.int .i64 x, .int .i64 p] 26)).heap.size := (by simp); have hv0 : (wo.alloc (.cells #[.int .i64 x, .int .i64 p] 26)).cell? ⟨wo.heap.size, 0, none⟩ = some (.int .i64 x) := (by rw [cell_of_row _ _ _ _ _ _ (heap_alloc_new wo _)]; rfl); have hv1 : (wo.alloc (.cells #[.int .i64 x, .int .i64 p] 26)).cell? ⟨wo.heap.size, 1, none⟩ = some (.int .i64 p) := (by rw [cell_of_row _ _ _ _ _ _ (heap_alloc_new wo _)]; rfl); have HHW := Lib.hid hWV; have HV1 : Hid (wo.heap.size + 1 = (wo.alloc (.cells #[.int .i64 x, .int .i64 p] 26)).heap.size) := (show _ = _ by simp); generalize wo.alloc (.cells #[.int .i64 x, .int .i64 p] 26) = w at hWV HHW hV0 HV1 hv0 hv1 ⊢; have HH := Lib.hid (h.below hWV); have hB : Below w.heap.size w w := Below.refl _ _; have hwz : wo.heap.size ≤ w.heap.size := hWV.size; (try rw [HV1.out]); clear hWV)
    have HG2 := Lib.hid (HGO.out.below HHW.out)
    go_wp2_with (first | (go_at_call 101; refine (CI.out _ (by exact HH.out.below (by repeat (first | exact Below.refl _ _ | assumption | apply Below.drew | apply below_drewN | (refine Below.alloc ?_ (by first | omega | (simp; done) | (simp; omega)) _) | (refine Below.setCell ?_ (by first | omega | (simp; done) | (simp; omega)) _))))).mono ?_; rintro e w' ⟨rfl, hb⟩; have hB : Below w.heap.size w w' := Below.thenn (by repeat (first | exact Below.refl _ _ | assumption | apply Below.drew | apply below_drewN | (refine Below.alloc ?_ (by first | omega | (simp; done) | (simp; omega)) _) | (refine Below.setCell ?_ (by first | omega | (simp; done) | (simp; omega)) _))) hb (by first | omega | (simp; done) | (simp; omega)); have hz : w.heap.size ≤ w'.heap.size := hB.size; (try (have hz1 : w.heap.size + 1 ≤ w'.heap.size := (by have h := hb.size; (try simp at h); omega))); obtain ⟨hc, hf⟩ := bcell hb; (have b0 := (hB.cell (p := ⟨wo.heap.size, 0, none⟩) hV0).trans hv0; have b1 := (hB.cell (p := ⟨wo.heap.size, 1, none⟩) hV0).trans hv1; have hVk : wo.heap.size < w'.heap.size := Nat.lt_of_lt_of_le hV0 hB.size); clear hb) | (go_at_call 122; refine (CG.out _ (by exact HH.out.below (by repeat (first | exact Below.refl _ _ | assumption | apply Below.drew | apply below_drewN | (refine Below.alloc ?_ (by first | omega | (simp; done) | (simp; omega)) _) | (refine Below.setCell ?_ (by first | omega | (simp; done) | (simp; omega)) _)))) (by exact HG2.out.below (by repeat (first | exact Below.refl _ _ | assumption | apply Below.drew | apply below_drewN | (refine Below.alloc ?_ (by first | omega | (simp; done) | (simp; omega)) _) | (refine Below.setCell ?_ (by first | omega | (simp; done) | (simp; omega)) _))))).mono ?_; rintro e w' ⟨rfl, hb⟩; have hB : Below w.heap.size w w' := Below.thenn (by repeat (first | exact Below.refl _ _ | assumption | apply Below.drew | apply below_drewN | (refine Below.alloc ?_ (by first | omega | (simp; done) | (simp; omega)) _) | (refine Below.setCell ?_ (by first | omega | (simp; done) | (simp; omega)) _))) hb (by first | omega | (simp; done) | (simp; omega)); have hz : w.heap.size ≤ w'.heap.size := hB.size; (try (have hz1 : w.heap.size + 1 ≤ w'.heap.size := (by have h := hb.size; (try simp at h); omega))); obtain ⟨hc, hf⟩ := bcell hb; (have b0 := (hB.cell (p := ⟨wo.heap.size, 0, none⟩) hV0).trans hv0; have b1 := (hB.cell (p := ⟨wo.heap.size, 1, none⟩) hV0).trans hv1; have hVk : wo.heap.size < w'.heap.size := Nat.lt_of_lt_of_le hV0 hB.size); clear hb))
    go_light
    refine bodyPost_ret (v := .tuple #[.int .i64 0, .int .i64 0, .int .i64 0, .bool false]) ?_ rfl ⟨rfl, (Below.thenn HHW.out (show Below w.heap.size w _ from (by repeat (first | exact Below.refl _ _ | assumption | apply Below.drew | apply below_drewN | (refine Below.alloc ?_ (by first | omega | (simp; done) | (simp; omega)) _) | (refine Below.setCell ?_ (by first | omega | (simp; done) | (simp; omega)) _)))) HHW.out.size)⟩
    simp [results, Try.results42, go_sem]
  · rw [hg] at cg
    obtain ⟨hl, hgr⟩ := igOk_iff.1 hg
    have hr : ropeOk x p = true := by simpa [hl] using hs
    have hk : lwOk rows g x p = true := by simp [lwOk, hg, hr]
    have L := lineOk_line hl
    have he := L.end_pos
    obtain ⟨E, hE⟩ : ∃ E : Nat, endN rows = (E : Int) := ⟨(endN rows).toNat, by omega⟩
    have hE8 : E ≤ 3000 := by omega
    have hn2 := L.lo
    have hn8 := L.hi
    rw [h.2.1] at hn2 hn8
    obtain ⟨b, off, hA, hb, e0, _, _⟩ := h.rowN (k := n - 1) (by omega)
    have hEE : atN rows (n - 1) = (E : Int) := by rw [← hE]; unfold endN; rw [h.2.1]
    rw [hEE] at e0
    have KA := fun (k : Nat) (hkE : k ≤ E) => clr_at hl hgr hr (place := (k : Int)) (by omega) (by omega)
    have LE := lwF_le rows g x p
    have ST := fun (j : Nat) (hj : j + 1 ≤ E) => lw_step hl hgr hr (j := j) (by omega)
    have o1 : lwA rows g x p = ((lwF rows g x p E : Nat) : Int) := by unfold lwA; rw [if_pos hk, hE]; rfl
    have o2 : lwN rows g x p = redN (slN_ rows g x p ((lwF rows g x p E : Nat) : Int)) (slD_ rows g p ((lwF rows g x p E : Nat) : Int)) := by
      unfold lwN; rw [if_pos hk, hE]; exact (clr_red (KA _ (LE E))).1
    have o3 : lwD rows g x p = redD (slN_ rows g x p ((lwF rows g x p E : Nat) : Int)) (slD_ rows g p ((lwF rows g x p E : Nat) : Int)) := by
      unfold lwD; rw [if_pos hk, hE]; exact (clr_red (KA _ (LE E))).2
    have BD := fun (k : Nat) (hkE : k ≤ E) => (KA k hkE).sl.2.2.2.2.2.2
    have cs := fun (k : Nat) (hkE : k ≤ E) w' (h' : RdL w' A n rows) (h2' : RdR w' 2 A2 m g) => spec_l4Clear A A2 n c m c2 rows g x p k w' h' h2' hn hm hl hgr hr (by omega) (by omega)
    rw [hk, o1, o2, o3]
    obtain ⟨NF, hNF⟩ : ∃ NF : Nat → Int, ∀ k : Nat, slN_ rows g x p (k : Int) = NF k := ⟨fun k => slN_ rows g x p (k : Int), fun _ => rfl⟩
    obtain ⟨DF, hDF⟩ : ∃ DF : Nat → Int, ∀ k : Nat, slD_ rows g p (k : Int) = DF k := ⟨fun k => slD_ rows g p (k : Int), fun _ => rfl⟩
    simp only [hNF, hDF] at ST BD cs ⊢
    clear o1 o2 o3 hNF hDF KA
    generalize lwF rows g x p = LF at *
    have hn1 : ((n : Int) - 1).toNat = n - 1 := by omega
    have hn3 : 0 ≤ (n : Int) - 1 := by omega
    have CI := Lib.hid ci
    have CG := Lib.hid cg
    have CS := Lib.hid cs
    have HBD := Lib.hid BD
    have HST := Lib.hid ST
    have HLE := Lib.hid LE
    have HA := Lib.hid hA
    clear ci cg cs hk hr hs hg hl hgr L hE hEE he hA h2 BD ST LE
    go_enter Try.func42, Try.ntmps42
    go_wp2_with fail
    (have hWV : Below wo.heap.size wo (wo.alloc (.cells #[.int .i64 x, .int .i64 p] 26)) := (Below.refl _ _).alloc (Nat.le_refl _) _; have hV0 : wo.heap.size < (wo.alloc (.cells #[.int .i64 x, .int .i64 p] 26)).heap.size := (by simp); have hv0 : (wo.alloc (.cells #[.int .i64 x, .int .i64 p] 26)).cell? ⟨wo.heap.size, 0, none⟩ = some (.int .i64 x) := (by rw [cell_of_row _ _ _ _ _ _ (heap_alloc_new wo _)]; rfl); have hv1 : (wo.alloc (.cells #[.int .i64 x, .int .i64 p] 26)).cell? ⟨wo.heap.size, 1, none⟩ = some (.int .i64 p) := (by rw [cell_of_row _ _ _ _ _ _ (heap_alloc_new wo _)]; rfl); have HHW := Lib.hid hWV; have HV1 : Hid (wo.heap.size + 1 = (wo.alloc (.cells #[.int .i64 x, .int .i64 p] 26)).heap.size) := (show _ = _ by simp); generalize wo.alloc (.cells #[.int .i64 x, .int .i64 p] 26) = w at hWV HHW hV0 HV1 hv0 hv1 ⊢; have HH := Lib.hid (h.below hWV); have hB : Below w.heap.size w w := Below.refl _ _; have hwz : wo.heap.size ≤ w.heap.size := hWV.size; (try rw [HV1.out]); clear hWV)
    have e1 := (HHW.out.cell (p := ⟨b, off + (n - 1) * 3, none⟩) hb).trans e0
    have HG2 := Lib.hid (HGO.out.below HHW.out)
    go_wp2_with (first | (go_at_call 101; refine (CI.out _ (by exact HH.out.below (by repeat (first | exact Below.refl _ _ | assumption | apply Below.drew | apply below_drewN | (refine Below.alloc ?_ (by first | omega | (simp; done) | (simp; omega)) _) | (refine Below.setCell ?_ (by first | omega | (simp; done) | (simp; omega)) _))))).mono ?_; rintro e w' ⟨rfl, hb⟩; have hB : Below w.heap.size w w' := Below.thenn (by repeat (first | exact Below.refl _ _ | assumption | apply Below.drew | apply below_drewN | (refine Below.alloc ?_ (by first | omega | (simp; done) | (simp; omega)) _) | (refine Below.setCell ?_ (by first | omega | (simp; done) | (simp; omega)) _))) hb (by first | omega | (simp; done) | (simp; omega)); have hz : w.heap.size ≤ w'.heap.size := hB.size; (try (have hz1 : w.heap.size + 1 ≤ w'.heap.size := (by have h := hb.size; (try simp at h); omega))); obtain ⟨hc, hf⟩ := bcell hb; (have b0 := (hB.cell (p := ⟨wo.heap.size, 0, none⟩) hV0).trans hv0; have b1 := (hB.cell (p := ⟨wo.heap.size, 1, none⟩) hV0).trans hv1; have hVk : wo.heap.size < w'.heap.size := Nat.lt_of_lt_of_le hV0 hB.size); clear hb) | (go_at_call 122; refine (CG.out _ (by exact HH.out.below (by repeat (first | exact Below.refl _ _ | assumption | apply Below.drew | apply below_drewN | (refine Below.alloc ?_ (by first | omega | (simp; done) | (simp; omega)) _) | (refine Below.setCell ?_ (by first | omega | (simp; done) | (simp; omega)) _)))) (by exact HG2.out.below (by repeat (first | exact Below.refl _ _ | assumption | apply Below.drew | apply below_drewN | (refine Below.alloc ?_ (by first | omega | (simp; done) | (simp; omega)) _) | (refine Below.setCell ?_ (by first | omega | (simp; done) | (simp; omega)) _))))).mono ?_; rintro e w' ⟨rfl, hb⟩; have hB : Below w.heap.size w w' := Below.thenn (by repeat (first | exact Below.refl _ _ | assumption | apply Below.drew | apply below_drewN | (refine Below.alloc ?_ (by first | omega | (simp; done) | (simp; omega)) _) | (refine Below.setCell ?_ (by first | omega | (simp; done) | (simp; omega)) _))) hb (by first | omega | (simp; done) | (simp; omega)); have hz : w.heap.size ≤ w'.heap.size := hB.size; (try (have hz1 : w.heap.size + 1 ≤ w'.heap.size := (by have h := hb.size; (try simp at h); omega))); obtain ⟨hc, hf⟩ := bcell hb; (have b0 := (hB.cell (p := ⟨wo.heap.size, 0, none⟩) hV0).trans hv0; have b1 := (hB.cell (p := ⟨wo.heap.size, 1, none⟩) hV0).trans hv1; have hVk : wo.heap.size < w'.heap.size := Nat.lt_of_lt_of_le hV0 hB.size); clear hb))
    obtain rfl := HA.out
    have hbw : b < w.heap.size := by omega
    go_loopg [10, 11, 12, 13] (E + 1) (fun gg best nu de i wr => ∃ (k : Nat) (a y z : Int), k ≤ E + 1 ∧ E + 1 ≤ k + gg ∧ i = .int .i64 k ∧ best = .int .i64 a ∧ nu = .int .i64 y ∧ de = .int .i64 z ∧ Below w.heap.size w wr ∧ w.heap.size ≤ wr.heap.size ∧ Hid ((k = 0 ∧ a = -1 ∧ y = 0 ∧ z = 1) ∨ ∃ j, k = j + 1 ∧ a = ((LF j : Nat) : Int) ∧ y = NF (LF j) ∧ z = DF (LF j)))
    case atStart => exact ⟨0, -1, 0, 1, by omega, by omega, rfl, rfl, rfl, rfl, (by repeat (first | exact Below.refl _ _ | assumption | apply Below.drew | apply below_drewN | (refine Below.alloc ?_ (by first | omega | (simp; done) | (simp; omega)) _) | (refine Below.setCell ?_ (by first | omega | (simp; done) | (simp; omega)) _))), by omega, Lib.hid (.inl ⟨rfl, rfl, rfl, rfl⟩)⟩
    case round =>
      obtain ⟨k, a, y, z, hk1, hk2, rfl, rfl, rfl, rfl, hBr, hzr, HG⟩ := hrel
      clear b0 b1 hc hf
      have b0 := (hBr.cell (p := ⟨wo.heap.size, 0, none⟩) hV0).trans hv0
      have b1 := (hBr.cell (p := ⟨wo.heap.size, 1, none⟩) hV0).trans hv1
      have e2 := (hBr.cell (p := ⟨b, off + (n - 1) * 3, none⟩) hbw).trans e1
      have hVr : wo.heap.size < wr.heap.size := by omega
      by_cases hlt : k ≤ E
      · have hle : decide ((k : Int) ≤ (E : Int)) = true := decide_eq_true (by omega)
        have u1 : IntKind.i64.wrap ((k : Int) + 1) = (k : Int) + 1 := IntWalk.i64_in _ (by omega)
        have CSk := Lib.hid (CS.out k hlt)
        obtain ⟨n1, d1⟩ := HBD.out k hlt
        have TK := Lib.hid hlt
        rcases HG.out with ⟨h0, h1, h3, h4⟩ | ⟨j, h0, h1, h3, h4⟩
        · subst h0 h1 h3 h4
          have hL0 : LF 0 = 0 := by have := HLE.out 0; omega
          have hd : decide ((-1 : Int) < 0) = true := rfl
          generalize hN : NF 0 = N1 at *
          generalize hD : DF 0 = D1 at *
          have HN := Lib.hid hN
          have HD := Lib.hid hD
          have HL0 := Lib.hid hL0
          clear HG hN hD hL0 hlt
          go_wp2_with (go_at_call 123; refine (CSk.out _ (by exact HH.out.below (by repeat (first | exact Below.refl _ _ | assumption | apply Below.drew | apply below_drewN | (refine Below.alloc ?_ (by first | omega | (simp; done) | (simp; omega)) _) | (refine Below.setCell ?_ (by first | omega | (simp; done) | (simp; omega)) _)))) (by exact HG2.out.below (by repeat (first | exact Below.refl _ _ | assumption | apply Below.drew | apply below_drewN | (refine Below.alloc ?_ (by first | omega | (simp; done) | (simp; omega)) _) | (refine Below.setCell ?_ (by first | omega | (simp; done) | (simp; omega)) _))))).mono ?_; rintro e w' ⟨rfl, hb⟩; have hB : Below w.heap.size w w' := Below.thenn (by repeat (first | exact Below.refl _ _ | assumption | apply Below.drew | apply below_drewN | (refine Below.alloc ?_ (by first | omega | (simp; done) | (simp; omega)) _) | (refine Below.setCell ?_ (by first | omega | (simp; done) | (simp; omega)) _))) hb (by first | omega | (simp; done) | (simp; omega)); have hz : w.heap.size ≤ w'.heap.size := hB.size; (try (have hz1 : w.heap.size + 1 ≤ w'.heap.size := (by have h := hb.size; (try simp at h); omega))); obtain ⟨hc, hf⟩ := bcell hb; (have b0 := (hB.cell (p := ⟨wo.heap.size, 0, none⟩) hV0).trans hv0; have b1 := (hB.cell (p := ⟨wo.heap.size, 1, none⟩) hV0).trans hv1; have hVk : wo.heap.size < w'.heap.size := Nat.lt_of_lt_of_le hV0 hB.size); clear hb)
          go_roundg E
          case measure => omega
          case rel => exact ⟨1, 0, N1, D1, by omega, by omega, by go_num, by go_num, rfl, rfl, (by repeat (first | exact Below.refl _ _ | assumption | apply Below.drew | apply below_drewN | (refine Below.alloc ?_ (by first | omega | (simp; done) | (simp; omega)) _) | (refine Below.setCell ?_ (by first | omega | (simp; done) | (simp; omega)) _))), by omega, Lib.hid (.inr ⟨0, rfl, by rw [HL0.out]; rfl, by rw [HL0.out, HN.out], by rw [HL0.out, HD.out]⟩)⟩
        · subst h0 h1 h3 h4
          have hm0 : decide (((LF j : Nat) : Int) < 0) = false := decide_eq_false (by omega)
          obtain ⟨n2, d2⟩ := HBD.out (LF j) (by have := HLE.out j; omega)
          have HS := Lib.hid (HST.out j hlt)
          generalize hN : NF (j + 1) = N1 at *
          generalize hD : DF (j + 1) = D1 at *
          generalize hN0 : NF (LF j) = N0 at *
          generalize hD0 : DF (LF j) = D0 at *
          have cl := fun w' => spec_l4Less N1 D1 N0 D0 w' (by omega) (by omega) (by omega) (by omega)
          have HN := Lib.hid hN
          have HD := Lib.hid hD
          have HN0 := Lib.hid hN0
          have HD0 := Lib.hid hD0
          clear HG hN hD hN0 hD0 n1 d1 n2 d2
          by_cases ht : N1 * D0 < N0 * D1
          · rw [decide_eq_true ht] at cl
            have HT := Lib.hid (HS.out.trans (if_pos ht))
            have CL := Lib.hid cl
            clear ht cl
            go_wp2_with (first | (go_at_call 123; refine (CSk.out _ (by exact HH.out.below (by repeat (first | exact Below.refl _ _ | assumption | apply Below.drew | apply below_drewN | (refine Below.alloc ?_ (by first | omega | (simp; done) | (simp; omega)) _) | (refine Below.setCell ?_ (by first | omega | (simp; done) | (simp; omega)) _)))) (by exact HG2.out.below (by repeat (first | exact Below.refl _ _ | assumption | apply Below.drew | apply below_drewN | (refine Below.alloc ?_ (by first | omega | (simp; done) | (simp; omega)) _) | (refine Below.setCell ?_ (by first | omega | (simp; done) | (simp; omega)) _))))).mono ?_; rintro e w' ⟨rfl, hb⟩; have hB : Below w.heap.size w w' := Below.thenn (by repeat (first | exact Below.refl _ _ | assumption | apply Below.drew | apply below_drewN | (refine Below.alloc ?_ (by first | omega | (simp; done) | (simp; omega)) _) | (refine Below.setCell ?_ (by first | omega | (simp; done) | (simp; omega)) _))) hb (by first | omega | (simp; done) | (simp; omega)); have hz : w.heap.size ≤ w'.heap.size := hB.size; (try (have hz1 : w.heap.size + 1 ≤ w'.heap.size := (by have h := hb.size; (try simp at h); omega))); obtain ⟨hc, hf⟩ := bcell hb; (have b0 := (hB.cell (p := ⟨wo.heap.size, 0, none⟩) hV0).trans hv0; have b1 := (hB.cell (p := ⟨wo.heap.size, 1, none⟩) hV0).trans hv1; have hVk : wo.heap.size < w'.heap.size := Nat.lt_of_lt_of_le hV0 hB.size); clear hb) | (go_at_call 124; refine (CL.out _).mono ?_; rintro e w' ⟨rfl, rfl⟩))
            go_roundg (E - (j + 1))
            case measure => omega
            case rel => exact ⟨j + 1 + 1, (j + 1 : Nat), N1, D1, by omega, by omega, by go_num, rfl, rfl, rfl, (by repeat (first | exact Below.refl _ _ | assumption | apply Below.drew | apply below_drewN | (refine Below.alloc ?_ (by first | omega | (simp; done) | (simp; omega)) _) | (refine Below.setCell ?_ (by first | omega | (simp; done) | (simp; omega)) _))), by omega, Lib.hid (.inr ⟨j + 1, rfl, by rw [HT.out], by rw [HT.out, HN.out], by rw [HT.out, HD.out]⟩)⟩
          · rw [decide_eq_false ht] at cl
            have HT := Lib.hid (HS.out.trans (if_neg ht))
            have CL := Lib.hid cl
            clear ht cl
            go_wp2_with (first | (go_at_call 123; refine (CSk.out _ (by exact HH.out.below (by repeat (first | exact Below.refl _ _ | assumption | apply Below.drew | apply below_drewN | (refine Below.alloc ?_ (by first | omega | (simp; done) | (simp; omega)) _) | (refine Below.setCell ?_ (by first | omega | (simp; done) | (simp; omega)) _)))) (by exact HG2.out.below (by repeat (first | exact Below.refl _ _ | assumption | apply Below.drew | apply below_drewN | (refine Below.alloc ?_ (by first | omega | (simp; done) | (simp; omega)) _) | (refine Below.setCell ?_ (by first | omega | (simp; done) | (simp; omega)) _))))).mono ?_; rintro e w' ⟨rfl, hb⟩; have hB : Below w.heap.size w w' := Below.thenn (by repeat (first | exact Below.refl _ _ | assumption | apply Below.drew | apply below_drewN | (refine Below.alloc ?_ (by first | omega | (simp; done) | (simp; omega)) _) | (refine Below.setCell ?_ (by first | omega | (simp; done) | (simp; omega)) _))) hb (by first | omega | (simp; done) | (simp; omega)); have hz : w.heap.size ≤ w'.heap.size := hB.size; (try (have hz1 : w.heap.size + 1 ≤ w'.heap.size := (by have h := hb.size; (try simp at h); omega))); obtain ⟨hc, hf⟩ := bcell hb; (have b0 := (hB.cell (p := ⟨wo.heap.size, 0, none⟩) hV0).trans hv0; have b1 := (hB.cell (p := ⟨wo.heap.size, 1, none⟩) hV0).trans hv1; have hVk : wo.heap.size < w'.heap.size := Nat.lt_of_lt_of_le hV0 hB.size); clear hb) | (go_at_call 124; refine (CL.out _).mono ?_; rintro e w' ⟨rfl, rfl⟩))
            go_roundg (E - (j + 1))
            case measure => omega
            case rel => exact ⟨j + 1 + 1, (LF j : Nat), N0, D0, by omega, by omega, by go_num, rfl, rfl, rfl, (by repeat (first | exact Below.refl _ _ | assumption | apply Below.drew | apply below_drewN | (refine Below.alloc ?_ (by first | omega | (simp; done) | (simp; omega)) _) | (refine Below.setCell ?_ (by first | omega | (simp; done) | (simp; omega)) _))), by omega, Lib.hid (.inr ⟨j + 1, rfl, by rw [HT.out], by rw [HT.out, HN0.out], by rw [HT.out, HD0.out]⟩)⟩
      · rcases HG.out with ⟨h0, h1, h3, h4⟩ | ⟨j, h0, h1, h3, h4⟩
        · omega
        · obtain rfl : j = E := by omega
          subst h0 h1 h3 h4
          have hle : decide (((j + 1 : Nat) : Int) ≤ (j : Int)) = false := decide_eq_false (by omega)
          obtain ⟨n1, d1⟩ := HBD.out (LF j) (by have := HLE.out j; omega)
          have cl := fun w' => spec_l2Reduce (NF (LF j)) (DF (LF j)) w' (by omega) (by omega)
          clear HG n1 d1
          generalize redN (NF (LF j)) (DF (LF j)) = rn at *
          generalize redD (NF (LF j)) (DF (LF j)) = rd at *
          generalize NF (LF j) = N0 at *
          generalize DF (LF j) = D0 at *
          generalize LF j = q at *
          have CL := Lib.hid cl
          clear cl
          go_wp2_with (go_at_call 104; refine ((CL.out _).mono (fun _ _ hq => hq.ret)).mono ?_; rintro e w' ⟨rfl, hb⟩; have hB : Below w.heap.size w w' := Below.thenn (by repeat (first | exact Below.refl _ _ | assumption | apply Below.drew | apply below_drewN | (refine Below.alloc ?_ (by first | omega | (simp; done) | (simp; omega)) _) | (refine Below.setCell ?_ (by first | omega | (simp; done) | (simp; omega)) _))) hb (by first | omega | (simp; done) | (simp; omega)); have hz : w.heap.size ≤ w'.heap.size := hB.size; (try (have hz1 : w.heap.size + 1 ≤ w'.heap.size := (by have h := hb.size; (try simp at h); omega))); obtain ⟨hc, hf⟩ := bcell hb; (have b0 := (hB.cell (p := ⟨wo.heap.size, 0, none⟩) hV0).trans hv0; have b1 := (hB.cell (p := ⟨wo.heap.size, 1, none⟩) hV0).trans hv1; have hVk : wo.heap.size < w'.heap.size := Nat.lt_of_lt_of_le hV0 hB.size); clear hb)
          go_light
          refine bodyPost_ret (v := .tuple #[.int .i64 q, .int .i64 rn, .int .i64 rd, .bool true]) ?_ rfl ⟨rfl, (Below.thenn HHW.out (show Below w.heap.size w _ from (by repeat (first | exact Below.refl _ _ | assumption | apply Below.drew | apply below_drewN | (refine Below.alloc ?_ (by first | omega | (simp; done) | (simp; omega)) _) | (refine Below.setCell ?_ (by first | omega | (simp; done) | (simp; omega)) _)))) HHW.out.size)⟩
          simp [results, Try.results42, go_sem]
end Go.Proofs.Ytjfmicemnoglkaa
