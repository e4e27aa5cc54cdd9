/- The tickets: what the reference's and the program's functions on one ticket return. -/
import Derived.Test.YtobcgcdjoogfnaaBase
import Derived.Test.YtobcgcdjoogfnaaStruct
namespace Go.Proofs.Ytobcgcdjoogfnaa
open Go.RowKit
set_option linter.unusedVariables false
set_option linter.unusedSimpArgs false

def kU (k u d : Int) : Int := if k = 0 then 1 - (u + d) else if k = 1 then 1 - u else if k = 2 then 50 - u else 10 - (u + d)
def kD (k u d : Int) : Int := if k = 0 then 1 - (u + d) else if k = 1 then 1 - d else if k = 2 then 50 - d else 10 - (u + d)
def lastD (k dy : Int) : Int := if k = 2 then dy else if k = 3 then dy + 364 else dy + 1
def tickR (n k dy u d : Int) : Bool := decide (1 ≤ n ∧ n ≤ 9999 ∧ 0 ≤ k ∧ k ≤ 3 ∧ 0 ≤ dy ∧ dy ≤ 999 ∧ 0 ≤ u ∧ u ≤ 50 ∧ 0 ≤ d ∧ d ≤ 50)
def tickOk (n k dy u d : Int) : Bool := tickR n k dy u d && decide (0 ≤ kU k u d ∧ 0 ≤ kD k u d)
theorem tickR_iff {n k dy u d : Int} : tickR n k dy u d = true ↔ (1 ≤ n ∧ n ≤ 9999 ∧ 0 ≤ k ∧ k ≤ 3 ∧ 0 ≤ dy ∧ dy ≤ 999 ∧ 0 ≤ u ∧ u ≤ 50 ∧ 0 ≤ d ∧ d ≤ 50) := by simp [tickR]
theorem tickOk_iff {n k dy u d : Int} : tickOk n k dy u d = true ↔ (1 ≤ n ∧ n ≤ 9999 ∧ 0 ≤ k ∧ k ≤ 3 ∧ 0 ≤ dy ∧ dy ≤ 999 ∧ 0 ≤ u ∧ u ≤ 50 ∧ 0 ≤ d ∧ d ≤ 50) ∧ 0 ≤ kU k u d ∧ 0 ≤ kD k u d := by simp [tickOk, tickR_iff]
def openOn (k dy day : Int) : Bool := decide (dy ≤ day ∧ day ≤ lastD k dy)
abbrev tv (n k dy u d : Int) : Value := .agg #[.int .i64 n, .int .i64 k, .int .i64 dy, .int .i64 u, .int .i64 d]

theorem impl_isDay (v : Int) (w : World) : Calls Try.prog 58 #[.int .i64 v] w fun e w' => e = .returned (.bool (inr v 0 999)) ∧ w = w' := by
  go_enter Try.func58, Try.ntmps58
  go_wp2_with (go_at_call 57; refine (impl_within _ _ _ _).mono ?_; rintro e w' ⟨rfl, rfl⟩)
  go_ret
  exact ⟨rfl, rfl⟩
theorem spec_l11Day (v : Int) (w : World) : Calls Try.prog 60 #[.int .i64 v] w fun e w' => e = .returned (.bool (inr v 0 999)) ∧ w = w' := by
  go_enter Try.func60, Try.ntmps60
  go_wp2_with (go_at_call 66; refine (spec_l1In _ _ _ _).mono ?_; rintro e w' ⟨rfl, rfl⟩)
  go_ret
  exact ⟨rfl, rfl⟩
theorem spec_l11Kind (v : Int) (w : World) : Calls Try.prog 83 #[.int .i64 v] w fun e w' => e = .returned (.bool (inr v 0 3)) ∧ w = w' := by
  go_enter Try.func83, Try.ntmps83
  go_wp2_with (go_at_call 66; refine (spec_l1In _ _ _ _).mono ?_; rintro e w' ⟨rfl, rfl⟩)
  go_ret
  exact ⟨rfl, rfl⟩
theorem impl_left (n k dy u d : Int) (w : World) (hu : 0 ≤ u ∧ u ≤ 50) (hd : 0 ≤ d ∧ d ≤ 50) : Calls Try.prog 59 #[.agg #[.int .i64 n, .int .i64 k, .int .i64 dy, .int .i64 u, .int .i64 d]] w
    (Ret w (.tuple #[.int .i64 (kU k u d), .int .i64 (kD k u d)])) := by
  have hu1 := hu.1
  have hu2 := hu.2
  have hd1 := hd.1
  have hd2 := hd.2
  clear hu hd
  have w0 : IntKind.i64.wrap (1 - u) = 1 - u := IntWalk.i64_in _ (by omega)
  have w1 : IntKind.i64.wrap (1 - d) = 1 - d := IntWalk.i64_in _ (by omega)
  have w2 : IntKind.i64.wrap (50 - u) = 50 - u := IntWalk.i64_in _ (by omega)
  have w3 : IntKind.i64.wrap (50 - d) = 50 - d := IntWalk.i64_in _ (by omega)
  have w4 : IntKind.i64.wrap (1 - u - d) = 1 - u - d := IntWalk.i64_in _ (by omega)
  have w5 : IntKind.i64.wrap (10 - u - d) = 10 - u - d := IntWalk.i64_in _ (by omega)
  have w6 : IntKind.i64.wrap (u + d) = u + d := IntWalk.i64_in _ (by omega)
  have w8 : IntKind.i64.wrap (1 - (u + d)) = 1 - (u + d) := IntWalk.i64_in _ (by omega)
  have w9 : IntKind.i64.wrap (10 - (u + d)) = 10 - (u + d) := IntWalk.i64_in _ (by omega)
  by_cases h0 : k = 0
  · subst h0
    rw [show kU 0 u d = 1 - (u + d) by simp [kU]; try omega, show kD 0 u d = 1 - (u + d) by simp [kD]; try omega]
    go_enter Try.func59, Try.ntmps59
    go_wp2_with fail
    try (go_quiet (fail); go_wp2_with fail)
    go_ret2
    exact ⟨rfl, (by repeat (first | exact Below.refl _ _ | assumption | apply Below.drew | apply below_drewN | (refine Below.alloc ?_ (by first | omega | (simp; done) | (simp; omega)) _) | (refine Below.setCell ?_ (by first | omega | (simp; done) | (simp; omega)) _)))⟩
  by_cases h1 : k = 1
  · subst h1
    rw [show kU 1 u d = 1 - u by simp [kU]; try omega, show kD 1 u d = 1 - d by simp [kD]; try omega]
    go_enter Try.func59, Try.ntmps59
    go_wp2_with fail
    try (go_quiet (fail); go_wp2_with fail)
    go_ret2
    exact ⟨rfl, (by repeat (first | exact Below.refl _ _ | assumption | apply Below.drew | apply below_drewN | (refine Below.alloc ?_ (by first | omega | (simp; done) | (simp; omega)) _) | (refine Below.setCell ?_ (by first | omega | (simp; done) | (simp; omega)) _)))⟩
  by_cases h2 : k = 2
  · subst h2
    rw [show kU 2 u d = 50 - u by simp [kU]; try omega, show kD 2 u d = 50 - d by simp [kD]; try omega]
    go_enter Try.func59, Try.ntmps59
    go_wp2_with fail
    try (go_quiet (fail); go_wp2_with fail)
    go_ret2
    exact ⟨rfl, (by repeat (first | exact Below.refl _ _ | assumption | apply Below.drew | apply below_drewN | (refine Below.alloc ?_ (by first | omega | (simp; done) | (simp; omega)) _) | (refine Below.setCell ?_ (by first | omega | (simp; done) | (simp; omega)) _)))⟩
  rw [show kU k u d = 10 - (u + d) by simp [kU, *]; try omega, show kD k u d = 10 - (u + d) by simp [kD, *]; try omega]
  go_enter Try.func59, Try.ntmps59
  go_wp2_with fail
  try (go_quiet (fail); go_wp2_with fail)
  go_ret2
  exact ⟨rfl, (by repeat (first | exact Below.refl _ _ | assumption | apply Below.drew | apply below_drewN | (refine Below.alloc ?_ (by first | omega | (simp; done) | (simp; omega)) _) | (refine Below.setCell ?_ (by first | omega | (simp; done) | (simp; omega)) _)))⟩
theorem spec_l11Left (n k dy u d : Int) (w : World) (hu : 0 ≤ u ∧ u ≤ 50) (hd : 0 ≤ d ∧ d ≤ 50) : Calls Try.prog 84 #[.agg #[.int .i64 n, .int .i64 k, .int .i64 dy, .int .i64 u, .int .i64 d]] w
    (Ret w (.tuple #[.int .i64 (kU k u d), .int .i64 (kD k u d)])) := by
  have hu1 := hu.1
  have hu2 := hu.2
  have hd1 := hd.1
  have hd2 := hd.2
  clear hu hd
  have w0 : IntKind.i64.wrap (1 - u) = 1 - u := IntWalk.i64_in _ (by omega)
  have w1 : IntKind.i64.wrap (1 - d) = 1 - d := IntWalk.i64_in _ (by omega)
  have w2 : IntKind.i64.wrap (50 - u) = 50 - u := IntWalk.i64_in _ (by omega)
  have w3 : IntKind.i64.wrap (50 - d) = 50 - d := IntWalk.i64_in _ (by omega)
  have w4 : IntKind.i64.wrap (1 - u - d) = 1 - u - d := IntWalk.i64_in _ (by omega)
  have w5 : IntKind.i64.wrap (10 - u - d) = 10 - u - d := IntWalk.i64_in _ (by omega)
  have w6 : IntKind.i64.wrap (u + d) = u + d := IntWalk.i64_in _ (by omega)
  have w8 : IntKind.i64.wrap (1 - (u + d)) = 1 - (u + d) := IntWalk.i64_in _ (by omega)
  have w9 : IntKind.i64.wrap (10 - (u + d)) = 10 - (u + d) := IntWalk.i64_in _ (by omega)
  by_cases h0 : k = 0
  · subst h0
    rw [show kU 0 u d = 1 - u - d by simp [kU]; try omega, show kD 0 u d = 1 - u - d by simp [kD]; try omega]
    go_enter Try.func84, Try.ntmps84
    go_wp2_with fail
    try (go_quiet (fail); go_wp2_with fail)
    go_ret2
    exact ⟨rfl, (by repeat (first | exact Below.refl _ _ | assumption | apply Below.drew | apply below_drewN | (refine Below.alloc ?_ (by first | omega | (simp; done) | (simp; omega)) _) | (refine Below.setCell ?_ (by first | omega | (simp; done) | (simp; omega)) _)))⟩
  by_cases h1 : k = 1
  · subst h1
    rw [show kU 1 u d = 1 - u by simp [kU]; try omega, show kD 1 u d = 1 - d by simp [kD]; try omega]
    go_enter Try.func84, Try.ntmps84
    go_wp2_with fail
    try (go_quiet (fail); go_wp2_with fail)
    go_ret2
    exact ⟨rfl, (by repeat (first | exact Below.refl _ _ | assumption | apply Below.drew | apply below_drewN | (refine Below.alloc ?_ (by first | omega | (simp; done) | (simp; omega)) _) | (refine Below.setCell ?_ (by first | omega | (simp; done) | (simp; omega)) _)))⟩
  by_cases h2 : k = 2
  · subst h2
    rw [show kU 2 u d = 50 - u by simp [kU]; try omega, show kD 2 u d = 50 - d by simp [kD]; try omega]
    go_enter Try.func84, Try.ntmps84
    go_wp2_with fail
    try (go_quiet (fail); go_wp2_with fail)
    go_ret2
    exact ⟨rfl, (by repeat (first | exact Below.refl _ _ | assumption | apply Below.drew | apply below_drewN | (refine Below.alloc ?_ (by first | omega | (simp; done) | (simp; omega)) _) | (refine Below.setCell ?_ (by first | omega | (simp; done) | (simp; omega)) _)))⟩
  rw [show kU k u d = 10 - u - d by simp [kU, *]; try omega, show kD k u d = 10 - u - d by simp [kD, *]; try omega]
  go_enter Try.func84, Try.ntmps84
  go_wp2_with fail
  try (go_quiet (fail); go_wp2_with fail)
  go_ret2
  exact ⟨rfl, (by repeat (first | exact Below.refl _ _ | assumption | apply Below.drew | apply below_drewN | (refine Below.alloc ?_ (by first | omega | (simp; done) | (simp; omega)) _) | (refine Below.setCell ?_ (by first | omega | (simp; done) | (simp; omega)) _)))⟩
end Go.Proofs.Ytobcgcdjoogfnaa
