/- AUTO. Contracts of the laws' own functions on Brake and lists of them. -/
import Derived.Test.YthijklidjdhkdaaFlat
namespace Go.Proofs.Ythijklidjdhkdaa
open Go.RowKit
set_option linter.unusedVariables false
set_option linter.unusedSimpArgs false
theorem info_Brake : (Try.prog.info? 56).map (fun i => (i.zero, i.size, i.bytes)) = some (some (.agg #[.int .i64 0, .int .i64 0]), 2, 16) := by kernel_rfl
theorem made_Brake (m : Nat) : (madeCells (Value.agg #[.int .i64 0, .int .i64 0]).cells m).toList = List.replicate m (.int .i64 0) :=
  madeCells_same (z := #[.int .i64 0, .int .i64 0]) (u := .int .i64 0) (by intro j hj; simp at hj; (rcases j with _ | _ | j) <;> first | rfl | (exfalso; omega)) (by simp) m
theorem laws_toBrake (x0 x1 : Int) (w : World) : Calls Try.prog 73 #[.agg #[.int .i64 x0, .int .i64 x1]] w (Ret w (.agg #[.int .i64 x0, .int .i64 x1])) := by
  go_enter Try.func73, Try.ntmps73
  go_wp2
  all_goals (go_light; refine bodyPost_ret ?_ rfl ⟨rfl, (by repeat (first | exact Below.refl _ _ | assumption | apply Below.drew | apply below_drewN | (refine Below.alloc ?_ (by first | omega | (simp; done) | (simp; omega)) _) | (refine Below.setCell ?_ (by first | omega | (simp; done) | (simp; omega)) _)))⟩; simp [results, Try.results73, go_sem, *])
theorem laws_eqBrake (x0 x1 : Int) (w : World) : Calls Try.prog 75 #[.agg #[.int .i64 x0, .int .i64 x1], .agg #[.int .i64 x0, .int .i64 x1]] w (Ret w (.bool true)) := by
  go_enter Try.func75, Try.ntmps75
  go_wp2
  all_goals (go_ret; exact ⟨rfl, (by repeat (first | exact Below.refl _ _ | assumption | apply Below.drew | apply below_drewN | (refine Below.alloc ?_ (by first | omega | (simp; done) | (simp; omega)) _) | (refine Below.setCell ?_ (by first | omega | (simp; done) | (simp; omega)) _)))⟩)
theorem laws_szBrakeS (A : Option Addr) (n c : Nat) (z : Int) (w : World) (h0 : (n : Int) ≤ z) (h1 : z ≤ 1048576) : Calls Try.prog 48 #[.slice A n c, .int .i64 z] w fun e w' => e = .returned (.int .i64 (z - (n : Int))) ∧ w = w' := by
  have h2 : ¬ (z - (n : Int) < 0) := by omega
  go_enter Try.func48, Try.ntmps48
  go_wp2
  all_goals (go_ret; exact ⟨rfl, rfl⟩)
theorem laws_szBrakeS_big (A : Option Addr) (n c : Nat) (z : Int) (w : World) (h0 : z < (n : Int)) (h1 : 0 ≤ z) (h3 : z ≤ 1048576) (hm : n ≤ 9223372036854775807) : Calls Try.prog 48 #[.slice A n c, .int .i64 z] w fun e w' => e = .returned (.int .i64 (-1)) ∧ w = w' := by
  have h2 : z - (n : Int) < 0 := by omega
  go_enter Try.func48, Try.ntmps48
  go_wp2
  all_goals (go_ret; exact ⟨rfl, rfl⟩)
set_option maxHeartbeats 2000000 in
theorem laws_toBrakeS (A : Option Addr) (n c : Nat) (rows : List (List Int)) (w : World) (h : RdR w 2 A n rows) (hn : n ≤ 1048576) :
    Calls Try.prog 50 #[.slice A n c] w (RetR w 56 2 rows) := by
  have hl := Lib.hid h.2.2
  have hlz := Lib.hid h.lenZ
  obtain ⟨i0, hi0, hz0, hz1, hz2⟩ := info_parts info_Brake
  obtain ⟨w1, hmk, how, hgr⟩ := run_make_full (P := Try.prog) w w.heap.size 27 56 i0 _ 2 Try.underlying27 hi0 hz0 hz1 .i64 .i64 n (by rw [hz2]; omega) (by simp only [maxLen]; omega) (Nat.le_refl _)
  rw [made_Brake] at how
  have ho : OwF w1 w.heap.size 56 2 (.slice (some ⟨w.heap.size, 0, none⟩) n n) n (mixC rows.flatten (List.replicate (n * 2) 0) (0 * 2)) := by
    rw [Nat.zero_mul, mixC_zero]
    unfold OwF
    rw [IV_rep]
    exact how
  have hb1 : Below w.heap.size w w1 := (Below.refl _ _).grown hgr (Nat.le_refl _) (fun k hk => by cases hk)
  have hs1 : w.heap.size ≤ w1.heap.size := hgr.size
  have HO := Lib.hid ho
  clear ho how hgr hi0 hz0 hz1 hz2
  go_enter Try.func50, Try.ntmps50
  go_wp2
  clear hmk
  go_loopg [4] n (fun g i wr => ∃ k : Nat, k ≤ n ∧ n ≤ k + g ∧ i = .int .i64 k ∧ Below w.heap.size w wr ∧ w.heap.size ≤ wr.heap.size ∧ Hid (OwF wr w.heap.size 56 2 (.slice (some ⟨w.heap.size, 0, none⟩) n n) n (mixC rows.flatten (List.replicate (n * 2) 0) (k * 2))))
  case atStart => exact ⟨0, by omega, by omega, rfl, hb1, hs1, HO.out⟩
  case round =>
    clear hb1 hs1 HO
    obtain ⟨k, hk1, hk2, rfl, hBr, hzr, ha⟩ := hrel
    by_cases hlt : k < n
    · obtain ⟨b, off, x0, x1, rfl, hr, hblt, c0, c1⟩ := h.row2 hlt
      rw [← hBr.cell (p := ⟨b, _, none⟩) hblt] at c0 c1
      have hbr : b < wr.heap.size := by omega
      obtain ⟨g', e', _, hgl, hcs, hfs⟩ := ha.out.cellsAt (by omega)
      injection e' with e'
      injection e' with e'
      subst e'
      obtain ⟨y0, _, d0⟩ := hcs (k * 2) (by omega)
      have f0 := hfs (k * 2)
      obtain ⟨y1, _, d1⟩ := hcs (k * 2 + 1) (by omega)
      have f1 := hfs (k * 2 + 1)
      have HR := Lib.hid hr
      clear hr hcs hfs
      go_wp2_with (go_at_call 73; refine (laws_toBrake _ _ _).mono ?_; rintro e w' ⟨rfl, hb⟩; have hB : Below w.heap.size w w' := Below.thenn (by repeat (first | exact Below.refl _ _ | assumption | apply Below.drew | apply below_drewN | (refine Below.alloc ?_ (by first | omega | (simp; done) | (simp; omega)) _) | (refine Below.setCell ?_ (by first | omega | (simp; done) | (simp; omega)) _))) hb (by first | omega | (simp; done) | (simp; omega)); have hz : w.heap.size ≤ w'.heap.size := hB.size; (try (have hz1 : w.heap.size + 1 ≤ w'.heap.size := (by have h := hb.size; (try simp at h); omega))); obtain ⟨hc, hf⟩ := bcell hb; have HO1 := Lib.hid (ha.out.below hb); clear hb)
      go_roundg (n - (k + 1))
      case measure => omega
      case rel =>
        have hE := h.2.1
        have z0 : rows.flatten[k * 2]? = some x0 := flat_fld (F := 2) (j := 0) hE HR.out (by omega) rfl
        have z1 : rows.flatten[k * 2 + 1]? = some x1 := flat_fld (F := 2) (j := 1) hE HR.out (by omega) rfl
        have o0 := HO1.out
        have o1 := o0.mix1 z0 (by simp; omega)
        have o2 := o1.mix1 z1 (by simp; omega)
        refine ⟨k + 1, by omega, by omega, by go_num, (by repeat (first | exact Below.refl _ _ | assumption | apply Below.drew | apply below_drewN | (refine Below.alloc ?_ (by first | omega | (simp; done) | (simp; omega)) _) | (refine Below.setCell ?_ (by first | omega | (simp; done) | (simp; omega)) _))), ?_, ?_⟩
        · (simp [World.setCell]; omega)
        · have e1 : (k + 1) * 2 = k * 2 + 2 := by omega
          rw [e1]
          exact o2
    · go_wp2_with fail
      go_ret
      have hkn : k = n := by omega
      subst hkn
      have o0 := ha.out
      rw [mixC_end (by rw [hlz.out]; exact Nat.le_refl _) (by simp)] at o0
      refine ⟨some ⟨w.heap.size, 0, none⟩, k, ret_s hl.out.symm, ⟨?_, h.2.1⟩, hBr⟩
      rw [hl.out]
      exact o0
end Go.Proofs.Ythijklidjdhkdaa
