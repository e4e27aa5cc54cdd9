/- Contracts of the laws' own functions on Ticket and lists of them. -/
import Derived.Test.YtobcgcdjoogfnaaFlat
import Derived.Test.YtobcgcdjoogfnaaTickC
namespace Go.Proofs.Ytobcgcdjoogfnaa
open Go.RowKit
set_option linter.unusedVariables false
set_option linter.unusedSimpArgs false
theorem info_Ticket : (Try.prog.info? 25).map (fun i => (i.zero, i.size, i.bytes)) = some (some (.agg #[.int .i64 0, .int .i64 0, .int .i64 0, .int .i64 0, .int .i64 0]), 5, 40) := by kernel_rfl
theorem made_Ticket (m : Nat) : (madeCells (Value.agg #[.int .i64 0, .int .i64 0, .int .i64 0, .int .i64 0, .int .i64 0]).cells m).toList = List.replicate m (.int .i64 0) :=
  madeCells_same (z := #[.int .i64 0, .int .i64 0, .int .i64 0, .int .i64 0, .int .i64 0]) (u := .int .i64 0) (by intro j hj; simp at hj; (rcases j with _ | _ | _ | _ | _ | j) <;> first | rfl | (exfalso; omega)) (by simp) m
theorem laws_toTicket (x0 x1 x2 x3 x4 : Int) (w : World) : Calls Try.prog 16 #[.agg #[.int .i64 x0, .int .i64 x1, .int .i64 x2, .int .i64 x3, .int .i64 x4]] w (Ret w (.agg #[.int .i64 x0, .int .i64 x1, .int .i64 x2, .int .i64 x3, .int .i64 x4])) := by
  go_enter Try.func16, Try.ntmps16
  go_wp2
  all_goals (go_light; refine bodyPost_ret ?_ rfl ⟨rfl, (by repeat (first | exact Below.refl _ _ | assumption | apply Below.drew | apply below_drewN | (refine Below.alloc ?_ (by first | omega | (simp; done) | (simp; omega)) _) | (refine Below.setCell ?_ (by first | omega | (simp; done) | (simp; omega)) _)))⟩; simp [results, Try.results16, go_sem, *])
theorem laws_eqTicket (x0 x1 x2 x3 x4 : Int) (w : World) : Calls Try.prog 70 #[.agg #[.int .i64 x0, .int .i64 x1, .int .i64 x2, .int .i64 x3, .int .i64 x4], .agg #[.int .i64 x0, .int .i64 x1, .int .i64 x2, .int .i64 x3, .int .i64 x4]] w (Ret w (.bool true)) := by
  go_enter Try.func70, Try.ntmps70
  go_wp2
  all_goals (go_ret; exact ⟨rfl, (by repeat (first | exact Below.refl _ _ | assumption | apply Below.drew | apply below_drewN | (refine Below.alloc ?_ (by first | omega | (simp; done) | (simp; omega)) _) | (refine Below.setCell ?_ (by first | omega | (simp; done) | (simp; omega)) _)))⟩)
theorem laws_szTicketS (A : Option Addr) (n c : Nat) (z : Int) (w : World) (h0 : (n : Int) ≤ z) (h1 : z ≤ 1048576) : Calls Try.prog 28 #[.slice A n c, .int .i64 z] w fun e w' => e = .returned (.int .i64 (z - (n : Int))) ∧ w = w' := by
  have h2 : ¬ (z - (n : Int) < 0) := by omega
  go_enter Try.func28, Try.ntmps28
  go_wp2
  all_goals (go_ret; exact ⟨rfl, rfl⟩)
theorem laws_szTicketS_big (A : Option Addr) (n c : Nat) (z : Int) (w : World) (h0 : z < (n : Int)) (h1 : 0 ≤ z) (h3 : z ≤ 1048576) (hm : n ≤ 9223372036854775807) : Calls Try.prog 28 #[.slice A n c, .int .i64 z] w fun e w' => e = .returned (.int .i64 (-1)) ∧ w = w' := by
  have h2 : z - (n : Int) < 0 := by omega
  go_enter Try.func28, Try.ntmps28
  go_wp2
  all_goals (go_ret; exact ⟨rfl, rfl⟩)
set_option maxHeartbeats 2000000 in
theorem laws_toTicketS (A : Option Addr) (n c : Nat) (rows : List (List Int)) (w : World) (h : RdR w 5 A n rows) (hn : n ≤ 1048576) :
    Calls Try.prog 30 #[.slice A n c] w (RetR w 25 5 rows) := by
  have hl := Lib.hid h.2.2
  have hlz := Lib.hid h.lenZ
  obtain ⟨i0, hi0, hz0, hz1, hz2⟩ := info_parts info_Ticket
  obtain ⟨w1, hmk, how, hgr⟩ := run_make_full (P := Try.prog) w w.heap.size 47 25 i0 _ 5 Try.underlying47 hi0 hz0 hz1 .i64 .i64 n (by rw [hz2]; omega) (by simp only [maxLen]; omega) (Nat.le_refl _)
  rw [made_Ticket] at how
  have ho : OwF w1 w.heap.size 25 5 (.slice (some ⟨w.heap.size, 0, none⟩) n n) n (mixC rows.flatten (List.replicate (n * 5) 0) (0 * 5)) := by
    rw [Nat.zero_mul, mixC_zero]
    unfold OwF
    rw [IV_rep]
    exact how
  have hb1 : Below w.heap.size w w1 := (Below.refl _ _).grown hgr (Nat.le_refl _) (fun k hk => by cases hk)
  have hs1 : w.heap.size ≤ w1.heap.size := hgr.size
  have HO := Lib.hid ho
  clear ho how hgr hi0 hz0 hz1 hz2
  go_enter Try.func30, Try.ntmps30
  go_wp2
  clear hmk
  go_loopg [4] n (fun g i wr => ∃ k : Nat, k ≤ n ∧ n ≤ k + g ∧ i = .int .i64 k ∧ Below w.heap.size w wr ∧ w.heap.size ≤ wr.heap.size ∧ Hid (OwF wr w.heap.size 25 5 (.slice (some ⟨w.heap.size, 0, none⟩) n n) n (mixC rows.flatten (List.replicate (n * 5) 0) (k * 5))))
  case atStart => exact ⟨0, by omega, by omega, rfl, hb1, hs1, HO.out⟩
  case round =>
    clear hb1 hs1 HO
    obtain ⟨k, hk1, hk2, rfl, hBr, hzr, ha⟩ := hrel
    by_cases hlt : k < n
    · obtain ⟨b, off, x0, x1, x2, x3, x4, rfl, hr, hblt, c0, c1, c2, c3, c4⟩ := h.row5 hlt
      rw [← hBr.cell (p := ⟨b, _, none⟩) hblt] at c0 c1 c2 c3 c4
      have hbr : b < wr.heap.size := by omega
      obtain ⟨g', e', _, hgl, hcs, hfs⟩ := ha.out.cellsAt (by omega)
      injection e' with e'
      injection e' with e'
      subst e'
      obtain ⟨y0, _, d0⟩ := hcs (k * 5) (by omega)
      have f0 := hfs (k * 5)
      obtain ⟨y1, _, d1⟩ := hcs (k * 5 + 1) (by omega)
      have f1 := hfs (k * 5 + 1)
      obtain ⟨y2, _, d2⟩ := hcs (k * 5 + 2) (by omega)
      have f2 := hfs (k * 5 + 2)
      obtain ⟨y3, _, d3⟩ := hcs (k * 5 + 3) (by omega)
      have f3 := hfs (k * 5 + 3)
      obtain ⟨y4, _, d4⟩ := hcs (k * 5 + 4) (by omega)
      have f4 := hfs (k * 5 + 4)
      have HR := Lib.hid hr
      clear hr hcs hfs
      go_wp2_with (go_at_call 16; refine (laws_toTicket _ _ _ _ _ _).mono ?_; rintro e w' ⟨rfl, hb⟩; have hB : Below w.heap.size w w' := Below.thenn (by repeat (first | exact Below.refl _ _ | assumption | apply Below.drew | apply below_drewN | (refine Below.alloc ?_ (by first | omega | (simp; done) | (simp; omega)) _) | (refine Below.setCell ?_ (by first | omega | (simp; done) | (simp; omega)) _))) hb (by first | omega | (simp; done) | (simp; omega)); have hz : w.heap.size ≤ w'.heap.size := hB.size; (try (have hz1 : w.heap.size + 1 ≤ w'.heap.size := (by have h := hb.size; (try simp at h); omega))); obtain ⟨hc, hf⟩ := bcell hb; have HO1 := Lib.hid (ha.out.below hb); clear hb)
      go_roundg (n - (k + 1))
      case measure => omega
      case rel =>
        have hE := h.2.1
        have z0 : rows.flatten[k * 5]? = some x0 := flat_fld (F := 5) (j := 0) hE HR.out (by omega) rfl
        have z1 : rows.flatten[k * 5 + 1]? = some x1 := flat_fld (F := 5) (j := 1) hE HR.out (by omega) rfl
        have z2 : rows.flatten[k * 5 + 2]? = some x2 := flat_fld (F := 5) (j := 2) hE HR.out (by omega) rfl
        have z3 : rows.flatten[k * 5 + 3]? = some x3 := flat_fld (F := 5) (j := 3) hE HR.out (by omega) rfl
        have z4 : rows.flatten[k * 5 + 4]? = some x4 := flat_fld (F := 5) (j := 4) hE HR.out (by omega) rfl
        have o0 := HO1.out
        have o1 := o0.mix1 z0 (by simp; omega)
        have o2 := o1.mix1 z1 (by simp; omega)
        have o3 := o2.mix1 z2 (by simp; omega)
        have o4 := o3.mix1 z3 (by simp; omega)
        have o5 := o4.mix1 z4 (by simp; omega)
        refine ⟨k + 1, by omega, by omega, by go_num, (by repeat (first | exact Below.refl _ _ | assumption | apply Below.drew | apply below_drewN | (refine Below.alloc ?_ (by first | omega | (simp; done) | (simp; omega)) _) | (refine Below.setCell ?_ (by first | omega | (simp; done) | (simp; omega)) _))), ?_, ?_⟩
        · (simp [World.setCell]; omega)
        · have e1 : (k + 1) * 5 = k * 5 + 5 := by omega
          rw [e1]
          exact o5
    · go_wp2_with fail
      go_ret
      have hkn : k = n := by omega
      subst hkn
      have o0 := ha.out
      rw [mixC_end (by rw [hlz.out]; exact Nat.le_refl _) (by simp)] at o0
      refine ⟨some ⟨w.heap.size, 0, none⟩, k, ret_s hl.out.symm, ⟨?_, h.2.1⟩, hBr⟩
      rw [hl.out]
      exact o0
end Go.Proofs.Ytobcgcdjoogfnaa
