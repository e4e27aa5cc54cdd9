/- Contracts of the laws' own functions on lists of Ticket: equal, marked, held. -/
import Derived.Test.YtobcgcdjoogfnaaFlTicket
import Derived.Deep.RegionHeld3
namespace Go.Proofs.Ytobcgcdjoogfnaa
open Go.RowKit
set_option linter.unusedVariables false
set_option linter.unusedSimpArgs false
set_option maxHeartbeats 2000000 in
theorem laws_eqTicketS (A A' : Option Addr) (n n' c c' : Nat) (rows : List (List Int)) (w : World) (h : RdR w 5 A n rows) (h' : RdR w 5 A' n' rows) (hm : n ≤ 9223372036854775807) :
    Calls Try.prog 32 #[.slice A n c, .slice A' n' c'] w (Ret w (.bool true)) := by
  have hnn : n' = n := h'.2.2.symm.trans h.2.2
  subst hnn
  go_enter Try.func32, Try.ntmps32
  go_wp2
  go_loopg [5] n' (fun g i wr => ∃ k : Nat, k ≤ n' ∧ n' ≤ k + g ∧ i = .int .i64 k ∧ Below w.heap.size w wr ∧ w.heap.size ≤ wr.heap.size)
  case atStart => exact ⟨0, by omega, by omega, rfl, Below.refl _ _, Nat.le_refl _⟩
  case round =>
    obtain ⟨k, hk1, hk2, rfl, hBr, hzr⟩ := hrel
    by_cases hlt : k < n'
    · obtain ⟨b, off, x0, x1, x2, x3, x4, rfl, hr, hblt, c0, c1, c2, c3, c4⟩ := h.row5 hlt
      obtain ⟨b', off', y0, y1, y2, y3, y4, rfl, hr', hblt', d0, d1, d2, d3, d4⟩ := h'.row5 hlt
      rw [← hBr.cell (p := ⟨b, _, none⟩) hblt] at c0 c1 c2 c3 c4
      rw [← hBr.cell (p := ⟨b', _, none⟩) hblt'] at d0 d1 d2 d3 d4
      have hbr : b < wr.heap.size := by omega
      have hbr' : b' < wr.heap.size := by omega
      rw [hr] at hr'
      simp only [Option.some.injEq, List.cons.injEq, and_true] at hr'
      obtain ⟨rfl, rfl, rfl, rfl, rfl⟩ := hr'
      clear hr
      go_wp2_with fail
      go_region_held3 (fun w' => w'.cell? ⟨b, off + k * 5, none⟩ = some (.int .i64 x0) ∧ w'.cell? ⟨b, off + k * 5 + 1, none⟩ = some (.int .i64 x1) ∧ w'.cell? ⟨b, off + k * 5 + 2, none⟩ = some (.int .i64 x2) ∧ w'.cell? ⟨b, off + k * 5 + 3, none⟩ = some (.int .i64 x3) ∧ w'.cell? ⟨b, off + k * 5 + 4, none⟩ = some (.int .i64 x4) ∧ w'.cell? ⟨b', off' + k * 5, none⟩ = some (.int .i64 x0) ∧ w'.cell? ⟨b', off' + k * 5 + 1, none⟩ = some (.int .i64 x1) ∧ w'.cell? ⟨b', off' + k * 5 + 2, none⟩ = some (.int .i64 x2) ∧ w'.cell? ⟨b', off' + k * 5 + 3, none⟩ = some (.int .i64 x3) ∧ w'.cell? ⟨b', off' + k * 5 + 4, none⟩ = some (.int .i64 x4) ∧ Below w.heap.size w w' ∧ w.heap.size ≤ w'.heap.size) (((try dsimp only); (repeat' apply And.intro) <;> first | assumption | (refine (hc _ _ ?_).trans ?_ <;> first | assumption | omega | (simp; done) | (simp; omega) | (simp [*]; done) | (simp [World.cell?_alloc_some, *]; done)) | (simp [*, World.cell?_alloc_some, World.cell?_setCell_far]; done) | (simp; omega) | (exact (by repeat (first | exact Below.refl _ _ | assumption | apply Below.drew | apply below_drewN | (refine Below.alloc ?_ (by first | omega | (simp; done) | (simp; omega)) _) | (refine Below.setCell ?_ (by first | omega | (simp; done) | (simp; omega)) _))))))
        (first | (go_at_call 70; refine (laws_eqTicket _ _ _ _ _ _).mono ?_; rintro e w' ⟨rfl, hb⟩; have hB : Below w.heap.size w w' := Below.thenn (by repeat (first | exact Below.refl _ _ | assumption | apply Below.drew | apply below_drewN | (refine Below.alloc ?_ (by first | omega | (simp; done) | (simp; omega)) _) | (refine Below.setCell ?_ (by first | omega | (simp; done) | (simp; omega)) _))) hb (by first | omega | (simp; done) | (simp; omega)); have hz : w.heap.size ≤ w'.heap.size := hB.size; (try (have hz1 : w.heap.size + 1 ≤ w'.heap.size := (by have h := hb.size; (try simp at h); omega))); obtain ⟨hc, hf⟩ := bcell hb; clear hb))
      all_goals (go_wp2_with fail; go_roundg (n' - (k + 1)))
      case measure => omega
      case rel => exact ⟨k + 1, by omega, by omega, by go_num, (by repeat (first | exact Below.refl _ _ | assumption | apply Below.drew | apply below_drewN | (refine Below.alloc ?_ (by first | omega | (simp; done) | (simp; omega)) _) | (refine Below.setCell ?_ (by first | omega | (simp; done) | (simp; omega)) _))), by first | omega | (simp at *; omega)⟩
    · go_wp2_with fail
      go_ret
      exact ⟨rfl, hBr⟩
set_option maxHeartbeats 2000000 in
theorem laws_markTicketS (A : Option Addr) (n c B : Nat) (xs : List Int) (k0 : Int) (w : World) (h : OwF w B 25 5 (.slice A n c) n xs) (h0 : 0 ≤ k0) (h1 : k0 ≤ 1000000000) (hm : n ≤ 100000000) :
    Calls Try.prog 39 #[.slice A n c, .int .i64 k0] w fun e w' => e = .returned (.int .i64 (k0 + (n * 5 : Nat))) ∧ OwF w' B 25 5 (.slice A n c) n (iota k0 (n * 5)) ∧ w.grownBy w' (Value.slice A n c).ownBlock := by
  have hl := Lib.hid h.len
  have HO : Hid (OwF w B 25 5 (.slice A n c) n (mixC (iota k0 (n * 5)) xs (0 * 5)) ∧ w.grownBy w (Value.slice A n c).ownBlock) := ⟨by rw [Nat.zero_mul, mixC_zero]; exact h, World.grownBy.refl _ _⟩
  clear h
  go_enter Try.func39, Try.ntmps39
  go_wp2
  go_loopg [5, 1] n (fun g i q wr => ∃ (k : Nat) (z : Int), k ≤ n ∧ n ≤ k + g ∧ i = .int .i64 k ∧ q = .int .i64 z ∧ 0 ≤ z ∧ z ≤ 2000000000 ∧ Hid (z = k0 + (k * 5 : Nat)) ∧ Hid (OwF wr B 25 5 (.slice A n c) n (mixC (iota k0 (n * 5)) xs (k * 5)) ∧ w.grownBy wr (Value.slice A n c).ownBlock))
  case atStart => exact ⟨0, k0, by omega, by omega, rfl, rfl, by omega, by omega, (by show k0 = k0 + ((0 * 5 : Nat) : Int); simp), HO.out⟩
  case round =>
    clear HO
    obtain ⟨k, z, hk1, hk2, rfl, rfl, hz0, hz1, hz, ho⟩ := hrel
    by_cases hlt : k < n
    · have hz2 : z + 5 ≤ 2000000000 := by have := hz.out; omega
      obtain ⟨g', rfl, _, hgl, hcs, hfs⟩ := ho.out.1.cellsAt (by omega)
      obtain ⟨y0, _, d0⟩ := hcs (k * 5) (by omega)
      have f0 := hfs (k * 5)
      obtain ⟨y1, _, d1⟩ := hcs (k * 5 + 1) (by omega)
      have f1 := hfs (k * 5 + 1)
      obtain ⟨y2, _, d2⟩ := hcs (k * 5 + 2) (by omega)
      have f2 := hfs (k * 5 + 2)
      obtain ⟨y3, _, d3⟩ := hcs (k * 5 + 3) (by omega)
      have f3 := hfs (k * 5 + 3)
      obtain ⟨y4, _, d4⟩ := hcs (k * 5 + 4) (by omega)
      have f4 := hfs (k * 5 + 4)
      clear hcs hfs
      go_wp2_with fail
      go_roundg (n - (k + 1))
      case measure => omega
      case rel =>
        have o0 := ho.out.1
        have g0 := ho.out.2
        have hzz := hz.out
        have i0 : (iota k0 (n * 5))[k * 5]? = some (z) := by rw [iota_at _ _ _ (by omega)]; congr 1; omega
        have o1 := o0.mix1 i0 (by rw [hl.out]; omega)
        have g1 := grown_set (m := k * 5) g0 (.int .i64 (z))
        have i1 : (iota k0 (n * 5))[k * 5 + 1]? = some (z + 1) := by rw [iota_at _ _ _ (by omega)]; congr 1; omega
        have o2 := o1.mix1 i1 (by rw [hl.out]; omega)
        have g2 := grown_set (m := k * 5 + 1) g1 (.int .i64 (z + 1))
        have i2 : (iota k0 (n * 5))[k * 5 + 2]? = some (z + 1 + 1) := by rw [iota_at _ _ _ (by omega)]; congr 1; omega
        have o3 := o2.mix1 i2 (by rw [hl.out]; omega)
        have g3 := grown_set (m := k * 5 + 2) g2 (.int .i64 (z + 1 + 1))
        have i3 : (iota k0 (n * 5))[k * 5 + 3]? = some (z + 1 + 1 + 1) := by rw [iota_at _ _ _ (by omega)]; congr 1; omega
        have o4 := o3.mix1 i3 (by rw [hl.out]; omega)
        have g4 := grown_set (m := k * 5 + 3) g3 (.int .i64 (z + 1 + 1 + 1))
        have i4 : (iota k0 (n * 5))[k * 5 + 4]? = some (z + 1 + 1 + 1 + 1) := by rw [iota_at _ _ _ (by omega)]; congr 1; omega
        have o5 := o4.mix1 i4 (by rw [hl.out]; omega)
        have g5 := grown_set (m := k * 5 + 4) g4 (.int .i64 (z + 1 + 1 + 1 + 1))
        refine ⟨k + 1, z + 1 + 1 + 1 + 1 + 1, by omega, by omega, by go_num, rfl, by omega, by omega, (by show _ = k0 + _; omega), ?_, g5⟩
        have e1 : (k + 1) * 5 = k * 5 + 5 := by omega
        rw [e1]
        exact o5
    · go_wp2_with fail
      go_ret
      have hkn : k = n := by omega
      subst hkn
      refine ⟨ret_int (by have := hz.out; omega), ?_, ho.out.2⟩
      have o0 := ho.out.1
      rw [mixC_end (by rw [iota_len]; exact Nat.le_refl _) (by rw [hl.out]; exact Nat.le_refl _)] at o0
      exact o0
set_option maxHeartbeats 2000000 in
theorem laws_heldTicketS (A : Option Addr) (n c : Nat) (k0 : Int) (w : World) (h : Rd w 5 A n (IV (iota k0 (n * 5)))) (h0 : 0 ≤ k0) (h1 : k0 ≤ 1000000000) (hm : n ≤ 100000000) :
    Calls Try.prog 40 #[.slice A n c, .int .i64 k0] w fun e w' => e = .returned (.int .i64 (k0 + (n * 5 : Nat))) ∧ w = w' := by
  go_enter Try.func40, Try.ntmps40
  go_wp2
  go_loopg [5, 1] n (fun g i q wr => ∃ (k : Nat) (z : Int), k ≤ n ∧ n ≤ k + g ∧ i = .int .i64 k ∧ q = .int .i64 z ∧ 0 ≤ z ∧ z ≤ 2000000000 ∧ Hid (z = k0 + (k * 5 : Nat)) ∧ w = wr)
  case atStart => exact ⟨0, k0, by omega, by omega, rfl, rfl, by omega, by omega, (by show k0 = k0 + ((0 * 5 : Nat) : Int); simp), rfl⟩
  case round =>
    obtain ⟨k, z, hk1, hk2, rfl, rfl, hz0, hz1, hz, rfl⟩ := hrel
    by_cases hlt : k < n
    · have hz2 : z + 5 ≤ 2000000000 := by have := hz.out; omega
      obtain ⟨b, off, rfl, hc⟩ := h.2 (by omega)
      have hzz := hz.out
      have c0 : w.cell? ⟨b, off + k * 5, none⟩ = some (.int .i64 (z)) := by
        have := hc (k * 5 + 0) (.int .i64 (z)) (IV_at (by rw [iota_at _ _ _ (by omega)]; congr 1; omega))
        simpa [Nat.add_assoc] using this
      have c1 : w.cell? ⟨b, off + k * 5 + 1, none⟩ = some (.int .i64 (z + 1)) := by
        have := hc (k * 5 + 1) (.int .i64 (z + 1)) (IV_at (by rw [iota_at _ _ _ (by omega)]; congr 1; omega))
        simpa [Nat.add_assoc] using this
      have c2 : w.cell? ⟨b, off + k * 5 + 2, none⟩ = some (.int .i64 (z + 1 + 1)) := by
        have := hc (k * 5 + 2) (.int .i64 (z + 1 + 1)) (IV_at (by rw [iota_at _ _ _ (by omega)]; congr 1; omega))
        simpa [Nat.add_assoc] using this
      have c3 : w.cell? ⟨b, off + k * 5 + 3, none⟩ = some (.int .i64 (z + 1 + 1 + 1)) := by
        have := hc (k * 5 + 3) (.int .i64 (z + 1 + 1 + 1)) (IV_at (by rw [iota_at _ _ _ (by omega)]; congr 1; omega))
        simpa [Nat.add_assoc] using this
      have c4 : w.cell? ⟨b, off + k * 5 + 4, none⟩ = some (.int .i64 (z + 1 + 1 + 1 + 1)) := by
        have := hc (k * 5 + 4) (.int .i64 (z + 1 + 1 + 1 + 1)) (IV_at (by rw [iota_at _ _ _ (by omega)]; congr 1; omega))
        simpa [Nat.add_assoc] using this
      clear hc hzz
      go_wp2_with fail
      go_roundg (n - (k + 1))
      case measure => omega
      case rel => exact ⟨k + 1, z + 1 + 1 + 1 + 1 + 1, by omega, by omega, by go_num, rfl, by omega, by omega, (by have := hz.out; show _ = k0 + _; omega), rfl⟩
    · go_wp2_with fail
      go_ret
      have hkn : k = n := by omega
      subst hkn
      exact ⟨ret_int (by have := hz.out; omega), rfl⟩
end Go.Proofs.Ytobcgcdjoogfnaa
