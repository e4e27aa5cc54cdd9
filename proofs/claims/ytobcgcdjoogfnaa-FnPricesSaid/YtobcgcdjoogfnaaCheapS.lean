/- The cheapest tickets: the reference's walk. -/
import Derived.Test.YtobcgcdjoogfnaaCheapD
namespace Go.Proofs.Ytobcgcdjoogfnaa
open Go.RowKit
set_option linter.unusedVariables false
set_option linter.unusedSimpArgs false

set_option maxRecDepth 100000 in
set_option maxHeartbeats 8000000 in
theorem spec_CheapestFor (p0 p1 p2 p3 ups downs : Int) (wo : World) :
    Calls Try.prog 22 #[.agg #[.int .i64 p0, .int .i64 p1, .int .i64 p2, .int .i64 p3], .int .i64 ups, .int .i64 downs] wo (RetSIB wo (chV p0 p1 p2 p3 ups downs) (chC p0 p1 p2 p3 ups downs) (chOk p0 p1 p2 p3 ups downs)) := by
  have hWV : Below wo.heap.size wo (wo.alloc (.cells #[.int .i64 p0, .int .i64 p1, .int .i64 p2, .int .i64 p3] 39)) := (Below.refl _ _).alloc (Nat.le_refl _) _
  have hV0 : wo.heap.size < (wo.alloc (.cells #[.int .i64 p0, .int .i64 p1, .int .i64 p2, .int .i64 p3] 39)).heap.size := by simp
  have hv0 : (wo.alloc (.cells #[.int .i64 p0, .int .i64 p1, .int .i64 p2, .int .i64 p3] 39)).cell? ⟨wo.heap.size, 0, none⟩ = some (.int .i64 p0) := by rw [cell_of_row _ _ _ _ _ _ (heap_alloc_new wo _)]; rfl
  have hv1 : (wo.alloc (.cells #[.int .i64 p0, .int .i64 p1, .int .i64 p2, .int .i64 p3] 39)).cell? ⟨wo.heap.size, 1, none⟩ = some (.int .i64 p1) := by rw [cell_of_row _ _ _ _ _ _ (heap_alloc_new wo _)]; rfl
  have hv2 : (wo.alloc (.cells #[.int .i64 p0, .int .i64 p1, .int .i64 p2, .int .i64 p3] 39)).cell? ⟨wo.heap.size, 2, none⟩ = some (.int .i64 p2) := by rw [cell_of_row _ _ _ _ _ _ (heap_alloc_new wo _)]; rfl
  have hv3 : (wo.alloc (.cells #[.int .i64 p0, .int .i64 p1, .int .i64 p2, .int .i64 p3] 39)).cell? ⟨wo.heap.size, 3, none⟩ = some (.int .i64 p3) := by rw [cell_of_row _ _ _ _ _ _ (heap_alloc_new wo _)]; rfl
  rcases hok : chOk p0 p1 p2 p3 ups downs with _ | _
  · rw [show chV p0 p1 p2 p3 ups downs = [] by simp [chV, hok], show chC p0 p1 p2 p3 ups downs = 0 by simp [chC, hok]]
    have HK := Lib.hid hok
    clear hok
    rcases hp : prOk p0 p1 p2 p3 with _ | _ <;> rcases h1 : inr ups 0 20 with _ | _ <;> rcases h2 : inr downs 0 20 with _ | _
    all_goals first | (exfalso; have := HK.out; simp [chOk, hp, h1, h2] at this; done) | skip
    all_goals have CP := Lib.hid (fun w => hp ▸ spec_l11Prices p0 p1 p2 p3 w)
    all_goals clear HK hp
    all_goals (go_enter Try.func22, Try.ntmps22)
    all_goals go_wp2_with fail
    all_goals generalize wo.alloc (.cells #[.int .i64 p0, .int .i64 p1, .int .i64 p2, .int .i64 p3] 39) = w at hWV hV0 hv0 hv1 hv2 hv3 ⊢
    all_goals have hB : Below w.heap.size w w := Below.refl _ _
    all_goals have hzw : wo.heap.size ≤ w.heap.size := hWV.size
    all_goals go_wp2_with (first | (go_at_call 65; refine (CP.out _).mono ?_; rintro e w' ⟨rfl, hb⟩; have hB : Below w.heap.size w w' := Below.thenn (by repeat (first | exact Below.refl _ _ | assumption | apply Below.drew | apply below_drewN | (refine Below.alloc ?_ (by first | omega | (simp; done) | (simp; omega)) _) | (refine Below.setCell ?_ (by first | omega | (simp; done) | (simp; omega)) _))) hb (by first | omega | (simp; done) | (simp; omega)); have hz : w.heap.size ≤ w'.heap.size := hB.size; (try (have hz1 : w.heap.size + 1 ≤ w'.heap.size := (by have h := hb.size; (try simp at h); omega))); obtain ⟨hc, hf⟩ := bcell hb; clear hb) | (go_at_call 66; refine (spec_l1In _ _ _ _).mono ?_; rintro e w' ⟨rfl, rfl⟩))
    all_goals go_ret3
    all_goals exact ⟨some ⟨_, 0, none⟩, 0, rfl, Ow.lit0 _ _ (by omega), Below.thenn hWV (hB.alloc (by omega) _) hWV.size⟩
  have hk := hok
  simp only [chOk, Bool.and_eq_true] at hk
  have hpb := prOk_iff.1 hk.1
  have hu := (show 0 ≤ ups ∧ ups ≤ 20 by simpa [inr] using hk.2.1)
  have hd := (show 0 ≤ downs ∧ downs ≤ 20 by simpa [inr] using hk.2.2)
  have CP := Lib.hid (fun w => hk.1 ▸ spec_l11Prices p0 p1 p2 p3 w)
  have C1 := Lib.hid (fun w => hk.2.1 ▸ spec_l1In ups 0 20 w)
  have C2 := Lib.hid (fun w => hk.2.2 ▸ spec_l1In downs 0 20 w)
  obtain ⟨e1, e2⟩ := chOk_yes hok
  rw [e1, e2]
  have u0 := hu.1
  have u1 := hu.2
  have d0 := hd.1
  have d1 := hd.2
  have HP0 := Lib.hid hpb.1
  have HP1 := Lib.hid hpb.2.1
  have HP2 := Lib.hid hpb.2.2.1
  have HP3 := Lib.hid hpb.2.2.2
  have G0 : Hid (∀ k, chD p0 p1 p2 p3 ups downs k 0 = chS p0 p1 p2 p3 ups downs k) := Lib.hid (fun k => chD_zero _ _ _ _ _ _ k)
  have G2 : Hid (∀ k, chD p0 p1 p2 p3 ups downs k 2 = chS p0 p1 p2 p3 ups downs (k + 1)) := Lib.hid (fun k => chD_two _ _ _ _ _ _ k)
  have GN : Hid (∀ a b d : Nat, b < 21 → d < 2 → chD p0 p1 p2 p3 ups downs (21 * a + b) (d + 1) = chU (chD p0 p1 p2 p3 ups downs (21 * a + b) d) [(a : Int), (b : Int), (d : Int), tenZ ups downs a b d] (a * p0 + b * p1 + d * p2 + tenZ ups downs a b d * p3)) := Lib.hid (fun a b d hb h => chD_next u1 d1 hb h)
  have GT : Hid (∀ a b d : Nat, 0 ≤ tenZ ups downs a b d ∧ tenZ ups downs a b d ≤ 4) := Lib.hid (fun a b d => tenZ_bd u1 d1)
  have GD : Hid (∀ a b d : Nat, tenZ ups downs a b d = (max 0 (max 0 (ups - b - 50 * d) + max 0 (downs - b - 50 * d) - a) + 9) / 10) := Lib.hid (fun a b d => ten_def _ _ a b d)
  have GZ : Hid (chS p0 p1 p2 p3 ups downs 0 = ([], -1)) := Lib.hid rfl
  clear hk hok hpb hu hd e1 e2
  generalize chS p0 p1 p2 p3 ups downs = f at *
  generalize chD p0 p1 p2 p3 ups downs = g at *
  generalize tenZ ups downs = t at *
  generalize hE : f 441 = E at *
  have HE := Lib.hid hE
  clear hE
  go_enter Try.func22, Try.ntmps22
  go_wp2_with fail
  generalize wo.alloc (.cells #[.int .i64 p0, .int .i64 p1, .int .i64 p2, .int .i64 p3] 39) = w at hWV hV0 hv0 hv1 hv2 hv3 ⊢
  have hB : Below w.heap.size w w := Below.refl _ _
  have hwz : wo.heap.size ≤ w.heap.size := hWV.size
  go_wp2_with (first | (go_at_call 65; refine (CP.out _).mono ?_; rintro e w' ⟨rfl, hb⟩; have hB : Below w.heap.size w w' := Below.thenn (by repeat (first | exact Below.refl _ _ | assumption | apply Below.drew | apply below_drewN | (refine Below.alloc ?_ (by first | omega | (simp; done) | (simp; omega)) _) | (refine Below.setCell ?_ (by first | omega | (simp; done) | (simp; omega)) _))) hb (by first | omega | (simp; done) | (simp; omega)); have hz : w.heap.size ≤ w'.heap.size := hB.size; (try (have hz1 : w.heap.size + 1 ≤ w'.heap.size := (by have h := hb.size; (try simp at h); omega))); obtain ⟨hc, hf⟩ := bcell hb; clear hb) | (go_at_call 66; (with_reducible refine (C1.out _).mono ?_); rintro e w' ⟨rfl, rfl⟩) | (go_at_call 66; (with_reducible refine (C2.out _).mono ?_); rintro e w' ⟨rfl, rfl⟩))
  have B1 := Lib.hid hB
  clear hc hf hB
  go_loopg [9, 10, 11] 21 (fun gg q r i wr => ∃ (a : Nat) (A2 : Option Addr) (c2 : Nat) (ys : List Int) (z : Int), a ≤ 21 ∧ 21 ≤ a + gg ∧ i = .int .i64 a ∧ q = .slice A2 ys.length c2 ∧ r = .int .i64 z ∧ -1 ≤ z ∧ z ≤ 5000000 ∧ Hid (Below w.heap.size w wr) ∧ Hid (Ow wr w.heap.size (.slice A2 ys.length c2) ys ∧ (ys, z) = f (21 * a)))
  case atStart => exact ⟨0, _, _, [], -1, by omega, by omega, rfl, rfl, rfl, by omega, by omega, Lib.hid (B1.out.alloc B1.out.size _), ⟨Ow.lit0 _ _ B1.out.size, GZ.out.symm⟩⟩
  case round =>
    clear hz
    obtain ⟨a, A2, c2, ys, z, ha1, ha2, rfl, rfl, rfl, hz0, hz1, HB, HO⟩ := hrel
    by_cases hla : a < 21
    · have ha3 : ¬ (20 < (a : Int)) := by omega
      go_wp2_with fail
      go_loopg [9, 10, 12] 21 (fun gg q r i wr => ∃ (b : Nat) (A2 : Option Addr) (c2 : Nat) (ys : List Int) (z : Int), b ≤ 21 ∧ 21 ≤ b + gg ∧ i = .int .i64 b ∧ q = .slice A2 ys.length c2 ∧ r = .int .i64 z ∧ -1 ≤ z ∧ z ≤ 5000000 ∧ Hid (Below w.heap.size w wr) ∧ Hid (Ow wr w.heap.size (.slice A2 ys.length c2) ys ∧ (ys, z) = f (21 * a + b)))
      case atStart => exact ⟨0, A2, c2, ys, z, by omega, by omega, rfl, rfl, rfl, by omega, by omega, HB, HO⟩
      case round =>
        clear HB HO hz0 hz1
        obtain ⟨b, A2, c2, ys, z, hb1, hb2, rfl, rfl, rfl, hz0, hz1, HB, HO⟩ := hrel
        by_cases hlb : b < 21
        · have hb3 : ¬ (20 < (b : Int)) := by omega
          go_wp2_with fail
          go_loopg [9, 10, 13] 2 (fun gg q r i wr => ∃ (d : Nat) (A2 : Option Addr) (c2 : Nat) (ys : List Int) (z : Int), d ≤ 2 ∧ 2 ≤ d + gg ∧ i = .int .i64 d ∧ q = .slice A2 ys.length c2 ∧ r = .int .i64 z ∧ -1 ≤ z ∧ z ≤ 5000000 ∧ Hid (Below w.heap.size w wr) ∧ Hid (Ow wr w.heap.size (.slice A2 ys.length c2) ys ∧ (ys, z) = g (21 * a + b) d))
          case atStart => exact ⟨0, A2, c2, ys, z, by omega, by omega, rfl, rfl, rfl, by omega, by omega, HB, ⟨HO.out.1, HO.out.2.trans (G0.out _).symm⟩⟩
          case round =>
            clear HB HO hz0 hz1
            obtain ⟨d, A2, c2, ys, z, hd1, hd2, rfl, rfl, rfl, hz0, hz1, HB, HO⟩ := hrel
            by_cases hld : d < 2
            · have a0 := (HB.out.cell (p := ⟨wo.heap.size, 0, none⟩) hV0).trans hv0
              have a1 := (HB.out.cell (p := ⟨wo.heap.size, 1, none⟩) hV0).trans hv1
              have a2 := (HB.out.cell (p := ⟨wo.heap.size, 2, none⟩) hV0).trans hv2
              have a3 := (HB.out.cell (p := ⟨wo.heap.size, 3, none⟩) hV0).trans hv3
              have hvr := Nat.lt_of_lt_of_le hV0 HB.out.size
              have gt := GD.out a b d
              have gb := GT.out a b d
              have m0 := mul_pr (a := (a : Int)) (p := p0) (A := 20) (by omega) HP0.out
              have m1 := mul_pr (a := (b : Int)) (p := p1) (A := 20) (by omega) HP1.out
              have m2 := mul_pr (a := (d : Int)) (p := p2) (A := 1) (by omega) HP2.out
              have m3 := mul_pr (p := p3) (A := 4) gb HP3.out
              have gn := GN.out a b d hlb hld
              rw [← HO.out.2] at gn
              have hd3 : ¬ (1 < (d : Int)) := by omega
              generalize t a b d = T at *
              have Y := Lib.hid gn
              have w1 : IntKind.i64.wrap ((a : Int) * p0) = a * p0 := IntWalk.i64_in _ (by omega)
              have w2 : IntKind.i64.wrap ((b : Int) * p1) = b * p1 := IntWalk.i64_in _ (by omega)
              have w3 : IntKind.i64.wrap ((d : Int) * p2) = d * p2 := IntWalk.i64_in _ (by omega)
              have w4 : IntKind.i64.wrap (T * p3) = T * p3 := IntWalk.i64_in _ (by omega)
              have w5 : IntKind.i64.wrap ((a : Int) * p0 + b * p1) = a * p0 + b * p1 := IntWalk.i64_in _ (by omega)
              have w6 : IntKind.i64.wrap ((a : Int) * p0 + b * p1 + d * p2) = a * p0 + b * p1 + d * p2 := IntWalk.i64_in _ (by omega)
              have w7 : IntKind.i64.wrap ((a : Int) * p0 + b * p1 + d * p2 + T * p3) = a * p0 + b * p1 + d * p2 + T * p3 := IntWalk.i64_in _ (by omega)
              have hC0 : 0 ≤ (a : Int) * p0 + b * p1 + d * p2 + T * p3 := by omega
              have hC1 : (a : Int) * p0 + b * p1 + d * p2 + T * p3 ≤ 5000000 := by omega
              have g1 := gb.1
              have g2 := gb.2
              have hDD := (show d = 0 ∨ d = 1 by omega)
              clear gn m0 m1 m2 m3
              go_upto_region 13 with fail
              go_cut [14] (fun s14 wx => ∃ N : Int, s14 = .int .i64 N ∧ -21 ≤ N ∧ N ≤ 40 ∧ wr = wx ∧ Hid (N = max 0 (ups - b - 50 * d) + max 0 (downs - b - 50 * d) - a))
              case first =>
                clear w1 w2 w3 w4 w5 w6 w7 hC0 hC1 gt
                go_wp2_with (go_at_call 67; refine (spec_l1Most _ _ _).mono ?_; rintro e w' ⟨rfl, rfl⟩)
                go_meet
                exact ⟨_, rfl, by omega, by omega, rfl, (by show _ = _; omega)⟩
              case rest =>
                obtain ⟨N, rfl, hN0, hN1, rfl, hN⟩ := hcut
                rw [← hN.out] at gt
                go_upto_region 14 with fail
                go_cut [15] (fun s15 wx => s15 = .int .i64 T ∧ wr = wx)
                case first =>
                  clear w1 w2 w3 w4 w5 w6 w7 hC0 hC1
                  go_wp2_with (go_at_call 67; refine (spec_l1Most _ _ _).mono ?_; rintro e w' ⟨rfl, rfl⟩)
                  go_meet
                  exact ⟨by first | (rw [gt]; done) | (rw [gt]; go_num), rfl⟩
                case rest =>
                  obtain ⟨rfl, rfl⟩ := hcut
                  clear gt gb
                  go_upto_region 16 with fail
                  clear w1 w2 w3 w4 w5 w6 w7
                  generalize (a : Int) * p0 + b * p1 + d * p2 + T * p3 = C at *
                  have HL := Lib.hid (Ow.lit wr [(a : Int), (b : Int), (d : Int), T] (B := w.heap.size) (by simp [maxLen]) HB.out.size)
                  have HBA := Lib.hid (HB.out.alloc HB.out.size (.cells (IV [(a : Int), (b : Int), (d : Int), T]).toArray 3))
                  rcases (by omega : z < 0 ∨ ¬ z < 0 ∧ C < z ∨ ¬ z < 0 ∧ ¬ C < z) with h1 | ⟨h1, h2⟩ | ⟨h1, h2⟩
                  · rw [chU_yes (s := (ys, z)) (.inl h1)] at Y
                    go_wp2_with fail
                    go_roundg (2 - (d + 1))
                    case measure => omega
                    case rel => exact ⟨d + 1, some ⟨wr.heap.size, 0, none⟩, 4, _, C, by omega, by omega, by go_num, rfl, rfl, by omega, by omega, HBA, ⟨HL.out, Y.out.symm⟩⟩
                  · rw [chU_yes (s := (ys, z)) (.inr h2)] at Y
                    go_wp2_with fail
                    go_roundg (2 - (d + 1))
                    case measure => omega
                    case rel => exact ⟨d + 1, some ⟨wr.heap.size, 0, none⟩, 4, _, C, by omega, by omega, by go_num, rfl, rfl, by omega, by omega, HBA, ⟨HL.out, Y.out.symm⟩⟩
                  · rw [chU_no (s := (ys, z)) (by rintro (h | h); exact h1 h; exact h2 h)] at Y
                    go_wp2_with fail
                    go_roundg (2 - (d + 1))
                    case measure => omega
                    case rel => exact ⟨d + 1, A2, c2, ys, z, by omega, by omega, by go_num, rfl, rfl, by omega, by omega, HB, ⟨HO.out.1, Y.out.symm⟩⟩
            · obtain rfl : d = 2 := by omega
              go_wp2_with fail
              go_roundg (21 - (b + 1))
              case measure => omega
              case rel => exact ⟨b + 1, A2, c2, ys, z, by omega, by omega, by go_num, rfl, rfl, by omega, by omega, HB, ⟨HO.out.1, HO.out.2.trans (G2.out _)⟩⟩
        · obtain rfl : b = 21 := by omega
          go_wp2_with fail
          go_roundg (21 - (a + 1))
          case measure => omega
          case rel => exact ⟨a + 1, A2, c2, ys, z, by omega, by omega, by go_num, rfl, rfl, by omega, by omega, HB, HO⟩
    · obtain rfl : a = 21 := by omega
      have he : (ys, z) = E := by rw [← HE.out]; exact HO.out.2
      subst he
      go_wp2_with fail
      go_ret3
      exact ⟨A2, c2, rfl, HO.out.1.base hwz, Below.thenn hWV HB.out hwz⟩
end Go.Proofs.Ytobcgcdjoogfnaa
