/- The cheapest tickets: the program's walk. -/
import Derived.Test.YtobcgcdjoogfnaaCheapD
import Derived.Test.YtobcgcdjoogfnaaDraw
namespace Go.Proofs.Ytobcgcdjoogfnaa
open Go.RowKit
set_option linter.unusedVariables false
set_option linter.unusedSimpArgs false

def chQ (ups downs a b d t : Int) : Bool := decide (d = 0) && decide (a + 10 * t < chOpen ups downs b)
theorem chT_next (p0 p1 p2 p3 ups downs : Int) (k : Nat) : ∃ a b d t : Nat, a = k / 9261 ∧ b = k / 441 % 21 ∧ d = k / 21 % 21 ∧ t = k % 21 ∧
    (chQ ups downs a b d t = true → chT p0 p1 p2 p3 ups downs (k + 1) = chT p0 p1 p2 p3 ups downs k) ∧
    (chQ ups downs a b d t = false → chT p0 p1 p2 p3 ups downs (k + 1) = chU (chT p0 p1 p2 p3 ups downs k) [(a : Int), (b : Int), (d : Int), (t : Int)] (a * p0 + b * p1 + d * p2 + t * p3)) := by
  refine ⟨_, _, _, _, rfl, rfl, rfl, rfl, fun h => ?_, fun h => ?_⟩
  · simp only [chQ, Bool.and_eq_true, decide_eq_true_eq] at h
    simp only [chT, chR]
    rw [if_pos h]
  · simp only [chQ, Bool.and_eq_false_iff, decide_eq_false_iff_not] at h
    simp only [chT, chR]
    rw [if_neg (by intro h2; rcases h with h | h; exact h h2.1; exact h h2.2)]
set_option maxRecDepth 100000 in
set_option maxHeartbeats 8000000 in
theorem impl_CheapestFor (p0 p1 p2 p3 ups downs : Int) (wo : World) :
    Calls Try.prog 24 #[.agg #[.int .i64 p0, .int .i64 p1, .int .i64 p2, .int .i64 p3], .int .i64 ups, .int .i64 downs] wo (RetSIB wo (chV p0 p1 p2 p3 ups downs) (chC p0 p1 p2 p3 ups downs) (chOk p0 p1 p2 p3 ups downs)) := by
  have hWV : Below wo.heap.size wo (wo.alloc (.cells #[.int .i64 p0, .int .i64 p1, .int .i64 p2, .int .i64 p3] 39)) := (Below.refl _ _).alloc (Nat.le_refl _) _
  rcases hok : chOk p0 p1 p2 p3 ups downs with _ | _
  · rw [(chOk_no hok).1, (chOk_no hok).2]
    have HK := Lib.hid hok
    clear hok
    rcases hp : prOk p0 p1 p2 p3 with _ | _ <;> rcases h1 : inr ups 0 20 with _ | _ <;> rcases h2 : inr downs 0 20 with _ | _
    all_goals first | (exfalso; have := HK.out; simp [chOk, hp, h1, h2] at this; done) | skip
    all_goals have CP := Lib.hid (fun w => hp ▸ impl_byKind p0 p1 p2 p3 w)
    all_goals have C1 := Lib.hid (fun w => h1 ▸ impl_within ups 0 20 w)
    all_goals have C2 := Lib.hid (fun w => h2 ▸ impl_within downs 0 20 w)
    all_goals clear HK hp h1 h2
    all_goals (go_enter Try.func24, Try.ntmps24)
    all_goals go_wp2_with fail
    all_goals generalize wo.alloc (.cells #[.int .i64 p0, .int .i64 p1, .int .i64 p2, .int .i64 p3] 39) = w at hWV ⊢
    all_goals refine (CP.out _).mono ?_
    all_goals rintro e w2 ⟨A1, c1, rfl, HP1, hb⟩
    all_goals have B2 := Lib.hid (Below.thenn hWV hb hWV.size)
    all_goals clear hb HP1
    all_goals go_wp2_with (first | (go_at_call 57; (with_reducible refine (C1.out _).mono ?_); rintro e w' ⟨rfl, rfl⟩) | (go_at_call 57; (with_reducible refine (C2.out _).mono ?_); rintro e w' ⟨rfl, rfl⟩))
    all_goals go_ret3
    all_goals exact ⟨none, 0, rfl, Ow.nil _ _, B2.out⟩
  have hk := hok
  simp only [chOk, Bool.and_eq_true] at hk
  have hpb := prOk_iff.1 hk.1
  have hu := (show 0 ≤ ups ∧ ups ≤ 20 by simpa [inr] using hk.2.1)
  have hd := (show 0 ≤ downs ∧ downs ≤ 20 by simpa [inr] using hk.2.2)
  have CP := Lib.hid (fun w => hk.1 ▸ impl_byKind p0 p1 p2 p3 w)
  have C1 := Lib.hid (fun w => hk.2.1 ▸ impl_within ups 0 20 w)
  have C2 := Lib.hid (fun w => hk.2.2 ▸ impl_within downs 0 20 w)
  obtain ⟨e1, e2⟩ := chOk_yes hok
  have hend := chT_end hpb.1.1 hpb.2.1.1 hpb.2.2.1.1 hpb.2.2.2.1 hu.2 hd.2
  rw [e1, e2, ← hend]
  have HP0 := Lib.hid hpb.1
  have HP1 := Lib.hid hpb.2.1
  have HP2 := Lib.hid hpb.2.2.1
  have HP3 := Lib.hid hpb.2.2.2
  have GN := Lib.hid (fun k => chT_next p0 p1 p2 p3 ups downs k)
  have GZ : Hid (chT p0 p1 p2 p3 ups downs 0 = ([], -1)) := Lib.hid rfl
  clear hk hok hpb e1 e2 hend
  generalize chT p0 p1 p2 p3 ups downs = f at *
  have u0 := hu.1
  have u1 := hu.2
  have d0 := hd.1
  have d1 := hd.2
  clear hu hd
  obtain ⟨M, hM⟩ : ∃ M : Nat, M = 194481 := ⟨_, rfl⟩
  rw [← hM]
  have HM : Hid (∀ k : Nat, k < M → (k : Int) < 194481) := Lib.hid (fun k hk => by omega)
  have HM2 : Hid (decide ((M : Int) < 194481) = false) := Lib.hid (decide_eq_false (by omega))
  clear hM
  generalize hE : f M = E at *
  have HE := Lib.hid hE
  clear hE
  go_enter Try.func24, Try.ntmps24
  go_wp2_with fail
  generalize wo.alloc (.cells #[.int .i64 p0, .int .i64 p1, .int .i64 p2, .int .i64 p3] 39) = w at hWV ⊢
  refine (CP.out _).mono ?_
  rintro e w2 ⟨A1, c1, rfl, hO, hb⟩
  have B2 := Lib.hid (Below.thenn hWV hb hWV.size)
  obtain ⟨bp, op, hAp, hpc⟩ := (Ow.rd hO).at_ (k := 0) (by simp)
  subst hAp
  have hq0 := hpc 0 (by simp)
  have hq1 := hpc 1 (by simp)
  have hq2 := hpc 2 (by simp)
  have hq3 := hpc 3 (by simp)
  have hbl : bp < w2.heap.size := World.block_lt_of_cell? _ _ hq0
  simp only [List.getElem_cons_zero, List.getElem_cons_succ, Nat.add_zero] at hq0 hq1 hq2 hq3
  have hwz2 : wo.heap.size ≤ w2.heap.size := B2.out.size
  clear hpc hO hb hWV
  go_wp2_with (first | (go_at_call 57; (with_reducible refine (C1.out _).mono ?_); rintro e w' ⟨rfl, rfl⟩) | (go_at_call 57; (with_reducible refine (C2.out _).mono ?_); rintro e w' ⟨rfl, rfl⟩))
  clear CP C1 C2
  go_loopg [11, 12, 37] M (fun gg q r i wr => ∃ (k : Nat) (A2 : Option Addr) (c2 : Nat) (ys : List Int) (z : Int), k ≤ M ∧ M ≤ k + gg ∧ i = .int .i64 k ∧ q = .slice A2 ys.length c2 ∧ r = .int .i64 z ∧ -1 ≤ z ∧ z ≤ 5000000 ∧ Hid (Below w2.heap.size w2 wr) ∧ Hid (Ow wr w2.heap.size (.slice A2 ys.length c2) ys ∧ (ys, z) = f k))
  case atStart => exact ⟨0, _, _, [], -1, by omega, by omega, rfl, rfl, rfl, by omega, by omega, Lib.hid ((Below.refl w2.heap.size w2).alloc (Nat.le_refl _) _), ⟨Ow.lit0 _ _ (Nat.le_refl _), GZ.out.symm⟩⟩
  case round =>
    obtain ⟨k, A2, c2, ys, z, hk1, hk2, rfl, rfl, rfl, hz0, hz1, HB, HO⟩ := hrel
    by_cases hlt : k < M
    · obtain ⟨a, b, d, t, ha, hb, hd, ht, gy, gn⟩ := GN.out k
      rw [← HO.out.2] at gy gn
      have GY := Lib.hid gy
      have GG := Lib.hid gn
      have hlt2 := HM.out k hlt
      have t1 : ((k : Int) / 9261) = (a : Int) := by omega
      have t2 : ((k : Int) / 441 % 21) = (b : Int) := by omega
      have t3 : ((k : Int) / 21 % 21) = (d : Int) := by omega
      have t4 : ((k : Int) % 21) = (t : Int) := by omega
      have a1 : a ≤ 20 := by omega
      have b1 : b ≤ 20 := by omega
      have dd1 : d ≤ 20 := by omega
      have tt1 : t ≤ 20 := by omega
      have hzr := HB.out.size
      clear gy gn ha hb hd ht
      go_upto_region 9 with fail
      have T0 := Lib.hid (Blk.new wr 3 #[.int .i64 (a : Int), .int .i64 (b : Int), .int .i64 (d : Int), .int .i64 (t : Int)])
      have B0 := Lib.hid ((Below.refl wr.heap.size wr).alloc (Nat.le_refl _) (.cells #[.int .i64 (a : Int), .int .i64 (b : Int), .int .i64 (d : Int), .int .i64 (t : Int)] 3))
      have OL : Hid (Ow (wr.alloc (.cells #[.int .i64 (a : Int), .int .i64 (b : Int), .int .i64 (d : Int), .int .i64 (t : Int)] 3)) w2.heap.size (.slice (some ⟨wr.heap.size, 0, none⟩) 4 4) [(a : Int), (b : Int), (d : Int), (t : Int)]) := Ow.lit wr [(a : Int), (b : Int), (d : Int), (t : Int)] (B := w2.heap.size) (by simp [maxLen]) hzr
      have HBV := Lib.hid (Below.thenn HB.out B0.out HB.out.size)
      have HOV := Lib.hid (HO.out.1.below B0.out)
      have HYS := Lib.hid HO.out.2
      clear B0 HB HO
      generalize wr.alloc (.cells #[.int .i64 (a : Int), .int .i64 (b : Int), .int .i64 (d : Int), .int .i64 (t : Int)] 3) = v at *
      generalize wr.heap.size = g at *
      clear t1 t2 t3 t4
      have HQ : Hid (chQ ups downs a b d t = (decide ((d : Int) = 0) && decide ((a : Int) + 10 * (t : Int) < chOpen ups downs b))) := Lib.hid rfl
      have HCO : Hid (chOpen ups downs b = max (ups - b) 0 + max (downs - b) 0) := Lib.hid rfl
      have hO0 : 0 ≤ chOpen ups downs b ∧ chOpen ups downs b ≤ 40 := by unfold chOpen; omega
      generalize chOpen ups downs (b : Int) = O at *
      go_cut [15] (fun s15 wx => ∃ m : Nat, s15 = .int .i64 O ∧ v.drewN m = wx)
      case first =>
        have c0 := T0.out.cell 0
        have c1 := T0.out.cell 1
        have c2' := T0.out.cell 2
        have c3 := T0.out.cell 3
        simp only [List.getElem?_toArray, List.getElem?_cons_zero, List.getElem?_cons_succ] at c0 c1 c2' c3
        have hgv := T0.out.lt
        by_cases q1 : ups - b < 0 <;> by_cases q2 : downs - b < 0
        all_goals go_quiet (fail)
        all_goals go_wp2_with fail
        all_goals go_meet
        all_goals exact ⟨_, by rw [HCO.out]; go_num, rfl⟩
      case rest =>
        obtain ⟨m, rfl, rfl⟩ := hcut
        have T1 : Hid (Blk (v.drewN m) g 3 #[.int .i64 (a : Int), .int .i64 (b : Int), .int .i64 (d : Int), .int .i64 (t : Int)]) := T0
        have OL1 : Hid (Ow (v.drewN m) w2.heap.size (.slice (some ⟨g, 0, none⟩) 4 4) [(a : Int), (b : Int), (d : Int), (t : Int)]) := OL
        have HB1 := Lib.hid (below_drewN HBV.out m)
        have HO1 : Hid (Ow (v.drewN m) w2.heap.size (.slice A2 ys.length c2) ys) := HOV
        clear T0 OL HBV HOV HCO
        generalize v.drewN m = v1 at *
        have c0 := T1.out.cell 0
        have c1' := T1.out.cell 1
        have c2' := T1.out.cell 2
        have c3 := T1.out.cell 3
        simp only [List.getElem?_toArray, List.getElem?_cons_zero, List.getElem?_cons_succ] at c0 c1' c2' c3
        have hgv := T1.out.lt
        generalize chQ ups downs a b d t = qq at *
        go_upto_region 10 with fail
        go_cut [79] (fun s79 wx => ∃ m : Nat, s79 = .bool qq ∧ v1.drewN m = wx)
        case first =>
          have x1 : IntKind.i64.wrap (10 * (t : Int)) = 10 * (t : Int) := IntWalk.i64_in _ (by omega)
          have x2 : IntKind.i64.wrap ((a : Int) + 10 * (t : Int)) = (a : Int) + 10 * (t : Int) := IntWalk.i64_in _ (by omega)
          by_cases e1 : (d : Int) = 0
          · have e2 : ((d : Int) == 0) = true := by simpa using e1
            by_cases e3 : (a : Int) + 10 * (t : Int) < O
            · have hq : qq = true := by rw [HQ.out, decide_eq_true e1, decide_eq_true e3]; rfl
              subst hq
              clear e1
              go_quiet (fail)
              go_wp2_with fail
              go_meet
              exact ⟨_, rfl, rfl⟩
            · have hq : qq = false := by rw [HQ.out, decide_eq_false e3, Bool.and_false]
              subst hq
              clear e1
              go_quiet (fail)
              go_wp2_with fail
              go_meet
              exact ⟨_, rfl, rfl⟩
          · have e2 : ((d : Int) == 0) = false := by simpa using e1
            have hq : qq = false := by rw [HQ.out, decide_eq_false e1, Bool.false_and]
            subst hq
            clear e1
            go_quiet (fail)
            go_wp2_with fail
            go_meet
            exact ⟨_, rfl, rfl⟩
        case rest =>
          obtain ⟨m, rfl, rfl⟩ := hcut
          have T2 : Hid (Blk (v1.drewN m) g 3 #[.int .i64 (a : Int), .int .i64 (b : Int), .int .i64 (d : Int), .int .i64 (t : Int)]) := T1
          have OL2 : Hid (Ow (v1.drewN m) w2.heap.size (.slice (some ⟨g, 0, none⟩) 4 4) [(a : Int), (b : Int), (d : Int), (t : Int)]) := OL1
          have HB2 := Lib.hid (below_drewN HB1.out m)
          have HO2 : Hid (Ow (v1.drewN m) w2.heap.size (.slice A2 ys.length c2) ys) := HO1
          clear T1 OL1 HB1 HO1 c0 c1' c2' c3 hgv HQ hO0
          generalize v1.drewN m = v2 at *
          rcases qq with _ | _
          · have Y := Lib.hid (GG.out rfl)
            have c0 := T2.out.cell 0
            have c1' := T2.out.cell 1
            have c2' := T2.out.cell 2
            have c3 := T2.out.cell 3
            simp only [List.getElem?_toArray, List.getElem?_cons_zero, List.getElem?_cons_succ] at c0 c1' c2' c3
            have hgv := T2.out.lt
            have r0 := (HB2.out.cell (p := ⟨bp, op, none⟩) hbl).trans hq0
            have r1 := (HB2.out.cell (p := ⟨bp, op + 1, none⟩) hbl).trans hq1
            have r2 := (HB2.out.cell (p := ⟨bp, op + 2, none⟩) hbl).trans hq2
            have r3 := (HB2.out.cell (p := ⟨bp, op + 3, none⟩) hbl).trans hq3
            have m0 := mul_pr (a := (a : Int)) (p := p0) (A := 20) (by omega) HP0.out
            have m1 := mul_pr (a := (b : Int)) (p := p1) (A := 20) (by omega) HP1.out
            have m2 := mul_pr (a := (d : Int)) (p := p2) (A := 20) (by omega) HP2.out
            have m3 := mul_pr (a := (t : Int)) (p := p3) (A := 20) (by omega) HP3.out
            obtain ⟨P0, hP0⟩ : ∃ x, x = (a : Int) * p0 := ⟨_, rfl⟩
            rw [← hP0] at m0 Y
            have y0 : IntKind.i64.wrap ((a : Int) * p0) = P0 := (IntWalk.i64_in _ (by rw [← hP0]; omega)).trans hP0.symm
            obtain ⟨P1, hP1⟩ : ∃ x, x = (b : Int) * p1 := ⟨_, rfl⟩
            rw [← hP1] at m1 Y
            have y1 : IntKind.i64.wrap ((b : Int) * p1) = P1 := (IntWalk.i64_in _ (by rw [← hP1]; omega)).trans hP1.symm
            obtain ⟨P2, hP2⟩ : ∃ x, x = (d : Int) * p2 := ⟨_, rfl⟩
            rw [← hP2] at m2 Y
            have y2 : IntKind.i64.wrap ((d : Int) * p2) = P2 := (IntWalk.i64_in _ (by rw [← hP2]; omega)).trans hP2.symm
            obtain ⟨P3, hP3⟩ : ∃ x, x = (t : Int) * p3 := ⟨_, rfl⟩
            rw [← hP3] at m3 Y
            have y3 : IntKind.i64.wrap ((t : Int) * p3) = P3 := (IntWalk.i64_in _ (by rw [← hP3]; omega)).trans hP3.symm
            clear hP0 hP1 hP2 hP3 hq0 hq1 hq2 hq3 GY GG
            obtain ⟨C, hC⟩ : ∃ C, C = P0 + P1 + P2 + P3 := ⟨_, rfl⟩
            rw [← hC] at Y
            have z1 : IntKind.i64.wrap P0 = P0 := IntWalk.i64_in _ (by omega)
            have z2 : IntKind.i64.wrap (P0 + P1) = P0 + P1 := IntWalk.i64_in _ (by omega)
            have z3 : IntKind.i64.wrap (P0 + P1 + P2) = P0 + P1 + P2 := IntWalk.i64_in _ (by omega)
            have z4 : IntKind.i64.wrap (P0 + P1 + P2 + P3) = C := (IntWalk.i64_in _ (by omega)).trans hC.symm
            have hC0 : 0 ≤ C ∧ C ≤ 5000000 := by omega
            clear hC
            have hbv : bp < v2.heap.size := Nat.lt_of_lt_of_le hbl HB2.out.size
            go_wp2_with fail
            go_loopg [16, 82] 4 (fun gg s i wx => ∃ (j : Nat) (z' : Int), j ≤ 4 ∧ 4 ≤ j + gg ∧ i = .int .i64 j ∧ s = .int .i64 z' ∧ v2 = wx ∧ Hid ((j = 0 ∧ z' = 0) ∨ (j = 1 ∧ z' = P0) ∨ (j = 2 ∧ z' = P0 + P1) ∨ (j = 3 ∧ z' = P0 + P1 + P2) ∨ (j = 4 ∧ z' = C)))
            case atStart => exact ⟨0, 0, by omega, by omega, rfl, rfl, rfl, .inl ⟨rfl, rfl⟩⟩
            case round =>
              obtain ⟨j, z', hj1, hj2, rfl, rfl, rfl, HJ⟩ := hrel
              rcases HJ.out with ⟨rfl, rfl⟩ | ⟨rfl, rfl⟩ | ⟨rfl, rfl⟩ | ⟨rfl, rfl⟩ | ⟨rfl, rfl⟩
              · go_wp2_with fail
                go_roundg 3
                case measure => omega
                case rel => exact ⟨1, P0, by omega, by omega, rfl, rfl, rfl, .inr (.inl ⟨rfl, rfl⟩)⟩
              · go_wp2_with fail
                go_roundg 2
                case measure => omega
                case rel => exact ⟨2, z' + P1, by omega, by omega, rfl, rfl, rfl, .inr (.inr (.inl ⟨rfl, rfl⟩))⟩
              · go_wp2_with fail
                go_roundg 1
                case measure => omega
                case rel => exact ⟨3, P0 + P1 + P2, by omega, by omega, rfl, rfl, rfl, .inr (.inr (.inr (.inl ⟨rfl, rfl⟩)))⟩
              · go_wp2_with fail
                go_roundg 0
                case measure => omega
                case rel => exact ⟨4, C, by omega, by omega, rfl, rfl, rfl, .inr (.inr (.inr (.inr ⟨rfl, rfl⟩)))⟩
              · clear c0 c1' c2' c3 r0 r1 r2 r3 y0 y1 y2 y3 z1 z2 z3 z4 m0 m1 m2 m3
                rcases (by omega : z < 0 ∨ ¬ z < 0 ∧ z' < z ∨ ¬ z < 0 ∧ ¬ z' < z) with h1 | ⟨h1, h2⟩ | ⟨h1, h2⟩
                · rw [chU_yes (s := (ys, z)) (.inl h1)] at Y
                  go_wp2_with fail
                  go_roundg (M - (k + 1))
                  case measure => omega
                  case rel => exact ⟨k + 1, some ⟨g, 0, none⟩, 4, _, z', by omega, by omega, by go_num, rfl, rfl, by omega, by omega, HB2, ⟨OL2.out, Y.out.symm⟩⟩
                · rw [chU_yes (s := (ys, z)) (.inr h2)] at Y
                  go_wp2_with fail
                  go_roundg (M - (k + 1))
                  case measure => omega
                  case rel => exact ⟨k + 1, some ⟨g, 0, none⟩, 4, _, z', by omega, by omega, by go_num, rfl, rfl, by omega, by omega, HB2, ⟨OL2.out, Y.out.symm⟩⟩
                · rw [chU_no (s := (ys, z)) (by rintro (h | h); exact h1 h; exact h2 h)] at Y
                  go_wp2_with fail
                  go_roundg (M - (k + 1))
                  case measure => omega
                  case rel => exact ⟨k + 1, A2, c2, ys, z, by omega, by omega, by go_num, rfl, rfl, by omega, by omega, HB2, ⟨HO2.out, Y.out.symm⟩⟩
          · have Y := Lib.hid (GY.out rfl)
            go_wp2_with fail
            go_roundg (M - (k + 1))
            case measure => omega
            case rel => exact ⟨k + 1, A2, c2, ys, z, by omega, by omega, by go_num, rfl, rfl, by omega, by omega, HB2, ⟨HO2.out, Y.out.symm⟩⟩
    · obtain rfl : k = M := by omega
      have h2 := HM2.out
      have he : (ys, z) = E := by rw [← HE.out]; exact HO.out.2
      subst he
      go_wp2_with fail
      go_ret3
      exact ⟨A2, c2, rfl, HO.out.1.base hwz2, Below.thenn B2.out HB.out hwz2⟩
end Go.Proofs.Ytobcgcdjoogfnaa
