/- The law FnProfiles: its walk. -/
import Derived.Test.YthhameglamemkaaDrawS
import Derived.Test.YthhameglamemkaaKlaw
import Derived.Test.YthhameglamemkaaProfP
import Derived.Deep.CutRange
namespace Go.Proofs.Ythhameglamemkaa
open Go.RowKit
set_option linter.unusedVariables false
set_option linter.unusedSimpArgs false

/-- The law's second part: two profiles joined, a profile kept, a profile smoothed. -/
def Tail (W wx : World) : Prop := Below W.heap.size W wx
theorem dec_no {x o : Int} (h : ¬ x < o) : decide (x < o) = false := by simpa using h
theorem dec_yes {x o : Int} (h : x < o) : decide (x < o) = true := by simpa using h
set_option maxRecDepth 100000 in
set_option maxHeartbeats 8000000 in
theorem law_FnProfiles (A : Option Addr) (n c : Nat) (zs : List Int) (W : World) (h : Came .u8 W A n c zs) :
    Calls Try.prog 12 #[.slice A n c] W (Ret W (.bool true)) := by
  by_cases hbig : 65536 < n
  · go_enter Try.func12, Try.ntmps12
    go_wp2_with (go_at_call 36; refine (laws_vBig _ _ _ _).mono ?_; rintro e w' ⟨rfl, rfl⟩)
    go_ret
    exact ⟨rfl, Below.refl _ _⟩
  have hS : Src.ok ⟨A, n, c, zs⟩ W := came_src h (by omega)
  have HS := Lib.hid hS
  have B0 := Lib.hid (Below.refl W.heap.size W)
  clear h hS
  go_enter Try.func12, Try.ntmps12
  go_wp2_with (go_at_call 36; refine (laws_vBig _ _ _ _).mono ?_; rintro e w' ⟨rfl, rfl⟩)
  go_wp2_with fail
  refine (draw_FastestUnder _ _ (HS.out.below B0.out)).mono ?_
  rintro e w1 ⟨A1, c1, ls, f, a, rfl, hll, ho, hb⟩
  have O1 := Lib.hid ho
  have B1 := Lib.hid (Below.thenn B0.out hb B0.out.size)
  clear ho hb
  have hrl := fastR_len ls f a (by omega)
  (go_wp2_with fail; refine (impl_FastestUnder _ _ _ ls f a w1 O1.out.rd (by omega) (fun e => O1.out.none_ e)).mono ?_; rintro e w2 ⟨A2, c2, rfl, ho, hb⟩; have O2 := Lib.hid ho; have B2 := Lib.hid (Below.thenn B1.out hb B1.out.size); have Qw2 := Lib.hid hb; clear ho hb)
  have P2 := Lib.hid (O1.out.below Qw2.out)
  (go_wp2_with fail; refine (spec_FastestUnder _ _ _ ls f a w2 P2.out.rd (by omega)).mono ?_; rintro e w3 ⟨A3, c3, rfl, ho, hb⟩; have O3 := Lib.hid ho; have B3 := Lib.hid (Below.thenn B2.out hb B2.out.size); have Qw3 := Lib.hid hb; clear ho hb)
  have P3 := Lib.hid (P2.out.below Qw3.out)
  have R3 := Lib.hid (O2.out.below Qw3.out)
  (go_wp2_with fail; refine (laws_vInts _ _ _ _ _ _ _ _ _ R3.out.rd O3.out.rd (by omega) (by omega)).mono ?_; intro e w4 hq; obtain ⟨rfl, hb⟩ := hq.ret; have B4 := Lib.hid (Below.thenn B3.out hb B3.out.size); have Qw4 := Lib.hid hb; clear hb hq)
  have P4 := Lib.hid (P3.out.below Qw4.out)
  have R4 := Lib.hid (R3.out.below Qw4.out)
  clear O1 P2 P3 O2 R3 O3 Qw2 Qw3 Qw4 B0 B1 B2 B3
  go_upto_if 69 with fail
  go_cut [3, 6, 7, 8, 9, 10, 11, 12, 13, 14] (fun q3 q6 q7 q8 q9 q10 q11 q12 q13 q14 wx => Hid (Tail W wx))
  case first =>
    as_aux_lemma =>
      rcases hk : fastOk ls f a with _ | _
      · go_wp2_with fail
        go_meet
        exact B4
      · obtain ⟨f1, f2, f3, f4, f5, f6, f7⟩ := fast_facts hk
        have HK := Lib.hid (fun (i : Nat) (o x : Int) => @fast_most ls f a hk i o x)
        generalize fastR ls f a = m at *
        have F7 := Lib.hid f7
        have F1 := Lib.hid (prof_mem f1)
        have hpl := prof_len f1
        have ha := inr_bd f2
        have ha0 := ha.1
        have ha1 := ha.2
        have hN : m.length = m.length := rfl
        generalize hM : m.length = M at *
        have hN2 : ls.length = M := f6.symm
        have hM1 : 1 ≤ M := hpl.1
        have hM3 : M ≤ 30 := hpl.2
        have hM0 : 0 < M := by omega
        have HM := Lib.hid hM
        have HM2 := Lib.hid hN2
        rw [hN2] at P4
        rw [hN2]
        clear hN hM hN2 f6 f7 hpl ha hll hrl
        obtain ⟨b, off, x0, rfl, hx0, c0⟩ := R4.out.rd.at1 hM0
        obtain ⟨b2, off2, x00, rfl, hx00, c00⟩ := P4.out.rd.at1 hM0
        have e0 : x0 = f := by have := F7.out; rw [hx0] at this; injection this
        subst e0
        rw [Nat.add_zero] at c0
        have K0 := Lib.hid c0
        clear c0 hx0 c00 hx00
        (go_wp2_with fail; refine (impl_DoesKeep _ _ _ m a w4 R4.out.rd (by omega)).mono ?_; intro e w5 hq; obtain ⟨rfl, hb⟩ := hq.ret; have B5 := Lib.hid (Below.thenn B4.out hb B4.out.size); have Qw5 := Lib.hid hb; clear hb hq)
        have R5 := Lib.hid (R4.out.below Qw5.out)
        have P5 := Lib.hid (P4.out.below Qw5.out)
        have ct := impl_FastestUnder _ _ _ m x0 a w5 R5.out.rd (by omega) (fun e => R5.out.none_ e)
        rw [f5, f4] at ct
        have CT := Lib.hid ct
        clear ct
        (go_wp2_with fail; refine (CT.out).mono ?_; rintro e w6 ⟨A6, c6, rfl, ho, hb⟩; have O6 := Lib.hid ho; have B6 := Lib.hid (Below.thenn B5.out hb B5.out.size); have Qw6 := Lib.hid hb; clear ho hb)
        rw [HM.out] at O6
        rw [HM.out]
        have R6 := Lib.hid (R5.out.below Qw6.out)
        have P6 := Lib.hid (P5.out.below Qw6.out)
        have c0 := (Qw6.out.cell (World.block_lt_of_cell? _ _ ((Qw5.out.cell (World.block_lt_of_cell? _ _ K0.out)).trans K0.out))).trans ((Qw5.out.cell (World.block_lt_of_cell? _ _ K0.out)).trans K0.out)
        (go_wp2_with fail; refine (laws_vInts _ _ _ _ _ _ _ _ _ O6.out.rd R6.out.rd (by omega) (by omega)).mono ?_; intro e w7 hq; obtain ⟨rfl, hb⟩ := hq.ret; have B7 := Lib.hid (Below.thenn B6.out hb B6.out.size); have Qw7 := Lib.hid hb; clear hb hq)
        have R7 := Lib.hid (R6.out.below Qw7.out)
        have P7 := Lib.hid (P6.out.below Qw7.out)
        clear c0 K0 CT R4 R5 R6 P4 P5 P6 O6 Qw5 Qw6 Qw7 B4 B5 B6
        go_wp2_with fail
        go_loopg [14] M (fun g i wr => ∃ k q : Nat, k ≤ M ∧ M ≤ k + g ∧ i = .int .i64 k ∧ w7.drewN q = wr)
        case atStart => exact ⟨0, 0, by omega, by omega, rfl, rfl⟩
        case round =>
          obtain ⟨k, q, hk1, hk2, rfl, rfl⟩ := hrel
          by_cases hlt : k < M
          · obtain ⟨b1, off1, o, e1, ho, co⟩ := R7.out.rd.at1 hlt
            injection e1 with e1
            injection e1 with e1 e2
            subst e1 e2
            obtain ⟨b1, off1, x, e1, hx, cx⟩ := P7.out.rd.at1 hlt
            injection e1 with e1
            injection e1 with e1 e2
            subst e1 e2
            have hm := HK.out k o x ho hx
            have d1 := dec_no (show ¬ x < o by have := hm.1; omega)
            have HMO := Lib.hid hm.2
            clear hx hm
            rcases Nat.eq_zero_or_pos k with h0 | h0
            · subst h0
              clear ho
              rw [Nat.add_zero] at co cx
              go_wp2_with fail
              go_quiet (fail)
              go_wp2_with fail
              go_roundg (M - 1)
              case measure => omega
              case rel => exact ⟨1, _, by omega, by omega, rfl, rfl⟩
            · obtain ⟨j, hj⟩ : ∃ j, k = j + 1 := ⟨k - 1, by omega⟩
              have hj1 : k ≤ j + 1 := by omega
              have hj2 : j + 1 ≤ k := by omega
              obtain ⟨k', hk'⟩ : ∃ k', k' = k + 1 := ⟨_, rfl⟩
              have hk3 : k' ≤ k + 1 := by omega
              have hk4 : k + 1 ≤ k' := by omega
              have e1 : m[k - 1]? = m[j]? := by rw [hj, Nat.add_sub_cancel]
              have e2 : m[k + 1]? = m[k']? := by rw [hk']
              rw [e1, e2] at HMO
              clear hj hk' e1 e2
              obtain ⟨b1, off1, p, e1, hp, cp⟩ := R7.out.rd.at1 (show j < M by omega)
              injection e1 with e1
              injection e1 with e1 e2
              subst e1 e2
              have hm := HMO.out h0 p hp
              have hpb := F1.out p (List.mem_of_getElem? hp)
              have hpb0 := hpb.1
              have hpb1 := hpb.2
              have u1 : IntKind.i64.wrap ((k : Int) - 1) = (j : Int) := (IntWalk.i64_in _ (by omega)).trans (by omega)
              have u2 : IntKind.i64.wrap ((k : Int) + 1) = (k' : Int) := (IntWalk.i64_in _ (by omega)).trans (by omega)
              have u3 : IntKind.i64.wrap (p + a) = p + a := IntWalk.i64_in _ (by omega)
              have d0 : decide ((0 : Int) < (k : Int)) = true := by simpa using h0
              clear hp hpb ho HMO
              by_cases h3 : o < x
              · have d3 := dec_yes h3
                by_cases h4 : o < p + a
                · have d4 := dec_yes h4
                  obtain ⟨q', hq', hle⟩ := hm h3 h4
                  have hlt2 : k' < M := by have := lt_of_at hq'; rw [HM.out] at this; exact this
                  have hqb := F1.out q' (List.mem_of_getElem? hq')
                  have hqb0 := hqb.1
                  have hqb1 := hqb.2
                  obtain ⟨b1, off1, q2, e1, hq2, cq⟩ := R7.out.rd.at1 hlt2
                  injection e1 with e1
                  injection e1 with e1 e2
                  subst e1 e2
                  obtain rfl : q' = q2 := by rw [hq'] at hq2; injection hq2
                  have u5 : IntKind.i64.wrap (q' + a) = q' + a := IntWalk.i64_in _ (by omega)
                  have d5 := dec_no (show ¬ o < q' + a by omega)
                  have d6 : ((k' : Int) == (M : Int)) = false := by simp; omega
                  clear hm hq' hq2 hqb h3 h4
                  go_wp2_with fail
                  go_quiet (fail)
                  go_wp2_with fail
                  go_roundg (M - k')
                  case measure => omega
                  case rel => exact ⟨k', _, by omega, by omega, by go_num, rfl⟩
                · have d4 := dec_no h4
                  clear hm h3 h4
                  go_wp2_with fail
                  go_quiet (fail)
                  go_wp2_with fail
                  go_roundg (M - k')
                  case measure => omega
                  case rel => exact ⟨k', _, by omega, by omega, by go_num, rfl⟩
              · have d3 := dec_no h3
                clear hm h3
                go_wp2_with fail
                go_quiet (fail)
                go_wp2_with fail
                go_roundg (M - k')
                case measure => omega
                case rel => exact ⟨k', _, by omega, by omega, by go_num, rfl⟩
          · go_wp2_with fail
            go_meet
            exact Lib.hid (below_drewN B7.out q)
  case rest =>
    as_aux_lemma =>
      have C0 : Hid (Below W.heap.size W wc) := hcut
      clear hcut
      go_wp2_with fail
      refine (draw_JoinProfiles _ _ (HS.out.below C0.out)).mono ?_
      rintro e w1 ⟨A1, c1, xs, A2, c2, ys, rfl, hx, hy, ho, ho', hb⟩
      have O1 := Lib.hid ho
      have O2 := Lib.hid ho'
      have C1 := Lib.hid (Below.thenn C0.out hb C0.out.size)
      clear ho ho' hb
      have hjl := joinR_len xs ys
      (go_wp2_with fail; refine (impl_JoinProfiles _ _ _ _ _ _ xs ys w1 O1.out.rd O2.out.rd (by omega) (by omega) O2.out.cap.1 O2.out.cap.2).mono ?_; rintro e w2 ⟨A3, c3, rfl, ho, hb⟩; have O3 := Lib.hid ho; have C2 := Lib.hid (Below.thenn C1.out hb C1.out.size); have Qw2 := Lib.hid hb; clear ho hb)
      have P1 := Lib.hid (O1.out.below Qw2.out)
      have P2 := Lib.hid (O2.out.below Qw2.out)
      (go_wp2_with fail; refine (spec_JoinProfiles _ _ _ _ _ _ xs ys w2 P1.out.rd P2.out.rd (by omega) (by omega) P2.out.cap.1 P2.out.cap.2).mono ?_; rintro e w3 ⟨A4, c4, rfl, ho, hb⟩; have O4 := Lib.hid ho; have C3 := Lib.hid (Below.thenn C2.out hb C2.out.size); have Qw3 := Lib.hid hb; clear ho hb)
      have R1 := Lib.hid (P1.out.below Qw3.out)
      have R2 := Lib.hid (P2.out.below Qw3.out)
      have R3 := Lib.hid (O3.out.below Qw3.out)
      (go_wp2_with fail; refine (laws_vInts _ _ _ _ _ _ _ _ _ R3.out.rd O4.out.rd (by omega) (by omega)).mono ?_; intro e w4 hq; obtain ⟨rfl, hb⟩ := hq.ret; have C4 := Lib.hid (Below.thenn C3.out hb C3.out.size); have Qw4 := Lib.hid hb; clear hb hq)
      have S1 := Lib.hid (R1.out.below Qw4.out)
      have S2 := Lib.hid (R2.out.below Qw4.out)
      have S3 := Lib.hid (R3.out.below Qw4.out)
      clear O1 O2 O3 O4 P1 P2 R1 R2 R3 Qw2 Qw3 Qw4 C0 C1 C2 C3
      go_upto_if 204 with fail
      go_cut [18, 20, 21, 22, 23, 24, 25, 26] (fun q18 q20 q21 q22 q23 q24 q25 q26 wx => Hid (Tail W wx))
      case first =>
        as_aux_lemma =>
          rcases hk : joinOk xs ys with _ | _
          · go_wp2_with fail
            go_meet
            exact C4
          · obtain ⟨f1, f2, f3, f4⟩ := join_facts hk
            have g1 := dwR_bd xs
            have g2 := dwR_bd ys
            have g3 := g1.1
            have g4 := g1.2
            have g5 := g2.1
            have g6 := g2.2
            clear g1 g2
            have F4 := Lib.hid f4
            clear f4
            (go_wp2_with fail; refine (impl_DoubleWay _ _ _ xs w4 S1.out.rd (by omega)).mono ?_; intro e w5 hq; obtain ⟨rfl, hb⟩ := hq.ret; have C5 := Lib.hid (Below.thenn C4.out hb C4.out.size); have Qw5 := Lib.hid hb; clear hb hq)
            (go_wp2_with fail; refine (impl_DoubleWay _ _ _ ys w5 (S2.out.below Qw5.out).rd (by omega)).mono ?_; intro e w6 hq; obtain ⟨rfl, hb⟩ := hq.ret; have C6 := Lib.hid (Below.thenn C5.out hb C5.out.size); have Qw6 := Lib.hid hb; clear hb hq)
            (go_wp2_with fail; refine (impl_DoubleWay _ _ _ (joinR xs ys) w6 ((S3.out.below Qw5.out).below Qw6.out).rd (by omega)).mono ?_; intro e w7 hq; obtain ⟨rfl, hb⟩ := hq.ret; have C7 := Lib.hid (Below.thenn C6.out hb C6.out.size); have Qw7 := Lib.hid hb; clear hb hq)
            rw [← F4.out]
            go_wp2_with fail
            go_meet
            exact C7
      case rest =>
        as_aux_lemma =>
          have C0 : Hid (Below W.heap.size W wc) := hcut
          clear hcut
          go_wp2_with fail
          refine (draw_DoesKeep _ _ (HS.out.below C0.out)).mono ?_
          rintro e w1 ⟨A5, c5, us, rate, rfl, hu, ho, hb⟩
          have O1 := Lib.hid ho
          have C1 := Lib.hid (Below.thenn C0.out hb C0.out.size)
          clear ho hb
          (go_wp2_with fail; refine (impl_DoesKeep _ _ _ us rate w1 O1.out.rd (by omega)).mono ?_; intro e w2 hq; obtain ⟨rfl, hb⟩ := hq.ret; have C2 := Lib.hid (Below.thenn C1.out hb C1.out.size); have Qw2 := Lib.hid hb; clear hb hq)
          (go_wp2_with fail; refine (spec_DoesKeep _ _ _ us rate w2 (O1.out.below Qw2.out).rd (by omega)).mono ?_; intro e w3 hq; obtain ⟨rfl, hb⟩ := hq.ret; have C3 := Lib.hid (Below.thenn C2.out hb C2.out.size); have Qw3 := Lib.hid hb; clear hb hq)
          go_wp2_with fail
          refine (draw_SmoothProfile _ _ (HS.out.below C3.out)).mono ?_
          rintro e w4 ⟨A6, c6, vs, rfl, hv, ho, hb⟩
          have O4 := Lib.hid ho
          have C4 := Lib.hid (Below.thenn C3.out hb C3.out.size)
          clear ho hb
          have hsl := smoothR_len vs (by omega)
          (go_wp2_with fail; refine (impl_SmoothProfile _ _ _ vs w4 O4.out.rd (by omega) (fun e => O4.out.none_ e)).mono ?_; rintro e w5 ⟨A7, c7, rfl, ho, hb⟩; have O5 := Lib.hid ho; have C5 := Lib.hid (Below.thenn C4.out hb C4.out.size); have Qw5 := Lib.hid hb; clear ho hb)
          have P5 := Lib.hid (O4.out.below Qw5.out)
          (go_wp2_with fail; refine (spec_SmoothProfile _ _ _ vs w5 P5.out.rd (by omega)).mono ?_; rintro e w6 ⟨A8, c8, rfl, ho, hb⟩; have O6 := Lib.hid ho; have C6 := Lib.hid (Below.thenn C5.out hb C5.out.size); have Qw6 := Lib.hid hb; clear ho hb)
          have P6 := Lib.hid (P5.out.below Qw6.out)
          have R6 := Lib.hid (O5.out.below Qw6.out)
          (go_wp2_with fail; refine (laws_vInts _ _ _ _ _ _ _ _ _ R6.out.rd O6.out.rd (by omega) (by omega)).mono ?_; intro e w7 hq; obtain ⟨rfl, hb⟩ := hq.ret; have C7 := Lib.hid (Below.thenn C6.out hb C6.out.size); have Qw7 := Lib.hid hb; clear hb hq)
          go_wp2_with (go_at_call 16; refine (impl_IsProfile _ _ _ vs _ (P6.out.below Qw7.out).rd (by omega)).mono ?_; rintro e w' ⟨rfl, rfl⟩)
          go_ret
          exact ⟨rfl, C7.out⟩
end Go.Proofs.Ythhameglamemkaa
