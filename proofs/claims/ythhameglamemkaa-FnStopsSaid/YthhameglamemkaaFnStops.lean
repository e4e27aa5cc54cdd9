/- The law FnStops: its walk. -/
import Derived.Test.YthhameglamemkaaDrawR
import Derived.Test.YthhameglamemkaaKlaw
import Derived.Test.YthhameglamemkaaStopP
import Derived.Deep.CutRange
namespace Go.Proofs.Ythhameglamemkaa
open Go.RowKit
set_option linter.unusedVariables false
set_option linter.unusedSimpArgs false

set_option maxRecDepth 100000 in
set_option maxHeartbeats 4000000 in
theorem law_FnStops (A : Option Addr) (n c : Nat) (zs : List Int) (W : World) (h : Came .u8 W A n c zs) :
    Calls Try.prog 13 #[.slice A n c] W (Ret W (.bool true)) := by
  by_cases hbig : 65536 < n
  · go_enter Try.func13, Try.ntmps13
    go_wp2_with (go_at_call 36; refine (laws_vBig _ _ _ _).mono ?_; rintro e w' ⟨rfl, rfl⟩)
    go_ret
    exact ⟨rfl, Below.refl _ _⟩
  have hS : Src.ok ⟨A, n, c, zs⟩ W := came_src h (by omega)
  have HS := Lib.hid hS
  have B0 := Lib.hid (Below.refl W.heap.size W)
  clear h hS
  go_enter Try.func13, Try.ntmps13
  go_wp2_with (go_at_call 36; refine (laws_vBig _ _ _ _).mono ?_; rintro e w' ⟨rfl, rfl⟩)
  (go_wp2_with fail; refine (draw_SpeedFor _ _ (HS.out.below B0.out)).mono ?_; rintro e w1 ⟨way, a, rfl, hb⟩; have B1 := Lib.hid (Below.thenn B0.out hb B0.out.size); clear hb)
  (go_wp2_with fail; refine (impl_SpeedFor way a w1).mono ?_; rintro e w2 ⟨rfl, hb⟩; have B2 := Lib.hid (Below.thenn B1.out hb B1.out.size); clear hb)
  (go_wp2_with fail; refine (spec_SpeedFor way a w2).mono ?_; rintro e w3 ⟨rfl, hb⟩; have B3 := Lib.hid (Below.thenn B2.out hb B2.out.size); clear hb)
  have Z3 := B3.out.size
  go_upto_if 60 with fail
  go_cut [6, 8, 9, 10, 11, 12] (fun q6 q8 q9 q10 q11 q12 wx => Hid (Below W.heap.size W wx))
  case first =>
    rcases hk : speedOk way a with _ | _
    · go_wp2_with fail
      go_meet
      exact B3
    · have hv := speed_bd way a
      have hf := speed_fit hk
      have HM := Lib.hid (fun h2 => speed_more hk h2)
      have hf1 := hf.1
      have hf2 : ¬ (way < stopR (speedR way a) a) := by have := hf.2; omega
      have hv0 := hv.1
      have hv1 := hv.2
      clear hf hv
      generalize speedR way a = v at *
      (go_wp2_with fail; refine (impl_StopWay v a w3).mono ?_; rintro e w4 ⟨rfl, hb⟩; have B4 := Lib.hid (Below.thenn B3.out hb B3.out.size); clear hb)
      (go_wp2_with fail; refine (impl_StopWay (v + 1) a w4).mono ?_; rintro e w5 ⟨rfl, hb⟩; have B5 := Lib.hid (Below.thenn B4.out hb B4.out.size); clear hb)
      rcases h2 : stopOk (v + 1) a with _ | _
      · go_wp2_with fail
        go_meet
        exact B5
      · have h3 := HM.out h2
        have h4 : ¬ (stopR (v + 1) a ≤ way) := by omega
        go_wp2_with fail
        go_meet
        exact B5
  case rest =>
    have C0 := hcut
    clear hcut
    (go_wp2_with fail; refine (draw_StopWay _ _ (HS.out.below C0.out)).mono ?_; rintro e w1 ⟨v, r, rfl, hb⟩; have C1 := Lib.hid (Below.thenn C0.out hb C0.out.size); clear hb)
    (go_wp2_with fail; refine (impl_StopWay v r w1).mono ?_; rintro e w2 ⟨rfl, hb⟩; have C2 := Lib.hid (Below.thenn C1.out hb C1.out.size); clear hb)
    (go_wp2_with fail; refine (spec_StopWay v r w2).mono ?_; rintro e w3 ⟨rfl, hb⟩; have C3 := Lib.hid (Below.thenn C2.out hb C2.out.size); clear hb)
    (go_wp2_with fail; refine (draw_ShortestTo _ _ (HS.out.below C3.out)).mono ?_; rintro e w4 ⟨f, t, b, rfl, hb⟩; have C4 := Lib.hid (Below.thenn C3.out hb C3.out.size); clear hb)
    go_wp2_with fail
    refine (impl_ShortestTo f t b w4).mono ?_
    rintro e w5 ⟨A5, c5, rfl, ho, hb⟩
    have O5 := Lib.hid ho
    have C5 := Lib.hid (Below.thenn C4.out hb C4.out.size)
    clear ho hb
    go_wp2_with fail
    refine (spec_ShortestTo f t b w5).mono ?_
    rintro e w6 ⟨A6, c6, rfl, ho, hb⟩
    have O6 := Lib.hid ho
    have C6 := Lib.hid (Below.thenn C5.out hb C5.out.size)
    have P6 := Lib.hid (O5.out.below hb)
    clear ho hb
    have hle := shortR_len f t b
    (go_wp2_with fail; refine (laws_vInts _ _ _ _ _ _ _ _ _ P6.out.rd O6.out.rd (by omega) (by omega)).mono ?_; intro e w7 hq; obtain ⟨rfl, hb⟩ := hq.ret; have C7 := Lib.hid (Below.thenn C6.out hb C6.out.size); have Qw7 := Lib.hid hb; clear hb hq)
    have P7 := Lib.hid (P6.out.below Qw7.out)
    clear O5 P6 O6 Qw7
    go_upto_if 141 with fail
    go_cut [22, 23, 24, 25, 26, 27] (fun q22 q23 q24 q25 q26 q27 wx => Hid (Below W.heap.size W wx))
    case first =>
      rcases hk : shortOk f t b with _ | _
      · go_wp2_with fail
        go_meet
        exact C7
      · obtain ⟨f1, f2, f3, f4, m, hm, hm30, f5⟩ := shortR_facts hk
        have F4 := Lib.hid f4
        have F5 := Lib.hid f5
        clear f4 f5
        generalize shortR f t b = xs at *
        have HM := Lib.hid hm
        rw [hm] at P7
        rw [hm]
        clear hm hle
        obtain ⟨bb, off, x0, rfl, hx0, c0⟩ := P7.out.rd.at1 (show 0 < m + 1 by omega)
        obtain ⟨bb', off', x1, e1, hx1, c1⟩ := P7.out.rd.at1 (show m < m + 1 by omega)
        injection e1 with e1
        injection e1 with e1 e2
        subst e1 e2
        have hf : x0 = f := by have := F4.out; rw [hx0] at this; injection this
        have ht : x1 = t := by have := F5.out; rw [hx1] at this; injection this
        subst hf ht
        clear hx0 hx1
        have K0 := Lib.hid c0
        have K1 := Lib.hid c1
        clear c0 c1
        (go_wp2_with fail; refine (impl_DoesKeep _ _ _ xs b w7 P7.out.rd (by omega)).mono ?_; intro e w8 hq; obtain ⟨rfl, hb⟩ := hq.ret; have C8 := Lib.hid (Below.thenn C7.out hb C7.out.size); have Qw8 := Lib.hid hb; clear hb hq)
        have c0 := (Qw8.out.cell (World.block_lt_of_cell? _ _ K0.out)).trans K0.out
        have c1 := (Qw8.out.cell (World.block_lt_of_cell? _ _ K1.out)).trans K1.out
        rw [Nat.add_zero] at c0
        have u1 : IntKind.i64.wrap (((m + 1 : Nat) : Int) - 1) = (m : Int) := (IntWalk.i64_in _ (by omega)).trans (by omega)
        go_wp2_with fail
        go_meet
        exact C8
    case rest =>
      have D0 := hcut
      clear hcut
      go_wp2_with fail
      refine (draw_DoubleWay _ _ (HS.out.below D0.out)).mono ?_
      rintro e w8 ⟨A8, c8, ys, rfl, hly, ho, hb⟩
      have O8 := Lib.hid ho
      have D1 := Lib.hid (Below.thenn D0.out hb D0.out.size)
      clear ho hb
      (go_wp2_with fail; refine (impl_DoubleWay _ _ _ ys w8 O8.out.rd (by omega)).mono ?_; intro e w9 hq; obtain ⟨rfl, hb⟩ := hq.ret; have D2 := Lib.hid (Below.thenn D1.out hb D1.out.size); have Qw9 := Lib.hid hb; clear hb hq)
      (go_wp2_with fail; refine (spec_DoubleWay _ _ _ ys w9 (O8.out.below Qw9.out).rd (by omega)).mono ?_; intro e w10 hq; obtain ⟨rfl, hb⟩ := hq.ret; have D3 := Lib.hid (Below.thenn D2.out hb D2.out.size); have Qw10 := Lib.hid hb; clear hb hq)
      go_wp2_with fail
      go_ret
      exact ⟨rfl, D3.out⟩
end Go.Proofs.Ythhameglamemkaa
