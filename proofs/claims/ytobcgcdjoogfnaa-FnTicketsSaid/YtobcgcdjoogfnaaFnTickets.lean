/- The law FnTickets: its walk. -/
import Derived.Test.YtobcgcdjoogfnaaDrawW
import Derived.Test.YtobcgcdjoogfnaaKlaw
import Derived.Test.YtobcgcdjoogfnaaKhas
import Derived.Test.YtobcgcdjoogfnaaKtick
import Derived.Test.YtobcgcdjoogfnaaTlaw
import Derived.Test.YtobcgcdjoogfnaaTickK
import Derived.Test.YtobcgcdjoogfnaaTickIB
import Derived.Test.YtobcgcdjoogfnaaTickHB
import Derived.Deep.CutRange
import Derived.Deep.CutBlock
import Derived.Test.YtobcgcdjoogfnaaExt
namespace Go.Proofs.Ytobcgcdjoogfnaa
open Go.RowKit
set_option linter.unusedVariables false
set_option linter.unusedSimpArgs false

def TailT (W wx : World) : Prop := Below W.heap.size W wx
theorem OwR.even {w : World} {B : Nat} {t : TypeId} {F : Nat} {v : Value} {rows : List (List Int)} (h : OwR w B t F v rows) : Even F rows := h.2
theorem useV_no {rows : List (List Int)} {number day : Int} {up : Bool} (h : useOk rows number day up = false) : useV rows number day up = [] := by simp [useV, h]
theorem useV_len2 (rows : List (List Int)) (number day : Int) (up : Bool) (h : rows.length ≤ 20) : (useV rows number day up).length ≤ 20 := by unfold useV useL; split <;> simp <;> omega
theorem sellV_len2 (rows : List (List Int)) (kind day : Int) (h : rows.length ≤ 20) : (sellV rows kind day).length ≤ 21 := by unfold sellV sellL; split <;> simp <;> omega
set_option maxRecDepth 100000 in
set_option maxHeartbeats 8000000 in
theorem law_FnTickets (A : Option Addr) (n c : Nat) (zs : List Int) (W : World) (h : Came .u8 W A n c zs) :
    Calls Try.prog 14 #[.slice A n c] W (Ret W (.bool true)) := by
  by_cases hbig : 65536 < n
  · go_enter Try.func14, Try.ntmps14
    go_wp2_with (go_at_call 45; refine (laws_rBig _ _ _ _).mono ?_; rintro e w' ⟨rfl, rfl⟩)
    go_ret
    exact ⟨rfl, Below.refl _ _⟩
  have hS : Src.ok ⟨A, n, c, zs⟩ W := came_src h (by omega)
  have HS := Lib.hid hS
  have B0 := Lib.hid (Below.refl W.heap.size W)
  clear h hS
  go_enter Try.func14, Try.ntmps14
  go_wp2_with (go_at_call 45; refine (laws_rBig _ _ _ _).mono ?_; rintro e w' ⟨rfl, rfl⟩)
  go_wp2_with fail
  refine (draw_UseTicket _ _ (HS.out.below B0.out)).mono ?_
  rintro e w1 ⟨A1, c1, rows, number, day, up, rfl, hl, ho, hb⟩
  have O1 := Lib.hid ho
  have B1 := Lib.hid (Below.thenn B0.out hb B0.out.size)
  clear ho hb
  have hul := useV_len2 rows number day up hl
  (go_wp2_with fail; refine (impl_UseTicket _ _ _ rows number day up w1 O1.out.rdR (by omega) (fun e => O1.out.none_ e)).mono ?_; rintro e w2 ⟨A2, c2, rfl, ho, hb⟩; have O2 := Lib.hid ho; have B2 := Lib.hid (Below.thenn B1.out hb B1.out.size); have Qw2 := Lib.hid hb; clear ho hb)
  have P2 := Lib.hid (O1.out.below Qw2.out)
  (go_wp2_with fail; refine (spec_UseTicket _ _ _ rows number day up w2 P2.out.rdR (by omega)).mono ?_; rintro e w3 ⟨A3, c3, rfl, ho, hb⟩; have O3 := Lib.hid ho; have B3 := Lib.hid (Below.thenn B2.out hb B2.out.size); have Qw3 := Lib.hid hb; clear ho hb)
  have P3 := Lib.hid (P2.out.below Qw3.out)
  have R3 := Lib.hid (O2.out.below Qw3.out)
  (go_wp2_with fail; refine (laws_rTickets _ _ _ _ _ _ _ _ R3.out.rdR O3.out.rdR (by omega)).mono ?_; intro e w4 hq; obtain ⟨rfl, hb⟩ := hq.ret; have B4 := Lib.hid (Below.thenn B3.out hb B3.out.size); have Qw4 := Lib.hid hb; clear hb hq)
  have P4 := Lib.hid (P3.out.below Qw4.out)
  have R4 := Lib.hid (R3.out.below Qw4.out)
  clear O1 P2 P3 O2 R3 O3 Qw2 Qw3 Qw4 B0 B1 B2 B3
  go_upto_block 0 with fail
  go_cut [3, 7, 8, 9, 10, 11, 12, 13, 14, 15, 16, 17, 18, 19] (fun q3 q7 q8 q9 q10 q11 q12 q13 q14 q15 q16 q17 q18 q19 wx => Hid (TailT W wx))
  case first =>
    as_aux_lemma =>
      rcases up with _ | _
      · have HU := Lib.hid (fun (hok : useOk rows number day false = true) (i : Nat) (u : List Int) (hu : (useV rows number day false)[i]? = some u) (hn : fld u 0 = number) => use_at P4.out.even hok hu hn)
        have HN := Lib.hid (fun (hok : useOk rows number day false = false) => useV_no hok)
        have HRD := Lib.hid R4.out.rdR
        generalize useV rows number day false = us at *
        generalize hM : us.length = M at *
        have HM := Lib.hid hM
        clear hM
        go_wp2_with fail
        go_loopg [11] M (fun g i wr => ∃ k : Nat, k ≤ M ∧ M ≤ k + g ∧ i = .int .i64 k ∧ Hid (Below w4.heap.size w4 wr))
        case atStart => exact ⟨0, by omega, by omega, rfl, Below.refl _ _⟩
        case round =>
          obtain ⟨k, hk1, hk2, rfl, HB⟩ := hrel
          by_cases hlt : k < M
          · have hok : useOk rows number day false = true := by
              rcases hok : useOk rows number day false with _ | _
              · have := HN.out hok
                have h2 := HM.out
                rw [this] at h2
                simp at h2
                omega
              · rfl
            obtain ⟨b, off, y0, y1, y2, y3, y4, rfl, hr, hbl, d0, d1, d2, d3, d4⟩ := HRD.out.row5 hlt
            have D0 := Lib.hid d0
            have D1 := Lib.hid d1
            have D2 := Lib.hid d2
            have D3 := Lib.hid d3
            have D4 := Lib.hid d4
            clear d0 d1 d2 d3 d4
            have d0 := (HB.out.cell (World.block_lt_of_cell? _ _ D0.out)).trans D0.out
            by_cases hy : y0 = number
            · obtain ⟨n', k', dy, x, y, x', y', hrow, hue, f1, f2, f3, f4, f5, g1, g2, g3, g4⟩ := HU.out hok k _ hr hy
              injection hue with e0 hue
              injection hue with e1 hue
              injection hue with e2 hue
              injection hue with e3 hue
              injection hue with e4 hue
              subst e0 e1 e2 e3 e4 hy
              obtain ⟨b2, off2, x0, x1, x2, x3, x4, rfl, hr2, hbl2, c0, c1', c2', c3', c4⟩ := P4.out.rdR.row5 (lt_of_at hrow)
              rw [hrow] at hr2
              injection hr2 with hr2
              injection hr2 with e0 hr2
              injection hr2 with e1 hr2
              injection hr2 with e2 hr2
              injection hr2 with e3 hr2
              injection hr2 with e4 hr2
              subst e0 e1 e2 e3 e4
              have C0 := Lib.hid c0
              have C1 := Lib.hid c1'
              have C2 := Lib.hid c2'
              have C3 := Lib.hid c3'
              have C4 := Lib.hid c4
              have hkr := lt_of_at hrow
              clear c0 c1' c2' c3' c4 hr hrow hok d0
              have HF4 := Lib.hid f4
              have HF5 := Lib.hid f5
              clear f4 f5
              have g := fun (w' : World) (hb : Below w4.heap.size w4 w') => (⟨(hb.cell (World.block_lt_of_cell? _ _ C0.out)).trans C0.out, (hb.cell (World.block_lt_of_cell? _ _ C1.out)).trans C1.out, (hb.cell (World.block_lt_of_cell? _ _ C2.out)).trans C2.out, (hb.cell (World.block_lt_of_cell? _ _ C3.out)).trans C3.out, (hb.cell (World.block_lt_of_cell? _ _ C4.out)).trans C4.out⟩ : _ ∧ _ ∧ _ ∧ _ ∧ _)
              have g' := fun (w' : World) (hb : Below w4.heap.size w4 w') => (⟨(hb.cell (World.block_lt_of_cell? _ _ D0.out)).trans D0.out, (hb.cell (World.block_lt_of_cell? _ _ D1.out)).trans D1.out, (hb.cell (World.block_lt_of_cell? _ _ D2.out)).trans D2.out, (hb.cell (World.block_lt_of_cell? _ _ D3.out)).trans D3.out, (hb.cell (World.block_lt_of_cell? _ _ D4.out)).trans D4.out⟩ : _ ∧ _ ∧ _ ∧ _ ∧ _)
              have G := Lib.hid g
              have G' := Lib.hid g'
              clear g g'
              obtain ⟨c0, c1', c2', c3', c4⟩ := G.out wr HB.out
              obtain ⟨d0, _, _, _, _⟩ := G'.out wr HB.out
              go_wp2_with fail
              refine (impl_RidesLeft y0 y1 y2 x y day wr).mono ?_
              rintro e w6 ⟨rfl, hb⟩
              have HB6 := Lib.hid (Below.thenn HB.out hb HB.out.size)
              clear hb c0 c1' c2' c3' c4 d0
              obtain ⟨d0, d1, d2, d3, d4⟩ := G'.out w6 HB6.out
              go_wp2_with fail
              refine (impl_RidesLeft y0 y1 y2 y3 y4 day w6).mono ?_
              rintro e w7 ⟨rfl, hb⟩
              have HB7 := Lib.hid (Below.thenn HB6.out hb HB6.out.size)
              clear hb d0 d1 d2 d3 d4
              obtain ⟨c0, c1', c2', c3', c4⟩ := G.out w7 HB7.out
              go_wp2_with fail
              refine (impl_CanRide y0 y1 y2 x y day false w7).mono ?_
              rintro e w8 ⟨rfl, hb⟩
              have HB8 := Lib.hid (Below.thenn HB7.out hb HB7.out.size)
              clear hb c0 c1' c2' c3' c4
              generalize rlU y0 y1 y2 x y day = a at *
              generalize rlD y0 y1 y2 x y day = b' at *
              generalize rlU y0 y1 y2 y3 y4 day = c' at *
              generalize rlD y0 y1 y2 y3 y4 day = d' at *
              have u1 : IntKind.i64.wrap (a - 1) = a - 1 := IntWalk.i64_in _ (by omega)
              have u2 : IntKind.i64.wrap (b' - 1) = b' - 1 := IntWalk.i64_in _ (by omega)
              have hd := HF5.out (by first | rfl | trivial)
              subst hd
              go_wp2_with fail
              go_roundg (M - (k + 1))
              case measure => omega
              case rel => exact ⟨k + 1, by omega, by omega, by go_num, HB8⟩
            · clear hok hr
              go_wp2_with fail
              go_roundg (M - (k + 1))
              case measure => omega
              case rel => exact ⟨k + 1, by omega, by omega, by go_num, HB⟩
          · go_wp2_with fail
            go_meet
            exact Lib.hid (Below.thenn B4.out HB.out B4.out.size)
      · have HU := Lib.hid (fun (hok : useOk rows number day true = true) (i : Nat) (u : List Int) (hu : (useV rows number day true)[i]? = some u) (hn : fld u 0 = number) => use_at P4.out.even hok hu hn)
        have HN := Lib.hid (fun (hok : useOk rows number day true = false) => useV_no hok)
        have HRD := Lib.hid R4.out.rdR
        generalize useV rows number day true = us at *
        generalize hM : us.length = M at *
        have HM := Lib.hid hM
        clear hM
        go_wp2_with fail
        go_loopg [11] M (fun g i wr => ∃ k : Nat, k ≤ M ∧ M ≤ k + g ∧ i = .int .i64 k ∧ Hid (Below w4.heap.size w4 wr))
        case atStart => exact ⟨0, by omega, by omega, rfl, Below.refl _ _⟩
        case round =>
          obtain ⟨k, hk1, hk2, rfl, HB⟩ := hrel
          by_cases hlt : k < M
          · have hok : useOk rows number day true = true := by
              rcases hok : useOk rows number day true with _ | _
              · have := HN.out hok
                have h2 := HM.out
                rw [this] at h2
                simp at h2
                omega
              · rfl
            obtain ⟨b, off, y0, y1, y2, y3, y4, rfl, hr, hbl, d0, d1, d2, d3, d4⟩ := HRD.out.row5 hlt
            have D0 := Lib.hid d0
            have D1 := Lib.hid d1
            have D2 := Lib.hid d2
            have D3 := Lib.hid d3
            have D4 := Lib.hid d4
            clear d0 d1 d2 d3 d4
            have d0 := (HB.out.cell (World.block_lt_of_cell? _ _ D0.out)).trans D0.out
            by_cases hy : y0 = number
            · obtain ⟨n', k', dy, x, y, x', y', hrow, hue, f1, f2, f3, f4, f5, g1, g2, g3, g4⟩ := HU.out hok k _ hr hy
              injection hue with e0 hue
              injection hue with e1 hue
              injection hue with e2 hue
              injection hue with e3 hue
              injection hue with e4 hue
              subst e0 e1 e2 e3 e4 hy
              obtain ⟨b2, off2, x0, x1, x2, x3, x4, rfl, hr2, hbl2, c0, c1', c2', c3', c4⟩ := P4.out.rdR.row5 (lt_of_at hrow)
              rw [hrow] at hr2
              injection hr2 with hr2
              injection hr2 with e0 hr2
              injection hr2 with e1 hr2
              injection hr2 with e2 hr2
              injection hr2 with e3 hr2
              injection hr2 with e4 hr2
              subst e0 e1 e2 e3 e4
              have C0 := Lib.hid c0
              have C1 := Lib.hid c1'
              have C2 := Lib.hid c2'
              have C3 := Lib.hid c3'
              have C4 := Lib.hid c4
              have hkr := lt_of_at hrow
              clear c0 c1' c2' c3' c4 hr hrow hok d0
              have HF4 := Lib.hid f4
              have HF5 := Lib.hid f5
              clear f4 f5
              have g := fun (w' : World) (hb : Below w4.heap.size w4 w') => (⟨(hb.cell (World.block_lt_of_cell? _ _ C0.out)).trans C0.out, (hb.cell (World.block_lt_of_cell? _ _ C1.out)).trans C1.out, (hb.cell (World.block_lt_of_cell? _ _ C2.out)).trans C2.out, (hb.cell (World.block_lt_of_cell? _ _ C3.out)).trans C3.out, (hb.cell (World.block_lt_of_cell? _ _ C4.out)).trans C4.out⟩ : _ ∧ _ ∧ _ ∧ _ ∧ _)
              have g' := fun (w' : World) (hb : Below w4.heap.size w4 w') => (⟨(hb.cell (World.block_lt_of_cell? _ _ D0.out)).trans D0.out, (hb.cell (World.block_lt_of_cell? _ _ D1.out)).trans D1.out, (hb.cell (World.block_lt_of_cell? _ _ D2.out)).trans D2.out, (hb.cell (World.block_lt_of_cell? _ _ D3.out)).trans D3.out, (hb.cell (World.block_lt_of_cell? _ _ D4.out)).trans D4.out⟩ : _ ∧ _ ∧ _ ∧ _ ∧ _)
              have G := Lib.hid g
              have G' := Lib.hid g'
              clear g g'
              obtain ⟨c0, c1', c2', c3', c4⟩ := G.out wr HB.out
              obtain ⟨d0, _, _, _, _⟩ := G'.out wr HB.out
              go_wp2_with fail
              refine (impl_RidesLeft y0 y1 y2 x y day wr).mono ?_
              rintro e w6 ⟨rfl, hb⟩
              have HB6 := Lib.hid (Below.thenn HB.out hb HB.out.size)
              clear hb c0 c1' c2' c3' c4 d0
              obtain ⟨d0, d1, d2, d3, d4⟩ := G'.out w6 HB6.out
              go_wp2_with fail
              refine (impl_RidesLeft y0 y1 y2 y3 y4 day w6).mono ?_
              rintro e w7 ⟨rfl, hb⟩
              have HB7 := Lib.hid (Below.thenn HB6.out hb HB6.out.size)
              clear hb d0 d1 d2 d3 d4
              obtain ⟨c0, c1', c2', c3', c4⟩ := G.out w7 HB7.out
              go_wp2_with fail
              refine (impl_CanRide y0 y1 y2 x y day true w7).mono ?_
              rintro e w8 ⟨rfl, hb⟩
              have HB8 := Lib.hid (Below.thenn HB7.out hb HB7.out.size)
              clear hb c0 c1' c2' c3' c4
              generalize rlU y0 y1 y2 x y day = a at *
              generalize rlD y0 y1 y2 x y day = b' at *
              generalize rlU y0 y1 y2 y3 y4 day = c' at *
              generalize rlD y0 y1 y2 y3 y4 day = d' at *
              have u1 : IntKind.i64.wrap (a - 1) = a - 1 := IntWalk.i64_in _ (by omega)
              have u2 : IntKind.i64.wrap (b' - 1) = b' - 1 := IntWalk.i64_in _ (by omega)
              have hd := HF4.out (by first | rfl | trivial)
              subst hd
              go_wp2_with fail
              go_roundg (M - (k + 1))
              case measure => omega
              case rel => exact ⟨k + 1, by omega, by omega, by go_num, HB8⟩
            · clear hok hr
              go_wp2_with fail
              go_roundg (M - (k + 1))
              case measure => omega
              case rel => exact ⟨k + 1, by omega, by omega, by go_num, HB⟩
          · go_wp2_with fail
            go_meet
            exact Lib.hid (Below.thenn B4.out HB.out B4.out.size)
  case rest =>
    as_aux_lemma =>
      have C0 : Hid (Below W.heap.size W wc) := hcut
      clear hcut P4 R4 B4 hul
      go_wp2_with fail
      refine (draw_SellTicket _ _ (HS.out.below C0.out)).mono ?_
      rintro e w1 ⟨A1, c1, rows, kind, on, rfl, hl, ho, hb⟩
      have O1 := Lib.hid ho
      have C1 := Lib.hid (Below.thenn C0.out hb C0.out.size)
      clear ho hb
      have hsl := sellV_len2 rows kind on hl
      (go_wp2_with fail; refine (impl_SellTicket _ _ _ rows kind on w1 O1.out.rdR (by omega) (fun e => O1.out.none_ e)).mono ?_; rintro e w2 ⟨A2, c2, rfl, ho, hb⟩; have O2 := Lib.hid ho; have C2 := Lib.hid (Below.thenn C1.out hb C1.out.size); have Qw2 := Lib.hid hb; clear ho hb)
      have P2 := Lib.hid (O1.out.below Qw2.out)
      (go_wp2_with fail; refine (spec_SellTicket _ _ _ rows kind on w2 P2.out.rdR (by omega)).mono ?_; rintro e w3 ⟨A3, c3, rfl, ho, hb⟩; have O3 := Lib.hid ho; have C3 := Lib.hid (Below.thenn C2.out hb C2.out.size); have Qw3 := Lib.hid hb; clear ho hb)
      have R3 := Lib.hid (O2.out.below Qw3.out)
      (go_wp2_with fail; refine (laws_rTickets _ _ _ _ _ _ _ _ R3.out.rdR O3.out.rdR (by omega)).mono ?_; intro e w4 hq; obtain ⟨rfl, hb⟩ := hq.ret; have C4 := Lib.hid (Below.thenn C3.out hb C3.out.size); have Qw4 := Lib.hid hb; clear hb hq)
      have R4 := Lib.hid (R3.out.below Qw4.out)
      clear O1 P2 O2 R3 O3 Qw2 Qw3 Qw4 C0 C1 C2 C3
      go_upto_if 196 with fail
      go_cut [23, 24, 25, 26, 27, 28, 29, 30, 31, 32] (fun q23 q24 q25 q26 q27 q28 q29 q30 q31 q32 wx => Hid (TailT W wx))
      case first =>
        as_aux_lemma =>
          rcases hk : sellOk rows kind on with _ | _
          · go_wp2_with fail
            go_meet
            exact C4
          · obtain ⟨f1, f2, f3, f4⟩ := sell_facts hk
            generalize sellV rows kind on = S at *
            generalize sellZ rows kind on = Z at *
            have cu := impl_UseTicket A2 S.length c2 S Z on true w4 R4.out.rdR (by omega) (fun e => R4.out.none_ e)
            rw [f1] at cu
            have CU := Lib.hid cu
            have CE := Lib.hid (fun w' (h' : RdR w' 5 A2 S.length S) => impl_ExpiredOn A2 S.length c2 S on w' h' (by omega))
            rw [f2] at CE
            have CA := Lib.hid (fun w' (h' : RdR w' 5 A2 S.length S) => impl_AreTickets A2 S.length c2 S w' h' (by omega))
            rw [f4] at CA
            have hev := expV_len S on
            have f5 : decide (Z ∈ expV S on) = false := by simpa using f3
            clear cu f1 f2 f3 f4 hk
            (go_wp2_with fail; refine (CU.out).mono ?_; rintro e w5 ⟨A5, c5, rfl, ho, hb⟩; have O5 := Lib.hid ho; have C5 := Lib.hid (Below.thenn C4.out hb C4.out.size); have Qw5 := Lib.hid hb; clear ho hb)
            have R5 := Lib.hid (R4.out.below Qw5.out)
            (go_wp2_with fail; refine (CE.out w5 R5.out.rdR).mono ?_; rintro e w6 ⟨A6, c6, rfl, ho, hb⟩; have O6 := Lib.hid ho; have C6 := Lib.hid (Below.thenn C5.out hb C5.out.size); have Qw6 := Lib.hid hb; clear ho hb)
            have R6 := Lib.hid (R5.out.below Qw6.out)
            have ch := laws_rHas A6 (expV S on).length c6 (expV S on) Z w6 O6.out.rd (by omega)
            rw [f5] at ch
            have CH := Lib.hid ch
            clear ch f5
            go_wp2_with (first | (go_at_call 53; refine (CH.out).mono ?_; rintro e w' ⟨rfl, rfl⟩) | (go_at_call 31; refine (CA.out w6 R6.out.rdR).mono ?_; rintro e w7 ⟨rfl, hb⟩; have C7 := Lib.hid (Below.thenn C6.out hb C6.out.size); clear hb))
            go_meet
            exact C7
      case rest =>
        as_aux_lemma =>
          have D0 : Hid (Below W.heap.size W wc) := hcut
          clear hcut R4 C4 hsl
          go_wp2_with fail
          refine (draw_ExpiredOn _ _ (HS.out.below D0.out)).mono ?_
          rintro e w1 ⟨A1, c1, us, day2, rfl, hl2, ho, hb⟩
          have O1 := Lib.hid ho
          have D1 := Lib.hid (Below.thenn D0.out hb D0.out.size)
          clear ho hb
          have hev := expV_len us day2
          (go_wp2_with fail; refine (impl_ExpiredOn _ _ _ us day2 w1 O1.out.rdR (by omega)).mono ?_; rintro e w2 ⟨A2, c2, rfl, ho, hb⟩; have O2 := Lib.hid ho; have D2 := Lib.hid (Below.thenn D1.out hb D1.out.size); have Qw2 := Lib.hid hb; clear ho hb)
          have P2 := Lib.hid (O1.out.below Qw2.out)
          (go_wp2_with fail; refine (spec_ExpiredOn _ _ _ us day2 w2 P2.out.rdR (by omega)).mono ?_; rintro e w3 ⟨A3, c3, rfl, ho, hb⟩; have O3 := Lib.hid ho; have D3 := Lib.hid (Below.thenn D2.out hb D2.out.size); have Qw3 := Lib.hid hb; clear ho hb)
          have P3 := Lib.hid (P2.out.below Qw3.out)
          have R3 := Lib.hid (O2.out.below Qw3.out)
          (go_wp2_with fail; refine (laws_rInts _ _ _ _ _ _ _ _ _ R3.out.rd O3.out.rd (by omega) (by omega)).mono ?_; intro e w4 hq; obtain ⟨rfl, hb⟩ := hq.ret; have D4 := Lib.hid (Below.thenn D3.out hb D3.out.size); have Qw4 := Lib.hid hb; clear hb hq)
          have P4 := Lib.hid (P3.out.below Qw4.out)
          have R4 := Lib.hid (R3.out.below Qw4.out)
          clear O1 P2 P3 O2 R3 O3 Qw2 Qw3 Qw4 D0 D1 D2 D3
          go_upto_block 2 with fail
          go_cut [33, 35, 36, 37, 38, 39, 40, 41, 42] from 50 to 322 (fun q33 q35 q36 q37 q38 q39 q40 q41 q42 wx => Hid (TailT W wx))
          case first =>
            as_aux_lemma =>
              rcases hk : expOk us day2 with _ | _
              · go_wp2_with fail
                go_loopg [39] 1 (fun g i wr => i = .int .i64 0 ∧ w4 = wr)
                case atStart => exact ⟨rfl, rfl⟩
                case round =>
                  obtain ⟨rfl, rfl⟩ := hrel
                  rcases Nat.eq_zero_or_pos us.length with h0 | h0
                  · go_wp2_with fail
                    go_meet
                    exact D4
                  · go_wp2_with fail
                    go_meet
                    exact D4
              · have HX := Lib.hid (fun (i : Nat) (n k dy x y : Int) (hr : us[i]? = some [n, k, dy, x, y]) => exp_facts hk hr)
                have HRD := Lib.hid P4.out.rdR
                have HRS := Lib.hid R4.out.rd
                have hN0 : us.length = us.length := rfl
                generalize hM : us.length = M at *
                clear hN0 hM
                go_wp2_with fail
                go_loopg [39] M (fun g i wr => ∃ k : Nat, k ≤ M ∧ M ≤ k + g ∧ i = .int .i64 k ∧ Hid (Below w4.heap.size w4 wr))
                case atStart => exact ⟨0, by omega, by omega, rfl, Below.refl _ _⟩
                case round =>
                  obtain ⟨k, hk1, hk2, rfl, HB⟩ := hrel
                  by_cases hlt : k < M
                  · obtain ⟨b, off, y0, y1, y2, y3, y4, rfl, hr, hbl, d0, d1, d2, d3, d4⟩ := HRD.out.row5 hlt
                    obtain ⟨f1, f2, g1, g2, g3, g4⟩ := HX.out k _ _ _ _ _ hr
                    have D0 := Lib.hid d0
                    have D1 := Lib.hid d1
                    have D2 := Lib.hid d2
                    have D3 := Lib.hid d3
                    have D4' := Lib.hid d4
                    have HF2 := Lib.hid f2
                    clear d0 d1 d2 d3 d4 hr f2
                    have d0 := (HB.out.cell (World.block_lt_of_cell? _ _ D0.out)).trans D0.out
                    have d1 := (HB.out.cell (World.block_lt_of_cell? _ _ D1.out)).trans D1.out
                    have d2 := (HB.out.cell (World.block_lt_of_cell? _ _ D2.out)).trans D2.out
                    have d3 := (HB.out.cell (World.block_lt_of_cell? _ _ D3.out)).trans D3.out
                    have d4 := (HB.out.cell (World.block_lt_of_cell? _ _ D4'.out)).trans D4'.out
                    go_wp2_with fail
                    refine (impl_RidesLeft y0 y1 y2 y3 y4 day2 wr).mono ?_
                    rintro e w6 ⟨rfl, hb⟩
                    have HB6 := Lib.hid (Below.thenn HB.out hb HB.out.size)
                    clear hb d0 d1 d2 d3 d4
                    have d0 := (HB6.out.cell (World.block_lt_of_cell? _ _ D0.out)).trans D0.out
                    have ch := laws_rHas A2 (expV us day2).length c2 (expV us day2) y0 w6 (HRS.out.below HB6.out) (by omega)
                    generalize rlU y0 y1 y2 y3 y4 day2 = a at *
                    generalize rlD y0 y1 y2 y3 y4 day2 = b' at *
                    have u1 : IntKind.i64.wrap (a + b') = a + b' := IntWalk.i64_in _ (by omega)
                    rcases Decidable.em (y0 ∈ expV us day2) with hin | hin
                    · have f3 := HF2.out hin
                      rw [decide_eq_true hin] at ch
                      have CH := Lib.hid ch
                      clear ch hin
                      go_wp2_with (go_at_call 53; refine (CH.out).mono ?_; rintro e w' ⟨rfl, rfl⟩)
                      go_roundg (M - (k + 1))
                      case measure => omega
                      case rel => exact ⟨k + 1, by omega, by omega, by go_num, HB6⟩
                    · rw [decide_eq_false hin] at ch
                      have CH := Lib.hid ch
                      clear ch hin
                      go_wp2_with (go_at_call 53; refine (CH.out).mono ?_; rintro e w' ⟨rfl, rfl⟩)
                      go_roundg (M - (k + 1))
                      case measure => omega
                      case rel => exact ⟨k + 1, by omega, by omega, by go_num, HB6⟩
                  · go_wp2_with fail
                    go_meet
                    exact Lib.hid (Below.thenn D4.out HB.out D4.out.size)
          case rest =>
            as_aux_lemma =>
              have E0 : Hid (Below W.heap.size W wc) := hcut
              clear hcut P4 R4 D4 hev
              go_wp2_with fail
              refine (draw_CanRide _ _ (HS.out.below E0.out)).mono ?_
              rintro e w1 ⟨x0, x1, x2, x3, x4, day3, up3, rfl, hb⟩
              have E1 := Lib.hid ((Below.thenn E0.out hb E0.out.size).alloc (Nat.le_trans E0.out.size hb.size) (.cells #[.int .i64 x0, .int .i64 x1, .int .i64 x2, .int .i64 x3, .int .i64 x4] 25))
              have T1 := Lib.hid (Blk.new w1 25 #[.int .i64 x0, .int .i64 x1, .int .i64 x2, .int .i64 x3, .int .i64 x4])
              clear hb
              go_wp2_with fail
              generalize w1.alloc (.cells #[.int .i64 x0, .int .i64 x1, .int .i64 x2, .int .i64 x3, .int .i64 x4] 25) = v1 at *
              refine (impl_CanRide x0 x1 x2 x3 x4 day3 up3 v1).mono ?_
              rintro e w2 ⟨rfl, hb⟩
              have E2 := Lib.hid (Below.thenn E1.out hb E1.out.size)
              have T2 := Lib.hid (T1.out.below hb T1.out.lt)
              clear hb
              obtain ⟨c0, c1', c2', c3', c4⟩ := T2.out.cells5
              go_wp2_with fail
              refine (spec_CanRide x0 x1 x2 x3 x4 day3 up3 w2).mono ?_
              rintro e w3 ⟨rfl, hb⟩
              have E3 := Lib.hid (Below.thenn E2.out hb E2.out.size)
              have T3 := Lib.hid (T2.out.below hb T2.out.lt)
              clear hb c0 c1' c2' c3' c4
              obtain ⟨c0, c1', c2', c3', c4⟩ := T3.out.cells5
              have hlt3 := T3.out.lt
              clear T1 T2 E0 E1 E2
              have hE := E3
              clear E3
              generalize hw3 : w3 = w at *
              clear hw3
              have hB : Below w.heap.size w w := Below.refl _ _
              go_wp2_with fail
              (refine wp_region_ext (by kernel_rfl) (by kernel_rfl) ?_; have hxe := ext_cells; (repeat (go_big_quiet_step (first | (go_at_call 17; exact ext_ret (impl_IsTicket _ _ _ _ _ _)) | (go_at_call 15; exact ext_ret (spec_IsTicket _ _ _ _ _ _))))); refine wpQuiet_nil ?_; intro w' hw'; obtain ⟨nx, hw''⟩ := hw'; have hbx := ext_out hw''; clear hw'' nx hxe; have hB : Below w.heap.size w w' := Below.thenn (by repeat (first | exact Below.refl _ _ | assumption | apply Below.drew | apply below_drewN | (refine Below.alloc ?_ (by first | omega | (simp; done) | (simp; omega)) _) | (refine Below.setCell ?_ (by first | omega | (simp; done) | (simp; omega)) _))) hbx (by first | omega | (simp; done) | (simp; omega)); have hz : w.heap.size ≤ w'.heap.size := hB.size; obtain ⟨hc, hf⟩ := bcell hbx; clear hbx)
              go_wp2_with fail
              go_ret
              exact ⟨rfl, Below.thenn hE.out hB hE.out.size⟩
end Go.Proofs.Ytobcgcdjoogfnaa
