/- The law FnGripLists: its walk. -/
import Derived.Test.YtfnpbmndkbaodaaDrawL
import Derived.Test.YtfnpbmndkbaodaaKlaw
import Derived.Test.YtfnpbmndkbaodaaKhas
import Derived.Test.YtfnpbmndkbaodaaKgrip
import Derived.Test.YtfnpbmndkbaodaaGlawE
import Derived.Test.YtfnpbmndkbaodaaGripHB
import Derived.Test.YtfnpbmndkbaodaaGripFB
import Derived.Test.YtfnpbmndkbaodaaGripL
import Derived.Deep.CutRange
import Derived.Deep.CutBlock
import Derived.Test.YtfnpbmndkbaodaaExt
namespace Go.Proofs.Ytfnpbmndkbaodaa
open Go.RowKit
set_option linter.unusedVariables false
set_option linter.unusedSimpArgs false

def TailT (W wx : World) : Prop := Below W.heap.size W wx
set_option maxRecDepth 100000 in
set_option maxHeartbeats 8000000 in
theorem law_FnGripLists (A : Option Addr) (n c : Nat) (zs : List Int) (W : World) (h : Came .u8 W A n c zs) :
    Calls Try.prog 9 #[.slice A n c] W (Ret W (.bool true)) := by
  by_cases hbig : 65536 < n
  · go_enter Try.func9, Try.ntmps9
    go_wp2_with (go_at_call 29; refine (laws_rBig _ _ _ _).mono ?_; rintro e w' ⟨rfl, rfl⟩)
    go_ret
    exact ⟨rfl, Below.refl _ _⟩
  have hS : Src.ok ⟨A, n, c, zs⟩ W := came_src h (by omega)
  have HS := Lib.hid hS
  have B0 := Lib.hid (Below.refl W.heap.size W)
  clear h hS
  go_enter Try.func9, Try.ntmps9
  go_wp2_with (go_at_call 29; refine (laws_rBig _ _ _ _).mono ?_; rintro e w' ⟨rfl, rfl⟩)
  go_wp2_with fail
  refine (draw_AllHold _ _ (HS.out.below B0.out)).mono ?_
  rintro e w1 ⟨A1, c1, rows, AL, cL, loads, slope, rfl, hl, hll, ho, hol, hb⟩
  have O1 := Lib.hid ho
  have L1 := Lib.hid hol
  have B1 := Lib.hid (Below.thenn B0.out hb B0.out.size)
  clear ho hol hb
  have hvl := ahV_le rows loads slope
  (go_wp2_with fail; refine (impl_AllHold _ _ _ _ _ _ rows loads slope w1 O1.out.rdR (by omega) L1.out.rd (by omega)).mono ?_; rintro e w2 ⟨A2, c2, rfl, ho, hb⟩; have O2 := Lib.hid ho; have B2 := Lib.hid (Below.thenn B1.out hb B1.out.size); have Qw2 := Lib.hid hb; clear ho hb)
  have P2 := Lib.hid (O1.out.below Qw2.out)
  have L2 := Lib.hid (L1.out.below Qw2.out)
  (go_wp2_with fail; refine (spec_AllHold _ _ _ _ _ _ rows loads slope w2 P2.out.rdR (by omega) L2.out.rd (by omega)).mono ?_; rintro e w3 ⟨A3, c3, rfl, ho, hb⟩; have O3 := Lib.hid ho; have B3 := Lib.hid (Below.thenn B2.out hb B2.out.size); have Qw3 := Lib.hid hb; clear ho hb)
  have P3 := Lib.hid (P2.out.below Qw3.out)
  have L3 := Lib.hid (L2.out.below Qw3.out)
  have R3 := Lib.hid (O2.out.below Qw3.out)
  (go_wp2_with fail; refine (laws_rInts _ _ _ _ _ _ _ _ _ R3.out.rd O3.out.rd (by omega) (by omega)).mono ?_; intro e w4 hq; obtain ⟨rfl, hb⟩ := hq.ret; have B4 := Lib.hid (Below.thenn B3.out hb B3.out.size); have Qw4 := Lib.hid hb; clear hb hq)
  have P4 := Lib.hid (P3.out.below Qw4.out)
  have L4 := Lib.hid (L3.out.below Qw4.out)
  have R4 := Lib.hid (R3.out.below Qw4.out)
  clear O1 P2 P3 O2 R3 O3 Qw2 Qw3 Qw4 B0 B1 B2 B3 L1 L2 L3
  generalize hok : ahOk rows loads slope = ok at *
  have HOK := Lib.hid hok
  clear hok
  go_upto_block 0 with fail
  go_cut [10, 11, 12] from 61 to 223 (fun q10 q11 q12 wx => Hid (Below w4.heap.size w4 wx))
  case first =>
    as_aux_lemma =>
      have HF := Lib.hid (fun (hok : ahOk rows loads slope = true) (i : Nat) (x0 x1 x2 x3 x4 l : Int) (hr : rows[i]? = some [x0, x1, x2, x3, x4]) (hl : loads[i]? = some l) => ah_facts hok hr hl)
      have HN := Lib.hid (fun (hok : ahOk rows loads slope = true) => ah_len hok)
      have HRD := Lib.hid R4.out.rd
      generalize ahV rows loads slope = us at *
      generalize hM : rows.length = M at *
      have HM := Lib.hid hM
      clear hM
      rcases ok with _ | _
      · go_wp2_with fail
        go_loopg [10] M (fun g i wr => ∃ k : Nat, i = .int .i64 k ∧ Hid (Below w4.heap.size w4 wr))
        case atStart => exact ⟨0, rfl, Below.refl _ _⟩
        case round =>
          obtain ⟨k, rfl, HB⟩ := hrel
          go_wp2_with fail
          all_goals go_meet
          all_goals exact HB
      have hln := HN.out HOK.out
      have hF := HF.out HOK.out
      have hkl : loads.length = M := by have := hln.1; have := HM.out; omega
      have HF2 := Lib.hid hF
      have HKL := Lib.hid hkl
      clear hln hF hkl HF HN
      go_wp2_with fail
      go_loopg [10] M (fun g i wr => ∃ k : Nat, k ≤ M ∧ M ≤ k + g ∧ i = .int .i64 k ∧ Hid (Below w4.heap.size w4 wr))
      case atStart => exact ⟨0, by omega, by omega, rfl, Below.refl _ _⟩
      case round =>
        obtain ⟨k, hk1, hk2, rfl, HB⟩ := hrel
        by_cases hlt : k < M
        · have hkl : k < loads.length := by have := HKL.out; omega
          obtain ⟨b, off, x0, x1, x2, x3, x4, rfl, hr, hbl, c0, c1', c2', c3', c4⟩ := (P4.out.rdR.castN HM.out).row5 hlt
          obtain ⟨b', off', l, rfl, hx, hcl⟩ := L4.out.rd.at1 hkl
          obtain ⟨hd, hin⟩ := HF2.out k x0 x1 x2 x3 x4 l hr hx
          rw [← HB.out.cell (p := ⟨b, _, none⟩) hbl] at c0 c1' c2' c3' c4
          rw [← HB.out.cell (p := ⟨b', _, none⟩) (World.block_lt_of_cell? _ _ hcl)] at hcl
          have hbr : b < wr.heap.size := Nat.lt_of_lt_of_le hbl HB.out.size
          have hbr' : b' < wr.heap.size := World.block_lt_of_cell? _ _ hcl
          have co := fun w => impl_DoesHold x0 x1 x2 x3 x4 l slope w
          rw [hd] at co
          have ch := fun w' (h' : Rd w' 1 A2 us.length (IV us)) => laws_rHas A2 us.length c2 us x0 w' h' (by omega)
          rw [hin] at ch
          have CO := Lib.hid co
          have CH := Lib.hid ch
          clear co ch hd hin hr hx
          generalize dhV x0 x1 x2 x3 x4 l slope = dv at *
          go_wp2_with fail
          generalize hwr : wr = w at *
          clear hwr
          have hB : Below w.heap.size w w := Below.refl _ _
          (refine wp_region_ext (by kernel_rfl) (by kernel_rfl) ?_; have hxe := ext_cells; (repeat (go_big_quiet_step ((go_at_call 33; exact ext_ret (CO.out _))))); refine wpQuiet_nil ?_; intro w' hw'; obtain ⟨nx, hw''⟩ := hw'; have hbx := ext_out hw''; clear hw'' nx hxe; have hB : Below w.heap.size w w' := Below.thenn (by repeat (first | exact Below.refl _ _ | assumption | apply Below.drew | apply below_drewN | (refine Below.alloc ?_ (by first | omega | (simp; done) | (simp; omega)) _) | (refine Below.setCell ?_ (by first | omega | (simp; done) | (simp; omega)) _))) hbx (by first | omega | (simp; done) | (simp; omega)); have hz : w.heap.size ≤ w'.heap.size := hB.size; obtain ⟨hc, hf⟩ := bcell hbx; clear hbx)
          have HB6 := Lib.hid (Below.thenn HB.out hB HB.out.size)
          have c0' := (hB.cell (p := ⟨b, _, none⟩) hbr).trans c0
          clear hc hf
          rcases dv with _ | _
          · go_wp2_with (go_at_call 40; refine (CH.out _ (HRD.out.below HB6.out)).mono ?_; rintro e w' ⟨rfl, rfl⟩)
            go_roundg (M - (k + 1))
            case measure => omega
            case rel => exact ⟨k + 1, by omega, by omega, by go_num, HB6⟩
          · go_wp2_with (go_at_call 40; refine (CH.out _ (HRD.out.below HB6.out)).mono ?_; rintro e w' ⟨rfl, rfl⟩)
            go_roundg (M - (k + 1))
            case measure => omega
            case rel => exact ⟨k + 1, by omega, by omega, by go_num, HB6⟩
        · go_wp2_with fail
          go_meet
          exact HB
  case rest =>
    as_aux_lemma =>
      have C0 : Hid (Below w4.heap.size w4 wc) := hcut
      have HS4 := Lib.hid (HS.out.below B4.out)
      have HG := Lib.hid (fun (hk : ok = true) => (ah_len (HOK.out.trans hk)).2)
      clear hcut R4 L4 HOK hvl HS
      go_wp2_with fail
      refine (draw_OpenGrip _ _ (HS4.out.below C0.out)).mono ?_
      rintro e w1 ⟨A5, c5, rows2, cab, slip, rfl, hl2, ho, hb⟩
      have O1 := Lib.hid ho
      have C1 := Lib.hid (Below.thenn C0.out hb C0.out.size)
      clear ho hb
      have hev := opV_len (rows := rows2) (cab := cab) (slip := slip) (by omega)
      (go_wp2_with fail; refine (impl_OpenGrip _ _ _ rows2 cab slip w1 O1.out.rdR (by omega) (fun e => O1.out.none_ e)).mono ?_; rintro e w2 ⟨A6, c6, rfl, ho, hb⟩; have O2 := Lib.hid ho; have C2 := Lib.hid (Below.thenn C1.out hb C1.out.size); have Qw2 := Lib.hid hb; clear ho hb)
      have P2 := Lib.hid (O1.out.below Qw2.out)
      (go_wp2_with fail; refine (spec_OpenGrip _ _ _ rows2 cab slip w2 P2.out.rdR (by omega)).mono ?_; rintro e w3 ⟨A7, c7, rfl, ho, hb⟩; have O3 := Lib.hid ho; have C3 := Lib.hid (Below.thenn C2.out hb C2.out.size); have Qw3 := Lib.hid hb; clear ho hb)
      have P3 := Lib.hid (P2.out.below Qw3.out)
      have R3 := Lib.hid (O2.out.below Qw3.out)
      (go_wp2_with fail; refine (laws_rGrips _ _ _ _ _ _ _ _ R3.out.rdR O3.out.rdR (by omega)).mono ?_; intro e w8 hq; obtain ⟨rfl, hb⟩ := hq.ret; have C8 := Lib.hid (Below.thenn C3.out hb C3.out.size); have Qw8 := Lib.hid hb; clear hb hq)
      have P8 := Lib.hid (P3.out.below Qw8.out)
      have R8 := Lib.hid (R3.out.below Qw8.out)
      clear O1 P2 P3 O2 R3 O3 Qw2 Qw3 Qw8 C0 C1 C2 C3
      generalize hok : opOk rows2 cab slip = ok2 at *
      have HOK := Lib.hid hok
      clear hok
      go_upto_block 2 with fail
      go_cut [20] from 125 to 223 (fun q20 wx => Hid (Below w8.heap.size w8 wx))
      case first =>
        as_aux_lemma =>
          have HF := Lib.hid (fun (hk : ok2 = true) (i : Nat) (r s : List Int) (hr : rows2[i]? = some r) (hs : (opV rows2 cab slip)[i]? = some s) => op_facts (HOK.out.trans hk) hr hs)
          have HN := Lib.hid (fun (hk : ok2 = true) => op_len (HOK.out.trans hk))
          have HE := Lib.hid (fun (hk : ok2 = false) => op_no (HOK.out.trans hk))
          have HGd := Lib.hid (fun (hk : ok2 = true) => op_good (HOK.out.trans hk))
          have HRD := Lib.hid R8.out.rdR
          generalize opV rows2 cab slip = us at *
          generalize hM : us.length = M at *
          have HM := Lib.hid hM
          clear hM
          go_wp2_with fail
          go_loopg [20] M (fun g i wr => ∃ k : Nat, k ≤ M ∧ M ≤ k + g ∧ i = .int .i64 k ∧ Hid (Below w8.heap.size w8 wr))
          case atStart => exact ⟨0, by omega, by omega, rfl, Below.refl _ _⟩
          case round =>
            obtain ⟨k, hk1, hk2, rfl, HB⟩ := hrel
            by_cases hlt : k < M
            · have hok2 : ok2 = true := by
                rcases hq : ok2 with _ | _
                · have h1 := HE.out hq
                  have h2 := HM.out
                  rw [h1] at h2
                  simp at h2
                  omega
                · rfl
              have hkl : k < rows2.length := by have := HN.out hok2; have := HM.out; omega
              obtain ⟨b, off, y0, y1, y2, y3, y4, rfl, hs, hbl, d0, _, _, d3, _⟩ := HRD.out.row5 hlt
              obtain ⟨b', off', x0, x1, x2, x3, x4, rfl, hr, hbl', _, _, _, c3', _⟩ := P8.out.rdR.row5 hkl
              have hf := HF.out hok2 k _ _ hr hs
              obtain ⟨_, _, _, hx3, _⟩ := goodR (HGd.out hok2) hr
              simp only [fld, List.getD_eq_getElem?_getD, List.getElem?_cons_zero, List.getElem?_cons_succ, Option.getD_some] at hf
              rw [← HB.out.cell (p := ⟨b, _, none⟩) hbl] at d0 d3
              rw [← HB.out.cell (p := ⟨b', _, none⟩) hbl'] at c3'
              have hbr : b < wr.heap.size := Nat.lt_of_lt_of_le hbl HB.out.size
              have hbr' : b' < wr.heap.size := Nat.lt_of_lt_of_le hbl' HB.out.size
              have u : IntKind.i64.wrap (x3 + 1) = x3 + 1 := IntWalk.i64_in _ (by omega)
              clear hr hs hok2
              generalize hwr : wr = w at *
              clear hwr
              have hB : Below w.heap.size w w := Below.refl _ _
              by_cases hy : y0 = cab
              · have hy3 : y3 = x3 + 1 := hf.2 hy
                have e1 : (y3 == x3 + 1) = true := by simpa using hy3
                have e2 : (y0 == cab) = true := by simpa using hy
                clear hf hy hy3
                go_wp2_with fail
                (refine wp_region_ext (by kernel_rfl) (by kernel_rfl) ?_; have hxe := ext_cells; (repeat (go_big_quiet_step (fail))); refine wpQuiet_nil ?_; intro w' hw'; obtain ⟨nx, hw''⟩ := hw'; have hbx := ext_out hw''; clear hw'' nx hxe; have hB : Below w.heap.size w w' := Below.thenn (by repeat (first | exact Below.refl _ _ | assumption | apply Below.drew | apply below_drewN | (refine Below.alloc ?_ (by first | omega | (simp; done) | (simp; omega)) _) | (refine Below.setCell ?_ (by first | omega | (simp; done) | (simp; omega)) _))) hbx (by first | omega | (simp; done) | (simp; omega)); have hz : w.heap.size ≤ w'.heap.size := hB.size; obtain ⟨hc, hf⟩ := bcell hbx; clear hbx)
                have HB6 := Lib.hid (Below.thenn HB.out hB HB.out.size)
                clear hc hf
                go_wp2_with fail
                go_roundg (M - (k + 1))
                case measure => omega
                case rel => exact ⟨k + 1, by omega, by omega, by go_num, HB6⟩
              · have hy3 : ¬ y3 = x3 + 1 := fun h => hy (hf.1 h)
                have e1 : (y3 == x3 + 1) = false := by simpa using hy3
                have e2 : (y0 == cab) = false := by simpa using hy
                clear hf hy hy3
                go_wp2_with fail
                (refine wp_region_ext (by kernel_rfl) (by kernel_rfl) ?_; have hxe := ext_cells; (repeat (go_big_quiet_step (fail))); refine wpQuiet_nil ?_; intro w' hw'; obtain ⟨nx, hw''⟩ := hw'; have hbx := ext_out hw''; clear hw'' nx hxe; have hB : Below w.heap.size w w' := Below.thenn (by repeat (first | exact Below.refl _ _ | assumption | apply Below.drew | apply below_drewN | (refine Below.alloc ?_ (by first | omega | (simp; done) | (simp; omega)) _) | (refine Below.setCell ?_ (by first | omega | (simp; done) | (simp; omega)) _))) hbx (by first | omega | (simp; done) | (simp; omega)); have hz : w.heap.size ≤ w'.heap.size := hB.size; obtain ⟨hc, hf⟩ := bcell hbx; clear hbx)
                have HB6 := Lib.hid (Below.thenn HB.out hB HB.out.size)
                clear hc hf
                go_wp2_with fail
                go_roundg (M - (k + 1))
                case measure => omega
                case rel => exact ⟨k + 1, by omega, by omega, by go_num, HB6⟩
            · go_wp2_with fail
              go_meet
              exact HB
      case rest =>
        as_aux_lemma =>
          have D0 : Hid (Below w4.heap.size w4 wc) := Lib.hid (Below.thenn C8.out hcut.out C8.out.size)
          clear hcut P8 R8 C8 HOK hev
          go_wp2_with fail
          refine (draw_WeakestGrip _ _ (HS4.out.below D0.out)).mono ?_
          rintro e w1 ⟨A8, c8, rows3, rfl, hl3, ho, hb⟩
          have O1 := Lib.hid ho
          have D1 := Lib.hid (Below.thenn D0.out hb D0.out.size)
          clear ho hb
          go_wp2_with fail
          refine (impl_WeakestGrip _ _ _ rows3 w1 O1.out.rdR (by omega)).mono ?_
          rintro e w2 ⟨rfl, hb⟩
          have D2 := Lib.hid (Below.thenn D1.out hb D1.out.size)
          have P2 := Lib.hid (O1.out.below hb)
          clear hb
          go_wp2_with fail
          refine (spec_WeakestGrip _ _ _ rows3 w2 P2.out.rdR (by omega)).mono ?_
          rintro e w3 ⟨rfl, hb⟩
          have D3 := Lib.hid (Below.thenn D2.out hb D2.out.size)
          have P3 := Lib.hid (P2.out.below hb)
          clear hb O1 P2 D0 D1 D2
          have HW := Lib.hid (fun (hk : wkOk rows3 = true) => wk_facts hk)
          generalize wkV rows3 = worst at *
          generalize hok : wkOk rows3 = ok3 at *
          have HOK := Lib.hid hok
          clear hok
          go_upto_block 4 with fail
          go_cut [26, 27] from 154 to 223 (fun q26 q27 wx => ∃ f : Int, q26 = .int .i64 f ∧ w3 = wx ∧ Hid (ok3 = true → ∀ (i : Nat) (r : List Int), rows3[i]? = some r → f ≤ fld r 1))
          case first =>
            as_aux_lemma =>
              generalize hM : rows3.length = M at *
              have HM := Lib.hid hM
              clear hM
              rcases ok3 with _ | _
              · go_wp2_with fail
                go_loopg [26, 27] M (fun g f i wr => ∃ k : Nat, i = .int .i64 k ∧ f = .int .i64 5001 ∧ w3 = wr)
                case atStart => exact ⟨0, rfl, rfl, rfl⟩
                case round =>
                  obtain ⟨k, rfl, rfl, rfl⟩ := hrel
                  go_wp2_with fail
                  all_goals go_meet
                  all_goals exact ⟨_, rfl, rfl, (show _ → _ from fun h => by cases h)⟩
              · obtain ⟨F, hF1, hF2, hF3⟩ := HW.out rfl
                have HF1 := Lib.hid hF1
                have HF2 := Lib.hid hF2
                have HF3 := Lib.hid hF3
                clear hF1 hF2 hF3 HW HOK
                go_wp2_with fail
                go_loopg [26, 27] M (fun g f i wr => ∃ (k : Nat) (z : Int), k ≤ M ∧ M ≤ k + g ∧ i = .int .i64 k ∧ f = .int .i64 z ∧ w3 = wr ∧ Hid (∀ (j : Nat) (r : List Int), j < k → rows3[j]? = some r → fld r 0 = worst → z = F))
                case atStart => exact ⟨0, 5001, by omega, by omega, rfl, rfl, rfl, (show _ from fun j r hj => absurd hj (Nat.not_lt_zero j))⟩
                case round =>
                  obtain ⟨k, z, hk1, hk2, rfl, rfl, rfl, HZ⟩ := hrel
                  by_cases hlt : k < M
                  · obtain ⟨b, off, x0, x1, x2, x3, x4, rfl, hr, hbl, d0, d1, _, _, _⟩ := (P3.out.rdR.castN HM.out).row5 hlt
                    have HR := Lib.hid hr
                    clear hr
                    by_cases hx : x0 = worst
                    · subst hx
                      have HE := Lib.hid (HF1.out k _ HR.out rfl)
                      go_wp2_with fail
                      go_roundg (M - (k + 1))
                      case measure => omega
                      case rel => exact ⟨k + 1, x1, by omega, by omega, by go_num, rfl, rfl, (show _ from fun _ _ _ _ _ => HE.out)⟩
                    · have e1 : (x0 == worst) = false := by simpa using hx
                      have HX := Lib.hid hx
                      clear hx
                      go_wp2_with fail
                      go_roundg (M - (k + 1))
                      case measure => omega
                      case rel =>
                        refine ⟨k + 1, z, by omega, by omega, by go_num, rfl, rfl, (show _ from fun j r hj hr he => ?_)⟩
                        rcases Nat.lt_or_ge j k with h1 | h1
                        · exact HZ.out j r h1 hr he
                        · have hjk : j = k := by omega
                          subst hjk
                          rw [HR.out] at hr
                          injection hr with hr
                          subst hr
                          exact absurd he HX.out
                  · go_wp2_with fail
                    go_meet
                    refine ⟨_, rfl, rfl, (show _ → _ from fun _ i r hr => ?_)⟩
                    obtain ⟨j, q, hq, hw⟩ := HF2.out
                    have hj : j < M := by have := lt_of_at hq; have := HM.out; omega
                    rw [HZ.out j q (by omega) hq hw]
                    exact HF3.out i r hr
          case rest =>
            as_aux_lemma =>
              obtain ⟨f, rfl, rfl, HFF⟩ := hcut
              clear HW HOK
              go_upto_block 6 with fail
              go_cut [28] from 154 to 223 (fun q28 wx => w3 = wx)
              case first =>
                as_aux_lemma =>
                  generalize hM : rows3.length = M at *
                  have HM := Lib.hid hM
                  clear hM
                  rcases ok3 with _ | _
                  · go_wp2_with fail
                    go_loopg [28] M (fun g i wr => ∃ k : Nat, i = .int .i64 k ∧ w3 = wr)
                    case atStart => exact ⟨0, rfl, rfl⟩
                    case round =>
                      obtain ⟨k, rfl, rfl⟩ := hrel
                      go_wp2_with fail
                      all_goals go_meet
                      all_goals rfl
                  · go_wp2_with fail
                    go_loopg [28] M (fun g i wr => ∃ (k : Nat), k ≤ M ∧ M ≤ k + g ∧ i = .int .i64 k ∧ w3 = wr)
                    case atStart => exact ⟨0, by omega, by omega, rfl, rfl⟩
                    case round =>
                      obtain ⟨k, hk1, hk2, rfl, rfl⟩ := hrel
                      by_cases hlt : k < M
                      · obtain ⟨b, off, x0, x1, x2, x3, x4, rfl, hr, hbl, d0, d1, _, _, _⟩ := (P3.out.rdR.castN HM.out).row5 hlt
                        have hle := HFF.out trivial k _ hr
                        simp only [fld, List.getD_eq_getElem?_getD, List.getElem?_cons_zero, List.getElem?_cons_succ, Option.getD_some] at hle
                        clear hr
                        have e1 : decide (x1 < f) = false := by simp; omega
                        go_wp2_with fail
                        go_roundg (M - (k + 1))
                        case measure => omega
                        case rel => exact ⟨k + 1, by omega, by omega, by go_num, rfl⟩
                      · go_wp2_with fail
                        go_meet
                        rfl
              case rest =>
                as_aux_lemma =>
                  obtain rfl := hcut
                  clear HFF P3
                  go_wp2_with fail
                  refine (draw_IsGrip _ _ (HS4.out.below D3.out)).mono ?_
                  rintro e w1 ⟨x0, x1, x2, x3, x4, rfl, hb⟩
                  have E1 := Lib.hid ((Below.thenn D3.out hb D3.out.size).alloc (Nat.le_trans D3.out.size hb.size) (.cells #[.int .i64 x0, .int .i64 x1, .int .i64 x2, .int .i64 x3, .int .i64 x4] 48))
                  have T1 := Lib.hid (Blk.new w1 48 #[.int .i64 x0, .int .i64 x1, .int .i64 x2, .int .i64 x3, .int .i64 x4])
                  clear hb
                  go_upto_region 41 with fail
                  generalize w1.alloc (.cells #[.int .i64 x0, .int .i64 x1, .int .i64 x2, .int .i64 x3, .int .i64 x4] 48) = w at *
                  obtain ⟨d0, d1', d2, d3, d4⟩ := T1.out.cells5
                  have hlt3 := T1.out.lt
                  have hB : Below w.heap.size w w := Below.refl _ _
                  have hRD := (P4.out.below E1.out).rdR
                  have HRD := Lib.hid hRD
                  clear hRD T1
                  generalize w1.heap.size = q at *
                  rcases ok with _ | _
                  · (refine wp_region_ext (by kernel_rfl) (by kernel_rfl) ?_; have hxe := ext_cells; (repeat (go_big_quiet_step (first | (go_at_call 48; exact ext_ret (impl_IsGrip _ _ _ _ _ _)) | (go_at_call 49; exact ext_ret (spec_IsGrip _ _ _ _ _ _))))); refine wpQuiet_nil ?_; intro w' hw'; obtain ⟨nx, hw''⟩ := hw'; have hbx := ext_out hw''; clear hw'' nx hxe; have hB : Below w.heap.size w w' := Below.thenn (by repeat (first | exact Below.refl _ _ | assumption | apply Below.drew | apply below_drewN | (refine Below.alloc ?_ (by first | omega | (simp; done) | (simp; omega)) _) | (refine Below.setCell ?_ (by first | omega | (simp; done) | (simp; omega)) _))) hbx (by first | omega | (simp; done) | (simp; omega)); have hz : w.heap.size ≤ w'.heap.size := hB.size; obtain ⟨hc, hf⟩ := bcell hbx; clear hbx)
                    go_wp2_with fail
                    go_ret
                    exact ⟨ret_bool (by simp), Below.thenn B4.out (Below.thenn E1.out hB E1.out.size) B4.out.size⟩
                  · have ca := fun w' (h' : RdR w' 5 A1 rows.length rows) => impl_AreGrips A1 rows.length c1 rows w' h' (by omega)
                    rw [HG.out rfl] at ca
                    have CA := Lib.hid ca
                    clear ca
                    (refine wp_region_ext (by kernel_rfl) (by kernel_rfl) ?_; have hxe := ext_cells; (repeat (go_big_quiet_step (first | (go_at_call 48; exact ext_ret (impl_IsGrip _ _ _ _ _ _)) | (go_at_call 49; exact ext_ret (spec_IsGrip _ _ _ _ _ _)) | (go_at_call 41; exact ext_ret (CA.out _ (RdR.below HRD.out (Ext.below _))))))); refine wpQuiet_nil ?_; intro w' hw'; obtain ⟨nx, hw''⟩ := hw'; have hbx := ext_out hw''; clear hw'' nx hxe; have hB : Below w.heap.size w w' := Below.thenn (by repeat (first | exact Below.refl _ _ | assumption | apply Below.drew | apply below_drewN | (refine Below.alloc ?_ (by first | omega | (simp; done) | (simp; omega)) _) | (refine Below.setCell ?_ (by first | omega | (simp; done) | (simp; omega)) _))) hbx (by first | omega | (simp; done) | (simp; omega)); have hz : w.heap.size ≤ w'.heap.size := hB.size; obtain ⟨hc, hf⟩ := bcell hbx; clear hbx)
                    go_wp2_with fail
                    go_ret
                    exact ⟨ret_bool (by simp), Below.thenn B4.out (Below.thenn E1.out hB E1.out.size) B4.out.size⟩
end Go.Proofs.Ytfnpbmndkbaodaa
