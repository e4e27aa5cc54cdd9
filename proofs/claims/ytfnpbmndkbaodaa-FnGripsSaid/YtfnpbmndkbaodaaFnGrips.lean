/- The law FnGrips: its walk. -/
import Derived.Test.YtfnpbmndkbaodaaDrawJ
import Derived.Test.YtfnpbmndkbaodaaKlaw
import Derived.Test.YtfnpbmndkbaodaaKhas
import Derived.Test.YtfnpbmndkbaodaaKgrip
import Derived.Test.YtfnpbmndkbaodaaGlawB
import Derived.Deep.CutRange
import Derived.Deep.CutBlock
import Derived.Test.YtfnpbmndkbaodaaExt
namespace Go.Proofs.Ytfnpbmndkbaodaa
open Go.RowKit
set_option linter.unusedVariables false
set_option linter.unusedSimpArgs false

def TailT (W wx : World) : Prop := Below W.heap.size W wx
theorem tgV_len2 (rows : List (List Int)) (cab force day : Int) (h : rows.length ≤ 20) : (tgV rows cab force day).length ≤ 20 := by unfold tgV tgL; split <;> simp <;> omega
set_option maxRecDepth 100000 in
set_option maxHeartbeats 8000000 in
theorem law_FnGrips (A : Option Addr) (n c : Nat) (zs : List Int) (W : World) (h : Came .u8 W A n c zs) :
    Calls Try.prog 8 #[.slice A n c] W (Ret W (.bool true)) := by
  by_cases hbig : 65536 < n
  · go_enter Try.func8, Try.ntmps8
    go_wp2_with (go_at_call 29; refine (laws_rBig _ _ _ _).mono ?_; rintro e w' ⟨rfl, rfl⟩)
    go_ret
    exact ⟨rfl, Below.refl _ _⟩
  have hS : Src.ok ⟨A, n, c, zs⟩ W := came_src h (by omega)
  have HS := Lib.hid hS
  have B0 := Lib.hid (Below.refl W.heap.size W)
  clear h hS
  go_enter Try.func8, Try.ntmps8
  go_wp2_with (go_at_call 29; refine (laws_rBig _ _ _ _).mono ?_; rintro e w' ⟨rfl, rfl⟩)
  go_wp2_with fail
  refine (draw_SteepestHeld _ _ (HS.out.below B0.out)).mono ?_
  rintro e w1 ⟨x0, x1, x2, x3, x4, ld, rfl, hb⟩
  have E1 := Lib.hid ((Below.thenn B0.out hb B0.out.size).alloc (Nat.le_trans B0.out.size hb.size) (.cells #[.int .i64 x0, .int .i64 x1, .int .i64 x2, .int .i64 x3, .int .i64 x4] 48))
  have T1 := Lib.hid (Blk.new w1 48 #[.int .i64 x0, .int .i64 x1, .int .i64 x2, .int .i64 x3, .int .i64 x4])
  clear hb B0
  go_wp2_with fail
  generalize w1.alloc (.cells #[.int .i64 x0, .int .i64 x1, .int .i64 x2, .int .i64 x3, .int .i64 x4] 48) = v1 at *
  refine (impl_SteepestHeld x0 x1 x2 x3 x4 ld v1).mono ?_
  rintro e w2 ⟨rfl, hb⟩
  have E2 := Lib.hid (Below.thenn E1.out hb E1.out.size)
  have T2 := Lib.hid (T1.out.below hb T1.out.lt)
  clear hb
  obtain ⟨c0, c1', c2', c3', c4⟩ := T2.out.cells5
  go_wp2_with fail
  refine (spec_SteepestHeld x0 x1 x2 x3 x4 ld w2).mono ?_
  rintro e w3 ⟨rfl, hb⟩
  have E3 := Lib.hid (Below.thenn E2.out hb E2.out.size)
  have T3 := Lib.hid (T2.out.below hb T2.out.lt)
  clear hb c0 c1' c2' c3' c4 T1 T2 E1 E2
  go_upto_if 67 with fail
  go_cut [5, 6, 7, 8, 9, 10, 11, 12] from 40 to 225 (fun q5 q6 q7 q8 q9 q10 q11 q12 wx => Hid (TailT W wx))
  case first =>
    as_aux_lemma =>
      rcases hok : shOk x0 x1 x2 x3 x4 ld with _ | _
      · go_wp2_with fail
        go_meet
        exact E3
      · obtain ⟨f1, f2, ⟨f3, f4⟩, f5⟩ := sh_facts hok
        have hw : IntKind.i64.wrap (shV x0 x1 x2 x3 x4 ld + 1) = shV x0 x1 x2 x3 x4 ld + 1 := IntWalk.i64_in _ (by omega)
        generalize shV x0 x1 x2 x3 x4 ld = v at *
        have cd := fun w => impl_DoesHold x0 x1 x2 x3 x4 ld v w
        rw [f1, f2] at cd
        have CD := Lib.hid cd
        have CE := Lib.hid (fun w => impl_DoesHold x0 x1 x2 x3 x4 ld (v + 1) w)
        have F5 := Lib.hid f5
        clear cd hok f1 f2 f5
        obtain ⟨c0, c1', c2', c3', c4⟩ := T3.out.cells5
        go_wp2_with fail
        refine (CD.out w3).mono ?_
        rintro e w4 ⟨rfl, hb⟩
        have E4 := Lib.hid (Below.thenn E3.out hb E3.out.size)
        have T4 := Lib.hid (T3.out.below hb T3.out.lt)
        clear hb c0 c1' c2' c3' c4
        obtain ⟨c0, c1', c2', c3', c4⟩ := T4.out.cells5
        go_wp2_with fail
        refine (CE.out w4).mono ?_
        rintro e w5 ⟨rfl, hb⟩
        have E5 := Lib.hid (Below.thenn E4.out hb E4.out.size)
        clear hb c0 c1' c2' c3' c4
        have hn : dhOk x0 x1 x2 x3 x4 ld (v + 1) = false ∨ dhOk x0 x1 x2 x3 x4 ld (v + 1) = true ∧ dhV x0 x1 x2 x3 x4 ld (v + 1) = false := by
          rcases hq : dhOk x0 x1 x2 x3 x4 ld (v + 1) with _ | _
          · exact .inl rfl
          · exact .inr ⟨rfl, F5.out hq⟩
        generalize dhOk x0 x1 x2 x3 x4 ld (v + 1) = a1 at *
        generalize dhV x0 x1 x2 x3 x4 ld (v + 1) = a2 at *
        rcases hn with rfl | ⟨rfl, rfl⟩
        · go_wp2_with fail
          go_meet
          exact E5
        · go_wp2_with fail
          go_meet
          exact E5
  case rest =>
    as_aux_lemma =>
      have C0 : Hid (Below W.heap.size W wc) := hcut
      clear hcut T3 E3
      go_wp2_with fail
      refine (draw_DoesHold _ _ (HS.out.below C0.out)).mono ?_
      rintro e w1 ⟨y0, y1, y2, y3, y4, l2, sl, rfl, hb⟩
      have E1 := Lib.hid ((Below.thenn C0.out hb C0.out.size).alloc (Nat.le_trans C0.out.size hb.size) (.cells #[.int .i64 y0, .int .i64 y1, .int .i64 y2, .int .i64 y3, .int .i64 y4] 48))
      have T1 := Lib.hid (Blk.new w1 48 #[.int .i64 y0, .int .i64 y1, .int .i64 y2, .int .i64 y3, .int .i64 y4])
      clear hb C0
      go_wp2_with fail
      generalize w1.alloc (.cells #[.int .i64 y0, .int .i64 y1, .int .i64 y2, .int .i64 y3, .int .i64 y4] 48) = v1 at *
      refine (impl_DoesHold y0 y1 y2 y3 y4 l2 sl v1).mono ?_
      rintro e w2 ⟨rfl, hb⟩
      have E2 := Lib.hid (Below.thenn E1.out hb E1.out.size)
      have T2 := Lib.hid (T1.out.below hb T1.out.lt)
      clear hb
      obtain ⟨c0, c1', c2', c3', c4⟩ := T2.out.cells5
      go_wp2_with fail
      refine (spec_DoesHold y0 y1 y2 y3 y4 l2 sl w2).mono ?_
      rintro e w3 ⟨rfl, hb⟩
      have E3 := Lib.hid (Below.thenn E2.out hb E2.out.size)
      have T3 := Lib.hid (T2.out.below hb T2.out.lt)
      clear hb c0 c1' c2' c3' c4 T1 T2 E1 E2
      go_wp2_with fail
      refine (impl_PullOf l2 sl w3).mono ?_
      rintro e w4 ⟨rfl, hb⟩
      have E4 := Lib.hid (Below.thenn E3.out hb E3.out.size)
      have T4 := Lib.hid (T3.out.below hb T3.out.lt)
      clear hb T3 E3
      go_wp2_with fail
      refine (spec_PullOf l2 sl w4).mono ?_
      rintro e w5 ⟨rfl, hb⟩
      have E5 := Lib.hid (Below.thenn E4.out hb E4.out.size)
      have T5 := Lib.hid (T4.out.below hb T4.out.lt)
      clear hb T4 E4
      go_upto_region 22 with fail
      go_cut [16, 17, 18, 19, 150] from 40 to 225 (fun q16 q17 q18 q19 q150 wx => q150 = .bool false ∧ Hid (TailT W wx))
      case first =>
        as_aux_lemma =>
          obtain ⟨c0, c1', c2', c3', c4⟩ := T5.out.cells5
          rcases hv : dhV y0 y1 y2 y3 y4 l2 sl with _ | _
          · go_wp2_with fail
            go_meet
            exact ⟨rfl, E5⟩
          · have hf := dh_pull hv
            obtain ⟨p0, p1⟩ := pullV_bd l2 sl
            clear hv
            generalize pullV l2 sl = p at *
            have u : IntKind.i64.wrap (3 * p) = 3 * p := IntWalk.i64_in _ (by omega)
            have d : decide (y1 < 3 * p) = false := by simpa using hf
            go_wp2_with fail
            go_meet
            exact ⟨rfl, E5⟩
      case rest =>
        as_aux_lemma =>
          obtain ⟨rfl, hcut⟩ := hcut
          have C0 : Hid (Below W.heap.size W wc) := hcut
          clear hcut T5 E5
          go_wp2_with fail
          refine (draw_TestGrip _ _ (HS.out.below C0.out)).mono ?_
          rintro e w1 ⟨A1, c1, rows, cab, force, day, rfl, hl, ho, hb⟩
          have O1 := Lib.hid ho
          have C1 := Lib.hid (Below.thenn C0.out hb C0.out.size)
          clear ho hb
          have htl := tgV_len2 rows cab force day hl
          (go_wp2_with fail; refine (impl_TestGrip _ _ _ rows cab force day w1 O1.out.rdR (by omega) (fun e => O1.out.none_ e)).mono ?_; rintro e w2 ⟨A2, c2, rfl, ho, hb⟩; have O2 := Lib.hid ho; have C2 := Lib.hid (Below.thenn C1.out hb C1.out.size); have Qw2 := Lib.hid hb; clear ho hb)
          have P2 := Lib.hid (O1.out.below Qw2.out)
          (go_wp2_with fail; refine (spec_TestGrip _ _ _ rows cab force day w2 P2.out.rdR (by omega)).mono ?_; rintro e w3 ⟨A3, c3, rfl, ho, hb⟩; have O3 := Lib.hid ho; have C3 := Lib.hid (Below.thenn C2.out hb C2.out.size); have Qw3 := Lib.hid hb; clear ho hb)
          have R3 := Lib.hid (O2.out.below Qw3.out)
          (go_wp2_with fail; refine (laws_rGrips _ _ _ _ _ _ _ _ R3.out.rdR O3.out.rdR (by omega)).mono ?_; intro e w4 hq; obtain ⟨rfl, hb⟩ := hq.ret; have C4 := Lib.hid (Below.thenn C3.out hb C3.out.size); have Qw4 := Lib.hid hb; clear hb hq)
          have R4 := Lib.hid (R3.out.below Qw4.out)
          clear O1 P2 O2 R3 O3 Qw2 Qw3 Qw4 C0 C1 C2 C3
          go_upto_if 183 with fail
          go_cut [28, 29, 30, 31, 32, 33] from 40 to 225 (fun q28 q29 q30 q31 q32 q33 wx => Hid (TailT W wx))
          case first =>
            as_aux_lemma =>
              rcases hk : tgOk rows cab force day with _ | _
              · go_wp2_with fail
                go_meet
                exact C4
              · obtain ⟨f1, f2⟩ := tg_facts hk
                generalize tgV rows cab force day = S at *
                have CE := Lib.hid (fun w' (h' : RdR w' 5 A2 S.length S) => impl_DueTests A2 S.length c2 S day w' h' (by omega))
                have ca := (fun w' (h' : RdR w' 5 A2 S.length S) => impl_AreGrips A2 S.length c2 S w' h' (by omega))
                rw [f1] at ca
                have CA := Lib.hid ca
                have hev := dueV_len S day
                have f5 : decide (cab ∈ dueV S day) = false := by simpa using f2
                clear ca f1 f2 hk
                (go_wp2_with fail; refine (CE.out w4 R4.out.rdR).mono ?_; rintro e w6 ⟨A6, c6, rfl, ho, hb⟩; have O6 := Lib.hid ho; have C6 := Lib.hid (Below.thenn C4.out hb C4.out.size); have Qw6 := Lib.hid hb; clear ho hb)
                have R6 := Lib.hid (R4.out.below Qw6.out)
                have ch := laws_rHas A6 (dueV S day).length c6 (dueV S day) cab w6 O6.out.rd (by omega)
                rw [f5] at ch
                have CH := Lib.hid ch
                clear ch f5
                rcases hd : dueOk S day with _ | _
                all_goals go_wp2_with (first | (go_at_call 40; refine (CH.out).mono ?_; rintro e w' ⟨rfl, rfl⟩) | (go_at_call 41; refine (CA.out w6 R6.out.rdR).mono ?_; rintro e w7 ⟨rfl, hb⟩; have C7 := Lib.hid (Below.thenn C6.out hb C6.out.size); clear hb))
                all_goals go_meet
                all_goals exact C7
          case rest =>
            as_aux_lemma =>
              have D0 : Hid (Below W.heap.size W wc) := hcut
              clear hcut R4 C4 htl
              go_wp2_with fail
              refine (draw_DueTests _ _ (HS.out.below D0.out)).mono ?_
              rintro e w1 ⟨A1, c1, us, day2, rfl, hl2, ho, hb⟩
              have O1 := Lib.hid ho
              have D1 := Lib.hid (Below.thenn D0.out hb D0.out.size)
              clear ho hb
              have hev := dueV_len us day2
              (go_wp2_with fail; refine (impl_DueTests _ _ _ us day2 w1 O1.out.rdR (by omega)).mono ?_; rintro e w2 ⟨A2, c2, rfl, ho, hb⟩; have O2 := Lib.hid ho; have D2 := Lib.hid (Below.thenn D1.out hb D1.out.size); have Qw2 := Lib.hid hb; clear ho hb)
              have P2 := Lib.hid (O1.out.below Qw2.out)
              (go_wp2_with fail; refine (spec_DueTests _ _ _ us day2 w2 P2.out.rdR (by omega)).mono ?_; rintro e w3 ⟨A3, c3, rfl, ho, hb⟩; have O3 := Lib.hid ho; have D3 := Lib.hid (Below.thenn D2.out hb D2.out.size); have Qw3 := Lib.hid hb; clear ho hb)
              have R3 := Lib.hid (O2.out.below Qw3.out)
              (go_wp2_with fail; refine (laws_rInts _ _ _ _ _ _ _ _ _ R3.out.rd O3.out.rd (by omega) (by omega)).mono ?_; intro e w4 hq; obtain ⟨rfl, hb⟩ := hq.ret; have D4 := Lib.hid (Below.thenn D3.out hb D3.out.size); have Qw4 := Lib.hid hb; clear hb hq)
              go_wp2_with fail
              go_ret
              exact ⟨ret_bool (by simp), D4.out⟩
end Go.Proofs.Ytfnpbmndkbaodaa
