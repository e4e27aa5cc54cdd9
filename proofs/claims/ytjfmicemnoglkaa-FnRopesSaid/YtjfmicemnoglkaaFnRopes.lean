/- The law FnRopes: its walk. -/
import Derived.Test.YtjfmicemnoglkaaDrwR
import Derived.Test.YtjfmicemnoglkaaRopF
import Derived.Test.YtjfmicemnoglkaaRopG
import Derived.Test.YtjfmicemnoglkaaKlaw
import Derived.Deep.CutRange
import Derived.Deep.CutBlock
import Derived.Test.YtjfmicemnoglkaaExt
namespace Go.Proofs.Ytjfmicemnoglkaa
open Go.RowKit
set_option linter.unusedVariables false
set_option linter.unusedSimpArgs false

theorem RdR.alloc_ {w : World} {F : Nat} {A : Option Addr} {n : Nat} {rows : List (List Int)} (h : RdR w F A n rows) (o : Obj) : RdR (w.alloc o) F A n rows := h.below ((Below.refl _ _).alloc (Nat.le_refl _) o)
theorem bw_small {i s x g t lo len : Int} {rows : List (List Int)} (he : Even 3 rows) (h : bwA i s x g t rows lo len = true) : (0 ≤ bwZ i s x g t rows lo len ∧ bwZ i s x g t rows lo len ≤ 600) ∧ (0 ≤ lo ∧ lo ≤ 3000) ∧ (1 ≤ len ∧ len ≤ 3000) := by
  have ho := h
  simp only [bwA, Bool.and_eq_true] at ho
  have hw := dmgs_wires ho.1 he
  have hn := (dmgs_iff.1 ho.1).2.1
  have hb := brW_bd hw (lo := lo) (hi := lo + len - 1) rows.length (Nat.le_refl _)
  rw [bw_yes h]
  refine ⟨⟨hb.1, by omega⟩, by simpa [inr] using ho.2.1, by simpa [inr] using ho.2.2⟩
/-- What the law asks of windows, for all answers. -/
theorem bw_law2 {i s x g t lo len : Int} {rows : List (List Int)} (he : Even 3 rows) (h : bwA i s x g t rows lo len = true) (hl : 1 < len) (h2 : bwA i s x g t rows (lo + 1) (len - 1) = true) :
    bwA i s x g t rows lo 1 = true ∧ bwZ i s x g t rows lo 1 + bwZ i s x g t rows (lo + 1) (len - 1) = bwZ i s x g t rows lo len := bw_law h hl h2
set_option maxRecDepth 100000 in
set_option maxHeartbeats 8000000 in
theorem law_FnRopes (A : Option Addr) (n c : Nat) (zs : List Int) (W : World) (h : Came .u8 W A n c zs) :
    Calls Try.prog 8 #[.slice A n c] W (Ret W (.bool true)) := by
  by_cases hbig : 65536 < n
  · go_enter Try.func8, Try.ntmps8
    go_wp2_with (go_at_call 78; refine (laws_rBig _ _ _ _).mono ?_; rintro e w' ⟨rfl, rfl⟩)
    go_ret
    exact ⟨rfl, Below.refl _ _⟩
  have hS : Src.ok ⟨A, n, c, zs⟩ W := came_src h (by omega)
  have HS := Lib.hid hS
  have B0 := Lib.hid (Below.refl W.heap.size W)
  clear h hS
  go_enter Try.func8, Try.ntmps8
  go_wp2_with (go_at_call 78; refine (laws_rBig _ _ _ _).mono ?_; rintro e w' ⟨rfl, rfl⟩)
  go_wp2_with fail
  refine (draw_WorstWindow _ _ (HS.out.below B0.out)).mono ?_
  rintro e w1 ⟨x0, x1, x2, x3, x4, A1, c1', rows, len, rfl, hl, ho, hb⟩
  have E1 := Lib.hid ((Below.thenn B0.out hb B0.out.size).alloc (Nat.le_trans B0.out.size hb.size) (.cells #[.int .i64 x0, .int .i64 x1, .int .i64 x2, .int .i64 x3, .int .i64 x4] 85))
  have T1 := Lib.hid (Blk.new w1 85 #[.int .i64 x0, .int .i64 x1, .int .i64 x2, .int .i64 x3, .int .i64 x4])
  have R1 := Lib.hid ((ho.alloc (.cells #[.int .i64 x0, .int .i64 x1, .int .i64 x2, .int .i64 x3, .int .i64 x4] 85)).rdR)
  have HEV := Lib.hid ho.2
  clear hb B0 ho
  have HWL := Lib.hid (fun (hk : wwA x0 x1 x2 x3 x4 rows len = true) (j : Nat) (hj : j < rows.length) => ww_law HEV.out hk hj)
  have K1 := Lib.hid (fun w' (h' : RdR w' 3 A1 rows.length rows) => impl_WorstWindow x0 x1 x2 x3 x4 A1 rows.length c1' rows len w' h' (by omega))
  have K2 := Lib.hid (fun w' (h' : RdR w' 3 A1 rows.length rows) => spec_WorstWindow x0 x1 x2 x3 x4 A1 rows.length c1' rows len w' h' (by omega))
  have K3 := Lib.hid (fun (j : Nat) w' (h' : RdR w' 3 A1 rows.length rows) => impl_BrokenWires x0 x1 x2 x3 x4 A1 rows.length c1' rows (atR rows j) len w' h' (by omega))
  generalize wwX x0 x1 x2 x3 x4 rows len = wa at *
  generalize wwM x0 x1 x2 x3 x4 rows len = wm at *
  generalize wwA x0 x1 x2 x3 x4 rows len = ok at *
  go_wp2_with fail
  (generalize w1.alloc (.cells #[.int .i64 x0, .int .i64 x1, .int .i64 x2, .int .i64 x3, .int .i64 x4] 85) = v1 at *; generalize w1.heap.size = q at *)
  obtain ⟨c0, c1, c2, c3, c4⟩ := T1.out.cells5
  go_wp2_with fail
  (refine (K1.out v1 R1.out).mono ?_; rintro e w2 ⟨rfl, hb⟩; have E2 := Lib.hid (Below.thenn E1.out hb E1.out.size); have T2 := Lib.hid (T1.out.below hb T1.out.lt); have R2 := Lib.hid (R1.out.below hb); clear hb c0 c1 c2 c3 c4; obtain ⟨c0, c1, c2, c3, c4⟩ := T2.out.cells5)
  clear E1 T1 R1
  go_wp2_with fail
  (refine (K2.out w2 R2.out).mono ?_; rintro e w3 ⟨rfl, hb⟩; have E3 := Lib.hid (Below.thenn E2.out hb E2.out.size); have T3 := Lib.hid (T2.out.below hb T2.out.lt); have R3 := Lib.hid (R2.out.below hb); clear hb c0 c1 c2 c3 c4; obtain ⟨c0, c1, c2, c3, c4⟩ := T3.out.cells5)
  clear E2 T2 R2 K1 K2
  go_upto_block 0 with fail
  go_cut [12, 13, 14] from 42 to 288 (fun q12 q13 q14 wx => Hid (Below W.heap.size W wx))
  case first =>
    as_aux_lemma =>
      clear c0 c1 c2 c3 c4
      rcases ok with _ | _
      · go_wp2_with fail
        go_loopg [12] rows.length (fun g i wr => ∃ k : Nat, i = .int .i64 k ∧ Hid (Below W.heap.size W wr))
        case atStart => exact ⟨0, rfl, E3⟩
        case round =>
          obtain ⟨k, rfl, HB⟩ := hrel
          go_wp2_with fail
          all_goals go_meet
          all_goals exact HB
      · have HF := Lib.hid (fun (j : Nat) (hj : j < rows.length) => HWL.out rfl j hj)
        clear HWL
        go_wp2_with fail
        go_loopg [12] rows.length (fun g i wr => ∃ k : Nat, k ≤ rows.length ∧ rows.length ≤ k + g ∧ i = .int .i64 k ∧ Hid (Below W.heap.size W wr) ∧ Hid (Blk wr q 85 #[.int .i64 x0, .int .i64 x1, .int .i64 x2, .int .i64 x3, .int .i64 x4]) ∧ Hid (RdR wr 3 A1 rows.length rows))
        case atStart => exact ⟨0, by omega, by omega, rfl, E3, T3, R3⟩
        case round =>
          obtain ⟨k, hk1, hk2, rfl, HB, HT, HR⟩ := hrel
          by_cases hlt : k < rows.length
          · have CO := K3.out k
            obtain ⟨f1, f2, f3⟩ := HF.out k hlt
            rw [f1] at CO
            obtain ⟨b, off, y0, y1, y2, hA, hr, hbl, d0, _, _⟩ := HR.out.row3 hlt
            rw [(atR_of hr).1] at CO f2 f3
            generalize bwZ x0 x1 x2 x3 x4 rows y0 len = z at *
            have CB := Lib.hid CO
            have HAA := Lib.hid hA
            clear CO hr f1
            have hg1 : decide (wm < z) = false := decide_eq_false (by omega)
            obtain ⟨c0, c1, c2, c3, c4⟩ := HT.out.cells5
            have hq := HT.out.lt
            generalize wr = w at *
            have hB : Below w.heap.size w w := Below.refl _ _
            have RP := fun (nn : Ext w) => HR.out.below nn.below
            subst hA
            by_cases hy : y0 = wa
            · have hz3 := f3 hy
              subst hz3
              subst hy
              clear f2 f3
              go_upto_region 11 with fail
              (refine wp_region_ext (by kernel_rfl) (by kernel_rfl) ?_; have hxe := ext_cells; (repeat (go_big_quiet_step ((go_at_call 82; exact ext_ret (CB.out _ (RP _)))))); refine wpQuiet_nil ?_; intro w' hw'; obtain ⟨nx, hw''⟩ := hw'; have hbx := ext_out hw''; clear hw'' nx hxe; have hB : Below w.heap.size w w' := Below.thenn (by repeat (first | exact Below.refl _ _ | assumption | apply Below.drew | apply below_drewN | (refine Below.alloc ?_ (by first | omega | (simp; done) | (simp; omega)) _) | (refine Below.setCell ?_ (by first | omega | (simp; done) | (simp; omega)) _))) hbx (by first | omega | (simp; done) | (simp; omega)); have hz : w.heap.size ≤ w'.heap.size := hB.size; obtain ⟨hc, hf⟩ := bcell hbx; clear hbx)
              have H5 := Lib.hid (Below.thenn HB.out hB HB.out.size)
              have T5 := Lib.hid (HT.out.below hB hq)
              have R5 := Lib.hid (HR.out.below hB)
              have d5 := (hB.cell (p := ⟨b, _, none⟩) hbl).trans d0
              clear hc hf RP c0 c1 c2 c3 c4 d0
              go_wp2_with fail
              go_roundg (rows.length - (k + 1))
              case measure => omega
              case rel => exact ⟨k + 1, by omega, by omega, by go_num, H5, T5, R5⟩
            · have hy2 : (y0 == wa) = false := by simpa using hy
              clear f3
              go_upto_region 11 with fail
              (refine wp_region_ext (by kernel_rfl) (by kernel_rfl) ?_; have hxe := ext_cells; (repeat (go_big_quiet_step ((go_at_call 82; exact ext_ret (CB.out _ (RP _)))))); refine wpQuiet_nil ?_; intro w' hw'; obtain ⟨nx, hw''⟩ := hw'; have hbx := ext_out hw''; clear hw'' nx hxe; have hB : Below w.heap.size w w' := Below.thenn (by repeat (first | exact Below.refl _ _ | assumption | apply Below.drew | apply below_drewN | (refine Below.alloc ?_ (by first | omega | (simp; done) | (simp; omega)) _) | (refine Below.setCell ?_ (by first | omega | (simp; done) | (simp; omega)) _))) hbx (by first | omega | (simp; done) | (simp; omega)); have hz : w.heap.size ≤ w'.heap.size := hB.size; obtain ⟨hc, hf⟩ := bcell hbx; clear hbx)
              have H5 := Lib.hid (Below.thenn HB.out hB HB.out.size)
              have T5 := Lib.hid (HT.out.below hB hq)
              have R5 := Lib.hid (HR.out.below hB)
              have d5 := (hB.cell (p := ⟨b, _, none⟩) hbl).trans d0
              clear hc hf RP c0 c1 c2 c3 c4 d0
              go_wp2_with fail
              go_roundg (rows.length - (k + 1))
              case measure => omega
              case rel => exact ⟨k + 1, by omega, by omega, by go_num, H5, T5, R5⟩
          · have h3 : ¬ (k : Int) < (rows.length : Int) := by omega
            go_wp2_with fail
            go_meet
            exact HB
  case rest =>
    as_aux_lemma =>
      have C0 : Hid (Below W.heap.size W wc) := hcut
      clear hcut HWL K3 E3 T3 R3 HEV c0 c1 c2 c3 c4
      go_wp2_with fail
      refine (draw_BrokenWires _ _ (HS.out.below C0.out)).mono ?_
      rintro e w1 ⟨x0, x1, x2, x3, x4, A1, c1', rows, lo, len, rfl, hl, ho, hb⟩
      have E1 := Lib.hid ((Below.thenn C0.out hb C0.out.size).alloc (Nat.le_trans C0.out.size hb.size) (.cells #[.int .i64 x0, .int .i64 x1, .int .i64 x2, .int .i64 x3, .int .i64 x4] 85))
      have T1 := Lib.hid (Blk.new w1 85 #[.int .i64 x0, .int .i64 x1, .int .i64 x2, .int .i64 x3, .int .i64 x4])
      have R1 := Lib.hid ((ho.alloc (.cells #[.int .i64 x0, .int .i64 x1, .int .i64 x2, .int .i64 x3, .int .i64 x4] 85)).rdR)
      have HEV := Lib.hid ho.2
      clear hb C0 ho
      have K1 := Lib.hid (fun w' (h' : RdR w' 3 A1 rows.length rows) => impl_BrokenWires x0 x1 x2 x3 x4 A1 rows.length c1' rows lo len w' h' (by omega))
      have K2 := Lib.hid (fun w' (h' : RdR w' 3 A1 rows.length rows) => spec_BrokenWires x0 x1 x2 x3 x4 A1 rows.length c1' rows lo len w' h' (by omega))
      have K3 := Lib.hid (fun w' (h' : RdR w' 3 A1 rows.length rows) => impl_BrokenWires x0 x1 x2 x3 x4 A1 rows.length c1' rows lo 1 w' h' (by omega))
      have K4 := Lib.hid (fun w' (h' : RdR w' 3 A1 rows.length rows) => impl_BrokenWires x0 x1 x2 x3 x4 A1 rows.length c1' rows (lo + 1) (len - 1) w' h' (by omega))
      have HBS := Lib.hid (fun (hk : bwA x0 x1 x2 x3 x4 rows lo len = true) => bw_small HEV.out hk)
      have HBL := Lib.hid (fun (hk : bwA x0 x1 x2 x3 x4 rows lo len = true) (hl : 1 < len) (h2 : bwA x0 x1 x2 x3 x4 rows (lo + 1) (len - 1) = true) => bw_law hk hl h2)
      generalize bwZ x0 x1 x2 x3 x4 rows lo len = z0 at *
      generalize bwA x0 x1 x2 x3 x4 rows lo len = ok at *
      generalize bwZ x0 x1 x2 x3 x4 rows lo 1 = z1 at *
      generalize bwA x0 x1 x2 x3 x4 rows lo 1 = ok1 at *
      generalize bwZ x0 x1 x2 x3 x4 rows (lo + 1) (len - 1) = z2 at *
      generalize bwA x0 x1 x2 x3 x4 rows (lo + 1) (len - 1) = ok2 at *
      go_wp2_with fail
      (generalize w1.alloc (.cells #[.int .i64 x0, .int .i64 x1, .int .i64 x2, .int .i64 x3, .int .i64 x4] 85) = v2 at *; generalize w1.heap.size = q2 at *)
      obtain ⟨c0, c1, c2, c3, c4⟩ := T1.out.cells5
      go_wp2_with fail
      (refine (K1.out v2 R1.out).mono ?_; rintro e w2 ⟨rfl, hb⟩; have E2 := Lib.hid (Below.thenn E1.out hb E1.out.size); have T2 := Lib.hid (T1.out.below hb T1.out.lt); have R2 := Lib.hid (R1.out.below hb); clear hb c0 c1 c2 c3 c4; obtain ⟨c0, c1, c2, c3, c4⟩ := T2.out.cells5)
      clear E1 T1 R1
      go_wp2_with fail
      (refine (K2.out w2 R2.out).mono ?_; rintro e w3 ⟨rfl, hb⟩; have E3 := Lib.hid (Below.thenn E2.out hb E2.out.size); have T3 := Lib.hid (T2.out.below hb T2.out.lt); have R3 := Lib.hid (R2.out.below hb); clear hb c0 c1 c2 c3 c4; obtain ⟨c0, c1, c2, c3, c4⟩ := T3.out.cells5)
      clear E2 T2 R2 K1 K2
      go_upto_region 19 with fail
      go_cut [152, 153, 154, 155, 156] (fun q1 q2 q3 q4 q156 wx => w3 = wx ∧ q156 = .bool (ok && decide (1 < len)))
      case first =>
        as_aux_lemma =>
          rcases ok with _ | _
          · go_wp2_with fail
            go_meet
            exact ⟨rfl, by simp⟩
          · go_wp2_with fail
            all_goals go_meet
            all_goals exact ⟨rfl, by simp⟩
      case rest => as_aux_lemma =>
      obtain ⟨rfl, rfl⟩ := hcut
      obtain ⟨bb, hbb⟩ : ∃ bb, bb = (ok && decide (1 < len)) := ⟨_, rfl⟩
      rw [← hbb]
      have HBB := Lib.hid hbb
      clear hbb
      go_upto_if 156 with fail
      go_cut [23, 24, 25, 26] from 157 to 288 (fun q23 q24 q25 q26 wx => Hid (Below W.heap.size W wx))
      case first =>
        as_aux_lemma =>
          rcases bb with _ | _
          · go_wp2_with fail
            go_meet
            exact E3
          · have hbb := HBB.out
            simp only [Bool.true_eq, Bool.and_eq_true, decide_eq_true_eq] at hbb
            obtain ⟨rfl, hln⟩ := hbb
            obtain ⟨⟨b1, b2⟩, ⟨b3, b4⟩, b5, b6⟩ := HBS.out rfl
            · have u1 : IntKind.i64.wrap (lo + 1) = lo + 1 := IntWalk.i64_in _ (by omega)
              have u2 : IntKind.i64.wrap (len - 1) = len - 1 := IntWalk.i64_in _ (by omega)
              have HL := Lib.hid (HBL.out rfl hln)
              clear HBL HBS
              go_wp2_with fail
              (refine (K3.out w3 R3.out).mono ?_; rintro e w4 ⟨rfl, hb⟩; have E4 := Lib.hid (Below.thenn E3.out hb E3.out.size); have T4 := Lib.hid (T3.out.below hb T3.out.lt); have R4 := Lib.hid (R3.out.below hb); clear hb c0 c1 c2 c3 c4; obtain ⟨c0, c1, c2, c3, c4⟩ := T4.out.cells5)
              clear E3 T3 R3
              go_wp2_with fail
              (refine (K4.out w4 R4.out).mono ?_; rintro e w5 ⟨rfl, hb⟩; have E5 := Lib.hid (Below.thenn E4.out hb E4.out.size); have T5 := Lib.hid (T4.out.below hb T4.out.lt); have R5 := Lib.hid (R4.out.below hb); clear hb c0 c1 c2 c3 c4; obtain ⟨c0, c1, c2, c3, c4⟩ := T5.out.cells5)
              clear E4 T4 R4
              rcases ok2 with _ | _
              · go_wp2_with fail
                go_meet
                exact E5
              · obtain ⟨rfl, hz⟩ := HL.out rfl
                have u3 : IntKind.i64.wrap (z1 + z2) = z0 := (IntWalk.i64_in _ (by omega)).trans hz
                clear hz
                go_wp2_with fail
                go_meet
                exact E5
      case rest =>
        as_aux_lemma =>
          have C0 : Hid (Below W.heap.size W wc) := hcut
          clear hcut HEV c0 c1 c2 c3 c4 K3 K4 HBS HBL R3 T3 E3
          go_wp2_with fail
          refine (draw_LightestKind _ _ (HS.out.below C0.out)).mono ?_
          rintro e w1 ⟨A3, c3, rows, strong, rfl, hl, ho, hb⟩
          have E1 := Lib.hid (Below.thenn C0.out hb C0.out.size)
          have R1 := Lib.hid ho.rdR
          clear hb C0 ho
          have HLK := Lib.hid (fun (hk : lkA rows strong = true) (j : Nat) (hj : j < rows.length) (hs : strong ≤ sgR rows j) => lk_law hk hj hs)
          have KK1 := Lib.hid (fun w' (h' : RdR w' 5 A3 rows.length rows) => impl_AreRopeKinds A3 rows.length c3 rows w' h' (by omega))
          have KK2 := Lib.hid (fun w' (h' : RdR w' 5 A3 rows.length rows) => spec_AreRopeKinds A3 rows.length c3 rows w' h' (by omega))
          go_wp2_with fail
          refine (impl_LightestKind A3 rows.length c3 rows strong w1 R1.out (by omega)).mono ?_
          rintro e w2 ⟨rfl, hb⟩
          have E2 := Lib.hid (Below.thenn E1.out hb E1.out.size)
          have R2 := Lib.hid (R1.out.below hb)
          clear hb E1 R1
          go_wp2_with fail
          refine (spec_LightestKind A3 rows.length c3 rows strong w2 R2.out (by omega)).mono ?_
          rintro e w3 ⟨rfl, hb⟩
          have E3 := Lib.hid (Below.thenn E2.out hb E2.out.size)
          have R3 := Lib.hid (R2.out.below hb)
          clear hb E2 R2
          generalize lkZ rows strong = id at *
          generalize lkA rows strong = told at *
          generalize kinds rows = kk at *
          go_upto_block 2 with fail
          go_cut [33, 34] from 42 to 288 (fun q33 q34 wx => w3 = wx ∧ ∃ f : Int, q33 = .int .i64 f ∧ Hid (told = true → f = wgF rows id rows.length))
          case first =>
            as_aux_lemma =>
              rcases told with _ | _
              · go_wp2_with fail
                go_loopg [33, 34] rows.length (fun g f i wr => ∃ k : Nat, i = .int .i64 k ∧ f = .int .i64 501 ∧ w3 = wr)
                case atStart => exact ⟨0, rfl, rfl, rfl⟩
                case round =>
                  obtain ⟨k, rfl, rfl, rfl⟩ := hrel
                  go_wp2_with fail
                  all_goals go_meet
                  all_goals exact ⟨rfl, _, rfl, (show _ → _ from fun h => by cases h)⟩
              · go_wp2_with fail
                go_loopg [33, 34] rows.length (fun g f i wr => ∃ (k : Nat) (z : Int), k ≤ rows.length ∧ rows.length ≤ k + g ∧ i = .int .i64 k ∧ f = .int .i64 z ∧ w3 = wr ∧ Hid (z = wgF rows id k))
                case atStart => exact ⟨0, 501, by omega, by omega, rfl, rfl, rfl, (show (501 : Int) = wgF rows id 0 from rfl)⟩
                case round =>
                  obtain ⟨k, z, hk1, hk2, rfl, rfl, rfl, HZ⟩ := hrel
                  by_cases hlt : k < rows.length
                  · obtain ⟨b, off, x0, x1, x2, x3, x4, hA, hr, hbl, d0, _, _, d3, _⟩ := R3.out.row5 hlt
                    obtain ⟨r1, r2, r3⟩ := kR_of hr
                    subst hA
                    clear hr r3
                    by_cases hx : x0 = id
                    · have HN : Hid (x3 = wgF rows id (k + 1)) := Lib.hid (by rw [wgF_yes (r1.trans hx), r2])
                      subst hx
                      clear r1 r2
                      go_wp2_with fail
                      go_roundg (rows.length - (k + 1))
                      case measure => omega
                      case rel => exact ⟨k + 1, x3, by omega, by omega, by go_num, rfl, rfl, HN⟩
                    · have HN : Hid (z = wgF rows id (k + 1)) := Lib.hid (by rw [wgF_no (by rw [r1]; exact hx)]; exact HZ.out)
                      have hx2 : (x0 == id) = false := by simpa using hx
                      clear r1 r2
                      go_wp2_with fail
                      go_roundg (rows.length - (k + 1))
                      case measure => omega
                      case rel => exact ⟨k + 1, z, by omega, by omega, by go_num, rfl, rfl, HN⟩
                  · have hkn : k = rows.length := by omega
                    have h3 : ¬ (k : Int) < (rows.length : Int) := by omega
                    have HN : Hid (z = wgF rows id rows.length) := Lib.hid (hkn ▸ HZ.out)
                    clear hkn
                    go_wp2_with fail
                    go_meet
                    exact ⟨rfl, z, rfl, (show _ → _ from fun _ => HN.out)⟩
          case rest =>
            as_aux_lemma =>
              obtain ⟨rfl, f, rfl, HFF⟩ := hcut
              go_upto_block 4 with fail
              go_cut [35] from 42 to 288 (fun q35 wx => w3 = wx)
              case first =>
                as_aux_lemma =>
                  rcases told with _ | _
                  · go_wp2_with fail
                    go_loopg [35] rows.length (fun g i wr => ∃ k : Nat, i = .int .i64 k ∧ w3 = wr)
                    case atStart => exact ⟨0, rfl, rfl⟩
                    case round =>
                      obtain ⟨k, rfl, rfl⟩ := hrel
                      go_wp2_with fail
                      all_goals go_meet
                      all_goals rfl
                  · have HF2 := Lib.hid (HFF.out rfl)
                    have HL2 := Lib.hid (fun (j : Nat) (hj : j < rows.length) (hs : strong ≤ sgR rows j) => HF2.out ▸ HLK.out rfl j hj hs)
                    clear HLK HFF HF2
                    go_wp2_with fail
                    go_loopg [35] rows.length (fun g i wr => ∃ k : Nat, k ≤ rows.length ∧ rows.length ≤ k + g ∧ i = .int .i64 k ∧ w3 = wr)
                    case atStart => exact ⟨0, by omega, by omega, rfl, rfl⟩
                    case round =>
                      obtain ⟨k, hk1, hk2, rfl, rfl⟩ := hrel
                      by_cases hlt : k < rows.length
                      · obtain ⟨b, off, x0, x1, x2, x3, x4, hA, hr, hbl, _, _, _, d3, d4⟩ := R3.out.row5 hlt
                        obtain ⟨r1, r2, r3⟩ := kR_of hr
                        have hL := HL2.out k hlt
                        rw [r2, r3] at hL
                        subst hA
                        clear hr r1 r2 r3
                        by_cases hs : strong ≤ x4
                        · have hL2 := hL hs
                          clear hL
                          go_wp2_with fail
                          go_roundg (rows.length - (k + 1))
                          case measure => omega
                          case rel => exact ⟨k + 1, by omega, by omega, by go_num, rfl⟩
                        · clear hL
                          go_wp2_with fail
                          go_roundg (rows.length - (k + 1))
                          case measure => omega
                          case rel => exact ⟨k + 1, by omega, by omega, by go_num, rfl⟩
                      · have h3 : ¬ (k : Int) < (rows.length : Int) := by omega
                        go_wp2_with fail
                        go_meet
                        rfl
              case rest =>
                as_aux_lemma =>
                  obtain rfl : w3 = wc := hcut
                  clear HFF HLK
                  go_wp2_with fail
                  refine (draw_RopeWeight _ _ (HS.out.below E3.out)).mono ?_
                  rintro e w1 ⟨x0, x1, x2, x3, x4, m, rfl, hb⟩
                  have E1 := Lib.hid ((Below.thenn E3.out hb E3.out.size).alloc (Nat.le_trans E3.out.size hb.size) (.cells #[.int .i64 x0, .int .i64 x1, .int .i64 x2, .int .i64 x3, .int .i64 x4] 85))
                  have T1 := Lib.hid (Blk.new w1 85 #[.int .i64 x0, .int .i64 x1, .int .i64 x2, .int .i64 x3, .int .i64 x4])
                  have R1 := Lib.hid ((R3.out.below hb).alloc_ (.cells #[.int .i64 x0, .int .i64 x1, .int .i64 x2, .int .i64 x3, .int .i64 x4] 85))
                  clear hb E3 R3
                  have K1 := Lib.hid (fun w' => impl_RopeWeight x0 x1 x2 x3 x4 m w')
                  have K2 := Lib.hid (fun w' => spec_RopeWeight x0 x1 x2 x3 x4 m w')
                  generalize rwZ x0 x1 x2 x3 x4 m = rz at *
                  generalize rwA x0 x1 x2 x3 x4 m = rk at *
                  go_wp2_with fail
                  (generalize w1.alloc (.cells #[.int .i64 x0, .int .i64 x1, .int .i64 x2, .int .i64 x3, .int .i64 x4] 85) = v5 at *; generalize w1.heap.size = q5 at *)
                  obtain ⟨c0, c1, c2, c3, c4⟩ := T1.out.cells5
                  go_wp2_with fail
                  (refine (K1.out v5).mono ?_; rintro e w2 ⟨rfl, hb⟩; have E2 := Lib.hid (Below.thenn E1.out hb E1.out.size); have T2 := Lib.hid (T1.out.below hb T1.out.lt); have R2 := Lib.hid (R1.out.below hb); clear hb c0 c1 c2 c3 c4; obtain ⟨c0, c1, c2, c3, c4⟩ := T2.out.cells5)
                  clear E1 T1 R1
                  go_wp2_with fail
                  (refine (K2.out w2).mono ?_; rintro e w4 ⟨rfl, hb⟩; have E4 := Lib.hid (Below.thenn E2.out hb E2.out.size); have T4 := Lib.hid (T2.out.below hb T2.out.lt); have R4 := Lib.hid (R2.out.below hb); clear hb c0 c1 c2 c3 c4; obtain ⟨c0, c1, c2, c3, c4⟩ := T4.out.cells5)
                  clear E2 T2 R2 K1 K2
                  go_wp2_with fail
                  refine (KK1.out w4 R4.out).mono ?_
                  rintro e w5 ⟨rfl, hb⟩
                  have E5 := Lib.hid (Below.thenn E4.out hb E4.out.size)
                  have R5 := Lib.hid (R4.out.below hb)
                  clear hb
                  go_wp2_with fail
                  refine (KK2.out w5 R5.out).mono ?_
                  rintro e w6 ⟨rfl, hb⟩
                  have E6 := Lib.hid (Below.thenn E5.out hb E5.out.size)
                  clear hb
                  go_wp2_with fail
                  go_ret
                  exact ⟨ret_bool (by simp), E6.out⟩
end Go.Proofs.Ytjfmicemnoglkaa
