/- The fewest brakes: the program's: the walk. -/
import Derived.Test.YthijklidjdhkdaaBrkU
import Derived.Deep.CutRange
namespace Go.Proofs.Ythijklidjdhkdaa
open Go.RowKit
set_option linter.unusedVariables false
set_option linter.unusedSimpArgs false

theorem pow_int4 {j : Nat} (hj : j ≤ 4) : IntKind.i64.wrap ((2 : Int) ^ j) = ((2 ^ j : Nat) : Int) := by
  rcases (by omega : j = 0 ∨ j = 1 ∨ j = 2 ∨ j = 3 ∨ j = 4) with rfl | rfl | rfl | rfl | rfl <;> exact IntWalk.i64_in _ (by decide)
theorem slices_CompareE (A A' : Option Addr) (n n' c c' : Nat) (xs ys : List Int) (w : World) (hn : n' = n) (h : Rd w 1 A n (IV xs)) (h' : Rd w 1 A' n' (IV ys)) (hm : n ≤ 1000000) :
    Calls Try.prog 67 #[.slice A n c, .slice A' n' c'] w fun e w' => e = .returned (.int .i64 (cmpL xs ys)) ∧ w = w' := by
  subst hn
  exact slices_Compare A A' n' c c' xs ys w h h' hm
theorem FS.own_ {W w : World} {q : Nat} {m p : Int} {vo vb vr : Value} {zs : List Int} {us : List (List Int)} (h : FS W w q m p vo zs vb vr us) : Ow w W.heap.size vo zs := h.2.1
theorem FS.ownR_ {W w : World} {q : Nat} {m p : Int} {vo vb vr : Value} {zs : List Int} {us : List (List Int)} (h : FS W w q m p vo zs vb vr us) : OwR w W.heap.size 56 2 vr us := h.2.2.1
theorem blk_pastI {W w w' : World} {q : Nat} {m p : Int} {vo vb vr : Value} {zs : List Int} {us : List (List Int)} (h : FS W w q m p vo zs vb vr us) (hG : w.grownBy w' vo.ownBlock) : ∀ (b : Nat) (cs : Array Value), Blk w b 56 cs → Blk w' b 56 cs := fun b cs hb => blk_of h.2.1 hb (by decide) hG
theorem FS.start1 (wr : World) (m p : Int) : Hid (FS wr ((wr.alloc (.cells #[] 3)).alloc (.cells #[.int .i64 m, .int .i64 p, .slice none 0 0] 29)).drew (wr.heap.size + 1) m p (.slice (some ⟨wr.heap.size, 0, none⟩) 0 0) [] (.slice none 0 0) (.slice none 0 0) []) := by
  have e1 : (wr.alloc (.cells #[] 3)).heap.size = wr.heap.size + 1 := by simp
  have hb : Blk ((wr.alloc (.cells #[] 3)).alloc (.cells #[.int .i64 m, .int .i64 p, .slice none 0 0] 29)) (wr.heap.size + 1) 29 #[.int .i64 m, .int .i64 p, .slice none 0 0] := by rw [← e1]; exact Blk.new _ _ _
  exact ⟨(((Below.refl _ wr).alloc (Nat.le_refl _) _).alloc (by simp) _).drew, (Ow.lit0 wr _ (Nat.le_refl _)).alloc _, OwR.nil _ _ _ _, hb, by omega⟩
theorem FS.start2 (wr : World) (m p : Int) : Hid (FS wr ((wr.alloc (.cells #[.int .i64 m, .int .i64 p, .slice none 0 0] 29)).alloc (.cells #[] 3)).drew wr.heap.size m p (.slice (some ⟨wr.heap.size + 1, 0, none⟩) 0 0) [] (.slice none 0 0) (.slice none 0 0) []) := by
  have e1 : (wr.alloc (.cells #[.int .i64 m, .int .i64 p, .slice none 0 0] 29)).heap.size = wr.heap.size + 1 := by simp
  have ho : Ow ((wr.alloc (.cells #[.int .i64 m, .int .i64 p, .slice none 0 0] 29)).alloc (.cells #[] 3)) wr.heap.size (.slice (some ⟨wr.heap.size + 1, 0, none⟩) 0 0) [] := by rw [← e1]; exact Ow.lit0 _ _ (by omega)
  exact ⟨(((Below.refl _ wr).alloc (Nat.le_refl _) _).alloc (by simp) _).drew, ho, OwR.nil _ _ _ _, (Blk.new wr _ _).alloc _, Nat.le_refl _⟩
set_option maxRecDepth 100000 in
set_option maxHeartbeats 4000000 in
theorem impl_FewestBrakes (m p : Int) (A : Option Addr) (n c : Nat) (rows : List (List Int)) (v way : Int) (wo : World) (h : RdR wo 2 A n rows) (hm : n ≤ 1048577) :
    Calls Try.prog 38 #[.agg #[.int .i64 m, .int .i64 p, .slice A n c], .int .i64 v, .int .i64 way] wo (RetSB wo (fbV m p rows v way) (fbOk m p rows v way)) := by
  have hl := Lib.hid h.2.2
  have ci := fun w' (h' : RdR w' 2 A n rows) => impl_isMoving m p A n c rows v w' h' hm
  rcases hq : (drvOk m p rows && inr v 0 100) with _ | _
  all_goals rw [hq] at ci
  all_goals have CI := Lib.hid ci
  · obtain ⟨e1, e2⟩ := fb_no (m := m) (p := p) (v := v) (way := way) (rows := rows) (by unfold fbA; rw [hq]; rfl)
    rw [e1, e2]
    clear ci hq e1 e2
    go_enter Try.func38, Try.ntmps38
    (go_wp2_with fail; have hWV : Below wo.heap.size wo (wo.alloc (.cells #[.int .i64 m, .int .i64 p, .slice A n c] 29)) := (Below.refl _ _).alloc (Nat.le_refl _) _; have hV0 : wo.heap.size < (wo.alloc (.cells #[.int .i64 m, .int .i64 p, .slice A n c] 29)).heap.size := (by simp); have hv0 : (wo.alloc (.cells #[.int .i64 m, .int .i64 p, .slice A n c] 29)).cell? ⟨wo.heap.size, 0, none⟩ = some (.int .i64 m) := (by rw [cell_of_row _ _ _ _ _ _ (heap_alloc_new wo _)]; rfl); have hv1 : (wo.alloc (.cells #[.int .i64 m, .int .i64 p, .slice A n c] 29)).cell? ⟨wo.heap.size, 1, none⟩ = some (.int .i64 p) := (by rw [cell_of_row _ _ _ _ _ _ (heap_alloc_new wo _)]; rfl); have hv2 : (wo.alloc (.cells #[.int .i64 m, .int .i64 p, .slice A n c] 29)).cell? ⟨wo.heap.size, 2, none⟩ = some (.slice A n c) := (by rw [cell_of_row _ _ _ _ _ _ (heap_alloc_new wo _)]; rfl); have HV1 : Hid (wo.heap.size + 1 = (wo.alloc (.cells #[.int .i64 m, .int .i64 p, .slice A n c] 29)).heap.size) := (show _ = _ by simp); generalize wo.alloc (.cells #[.int .i64 m, .int .i64 p, .slice A n c] 29) = w at hWV hV0 HV1 hv0 hv1 hv2 ⊢; have hr := h.below hWV; have hB : Below w.heap.size w w := Below.refl _ _; have hwz : wo.heap.size ≤ w.heap.size := hWV.size)
    go_wp2_with (go_at_call 58; refine (CI.out _ hr).mono ?_; rintro e w' ⟨rfl, hb⟩; have hB : Below w.heap.size w w' := Below.thenn (by repeat (first | exact Below.refl _ _ | assumption | apply Below.drew | apply below_drewN | (refine Below.alloc ?_ (by first | omega | (simp; done) | (simp; omega)) _) | (refine Below.setCell ?_ (by first | omega | (simp; done) | (simp; omega)) _))) hb (by first | omega | (simp; done) | (simp; omega)); have hz : w.heap.size ≤ w'.heap.size := hB.size; (try (have hz1 : w.heap.size + 1 ≤ w'.heap.size := (by have h := hb.size; (try simp at h); omega))); obtain ⟨hc, hf⟩ := bcell hb; clear hb)
    go_ret2
    exact ⟨none, 0, rfl, Ow.nil _ _, Below.thenn hWV hB hwz⟩
  by_cases hw : 0 ≤ way
  case neg =>
    obtain ⟨e1, e2⟩ := fb_no (m := m) (p := p) (v := v) (way := way) (rows := rows) (by unfold fbA; rw [hq]; simp [hw])
    have hw2 : way < 0 := by omega
    rw [e1, e2]
    clear ci hq e1 e2 hw
    go_enter Try.func38, Try.ntmps38
    (go_wp2_with fail; have hWV : Below wo.heap.size wo (wo.alloc (.cells #[.int .i64 m, .int .i64 p, .slice A n c] 29)) := (Below.refl _ _).alloc (Nat.le_refl _) _; have hV0 : wo.heap.size < (wo.alloc (.cells #[.int .i64 m, .int .i64 p, .slice A n c] 29)).heap.size := (by simp); have hv0 : (wo.alloc (.cells #[.int .i64 m, .int .i64 p, .slice A n c] 29)).cell? ⟨wo.heap.size, 0, none⟩ = some (.int .i64 m) := (by rw [cell_of_row _ _ _ _ _ _ (heap_alloc_new wo _)]; rfl); have hv1 : (wo.alloc (.cells #[.int .i64 m, .int .i64 p, .slice A n c] 29)).cell? ⟨wo.heap.size, 1, none⟩ = some (.int .i64 p) := (by rw [cell_of_row _ _ _ _ _ _ (heap_alloc_new wo _)]; rfl); have hv2 : (wo.alloc (.cells #[.int .i64 m, .int .i64 p, .slice A n c] 29)).cell? ⟨wo.heap.size, 2, none⟩ = some (.slice A n c) := (by rw [cell_of_row _ _ _ _ _ _ (heap_alloc_new wo _)]; rfl); have HV1 : Hid (wo.heap.size + 1 = (wo.alloc (.cells #[.int .i64 m, .int .i64 p, .slice A n c] 29)).heap.size) := (show _ = _ by simp); generalize wo.alloc (.cells #[.int .i64 m, .int .i64 p, .slice A n c] 29) = w at hWV hV0 HV1 hv0 hv1 hv2 ⊢; have hr := h.below hWV; have hB : Below w.heap.size w w := Below.refl _ _; have hwz : wo.heap.size ≤ w.heap.size := hWV.size)
    go_wp2_with (go_at_call 58; refine (CI.out _ hr).mono ?_; rintro e w' ⟨rfl, hb⟩; have hB : Below w.heap.size w w' := Below.thenn (by repeat (first | exact Below.refl _ _ | assumption | apply Below.drew | apply below_drewN | (refine Below.alloc ?_ (by first | omega | (simp; done) | (simp; omega)) _) | (refine Below.setCell ?_ (by first | omega | (simp; done) | (simp; omega)) _))) hb (by first | omega | (simp; done) | (simp; omega)); have hz : w.heap.size ≤ w'.heap.size := hB.size; (try (have hz1 : w.heap.size + 1 ≤ w'.heap.size := (by have h := hb.size; (try simp at h); omega))); obtain ⟨hc, hf⟩ := bcell hb; clear hb)
    go_ret2
    exact ⟨none, 0, rfl, Ow.nil _ _, Below.thenn hWV hB hwz⟩
  have hA : fbA m p rows v way = true := by unfold fbA; rw [hq]; simp [hw]
  obtain ⟨e1, e2⟩ := fb_yes hA
  rw [e1, e2]
  obtain ⟨hok, v0, v1⟩ := asked_iff hq
  have hn4 : n ≤ 4 := by have := (drvOk_iff.1 hok).1.2.2; have := hl.out; omega
  obtain ⟨hN1, hN2⟩ := pow_16 hn4
  have hpw := pow_int4 hn4
  rw [hl.out]
  have CY := Lib.hid (fun (s : Nat) (A1 : Option Addr) (c1 : Nat) w' (h' : RdR w' 2 A1 (sel s 0 rows).length (sel s 0 rows)) => impl_brakeWay m p A1 (sel s 0 rows).length c1 (sel s 0 rows) v w' h' (sel_ok s 0 hok) v0 v1)
  have HST := Lib.hid (fun (s : Nat) => stops_impl (m := m) (p := p) (rows := sel s 0 rows) (way := way) (v := v))
  have HTOP := Lib.hid (fun (s : Nat) (hs : s < 2 ^ n) => memN_top hs hn4)
  have hwn : ¬ way < 0 := by omega
  generalize 2 ^ n = N at *
  generalize hE : fbF m p rows v way N 0 [] false = E
  have HE := Lib.hid hE
  clear hE e1 e2 hA hq ci hok hw
  go_enter Try.func38, Try.ntmps38
  (go_wp2_with fail; have hWV : Below wo.heap.size wo (wo.alloc (.cells #[.int .i64 m, .int .i64 p, .slice A n c] 29)) := (Below.refl _ _).alloc (Nat.le_refl _) _; have hV0 : wo.heap.size < (wo.alloc (.cells #[.int .i64 m, .int .i64 p, .slice A n c] 29)).heap.size := (by simp); have hv0 : (wo.alloc (.cells #[.int .i64 m, .int .i64 p, .slice A n c] 29)).cell? ⟨wo.heap.size, 0, none⟩ = some (.int .i64 m) := (by rw [cell_of_row _ _ _ _ _ _ (heap_alloc_new wo _)]; rfl); have hv1 : (wo.alloc (.cells #[.int .i64 m, .int .i64 p, .slice A n c] 29)).cell? ⟨wo.heap.size, 1, none⟩ = some (.int .i64 p) := (by rw [cell_of_row _ _ _ _ _ _ (heap_alloc_new wo _)]; rfl); have hv2 : (wo.alloc (.cells #[.int .i64 m, .int .i64 p, .slice A n c] 29)).cell? ⟨wo.heap.size, 2, none⟩ = some (.slice A n c) := (by rw [cell_of_row _ _ _ _ _ _ (heap_alloc_new wo _)]; rfl); have HV1 : Hid (wo.heap.size + 1 = (wo.alloc (.cells #[.int .i64 m, .int .i64 p, .slice A n c] 29)).heap.size) := (show _ = _ by simp); generalize wo.alloc (.cells #[.int .i64 m, .int .i64 p, .slice A n c] 29) = w at hWV hV0 HV1 hv0 hv1 hv2 ⊢; have hr := h.below hWV; have hB : Below w.heap.size w w := Below.refl _ _; have hwz : wo.heap.size ≤ w.heap.size := hWV.size)
  go_wp2_with (go_at_call 58; refine (CI.out _ hr).mono ?_; rintro e w' ⟨rfl, hb⟩; have hB : Below w.heap.size w w' := Below.thenn (by repeat (first | exact Below.refl _ _ | assumption | apply Below.drew | apply below_drewN | (refine Below.alloc ?_ (by first | omega | (simp; done) | (simp; omega)) _) | (refine Below.setCell ?_ (by first | omega | (simp; done) | (simp; omega)) _))) hb (by first | omega | (simp; done) | (simp; omega)); have hz : w.heap.size ≤ w'.heap.size := hB.size; (try (have hz1 : w.heap.size + 1 ≤ w'.heap.size := (by have h := hb.size; (try simp at h); omega))); obtain ⟨hc, hf⟩ := bcell hb; have a2 := (hB.cell (p := ⟨wo.heap.size, 2, none⟩) hV0).trans hv2; clear hb)
  go_loopg [8, 9, 30] N (fun gg s8 s9 s30 wr => ∃ (k : Nat) (A2 : Option Addr) (c2 : Nat) (b : List Int) (f : Bool), k ≤ N ∧ N ≤ k + gg ∧ s30 = .int .i64 k ∧ s8 = .slice A2 b.length c2 ∧ s9 = .bool f ∧ b.length ≤ 4 ∧ Below w.heap.size w wr ∧ w.heap.size ≤ wr.heap.size ∧ Hid (Ow wr w.heap.size (.slice A2 b.length c2) b ∧ fbF m p rows v way (N - k) k b f = E))
  case atStart => exact ⟨0, none, 0, [], false, by omega, by omega, rfl, rfl, rfl, by simp, hB, hz, ⟨Ow.nil _ _, HE.out⟩⟩
  case round =>
    clear hB hz hc hf a2
    obtain ⟨k, A2, c2, b, f, hk1, hk2, rfl, rfl, rfl, hbl, hBr, hzr, ha⟩ := hrel
    have HO := Lib.hid ha.out.1
    have HF := Lib.hid ha.out.2
    clear ha
    have BB := Lib.hid hBr
    have hor := Nat.lt_of_lt_of_le hV0 hzr
    by_cases hlt : k < N
    · have a0 := (hBr.cell (p := ⟨wo.heap.size, 0, none⟩) hV0).trans hv0
      have a1 := (hBr.cell (p := ⟨wo.heap.size, 1, none⟩) hV0).trans hv1
      have a2 := (hBr.cell (p := ⟨wo.heap.size, 2, none⟩) hV0).trans hv2
      have R0 := Lib.hid (hr.below hBr)
      go_upto_region 8 with fail
      go_cut [11, 12] (fun s11 s12 wx => ∃ (g1 q : Nat), s11 = .slice (some ⟨g1, 0, none⟩) 0 0 ∧ s12 = .pointer (some ⟨q, 0, none⟩) ∧ Hid (FS wr wx q m p (.slice (some ⟨g1, 0, none⟩) 0 0) [] (.slice none 0 0) (.slice none 0 0) []))
      case first =>
        go_region
        all_goals go_wp2_with fail
        all_goals go_meet
        all_goals first | exact ⟨_, _, rfl, rfl, FS.start1 wr m p⟩ | exact ⟨_, _, rfl, rfl, FS.start2 wr m p⟩
      case rest =>
        obtain ⟨g1, q, rfl, rfl, X0⟩ := hcut
        clear a0 a1 a2
        generalize hwr : wr = wz at *
        clear hwr
        have a2 := ((Below.thenn hBr X0.out.1 hzr).cell (p := ⟨wo.heap.size, 2, none⟩) hV0).trans hv2
        have horc := Nat.lt_of_lt_of_le hor X0.out.1.size
        have hks : k < 65536 := by omega
        go_wp2_with fail
        go_loopg [11, 42] n (fun gi s11 s42 wq => ∃ (i : Nat) (A3 A4 : Option Addr) (c3 c4 : Nat), i ≤ n ∧ n ≤ i + gi ∧ s42 = .int .i64 i ∧ s11 = .slice A3 (memN k i).length c3 ∧ Hid (FS wz wq q m p (.slice A3 (memN k i).length c3) (memN k i) (.slice A4 (sel k 0 (rows.take i)).length c4) (.slice A4 (sel k 0 (rows.take i)).length c4) (sel k 0 (rows.take i))))
        case atStart => exact ⟨0, some ⟨g1, 0, none⟩, none, 0, 0, by omega, by omega, rfl, rfl, X0⟩
        case round =>
          obtain ⟨i, A3, A4, c3, c4, hi1, hi2, rfl, rfl, HX⟩ := hrel
          clear a2 horc X0
          by_cases hin : i < n
          · obtain ⟨b0, off, x0, x1, rfl, hrw, hblt, r0, r1⟩ := (R0.out.below HX.out.1).row2 hin
            have hbit := bit_and k i hks
            by_cases hb : k / 2 ^ i % 2 = 1
            · rw [hb] at hbit
              have HM := Lib.hid (memN_yes hb)
              have HSL := Lib.hid (selN_yes (s := k) hrw hb)
              have hml := memN_len k i
              have hsl : (sel k 0 (rows.take i)).length ≤ 100 := by
                have := sel_len k 0 (rows.take i)
                have := hl.out
                have : (rows.take i).length ≤ rows.length := by rw [List.length_take]; omega
                omega
              generalize memN k i = zs at *
              generalize sel k 0 (rows.take i) = us at *
              clear hrw hb
              go_wp2_with fail
              have X0 := Lib.hid (HX.out.alloc (.cells #[.int .i64 x0, .int .i64 x1] 56))
              have Q0 := Lib.hid (Blk.new wr 56 #[.int .i64 x0, .int .i64 x1])
              clear r0 r1 HX
              generalize wr.alloc (.cells #[.int .i64 x0, .int .i64 x1] 56) = wb at *
              generalize wr.heap.size = bq at *
              obtain ⟨⟨g0, g1', g2⟩, gf, gq, hzb⟩ := X0.out.cells
              have s0 : wb.cell? ⟨bq, 0, none⟩ = some (.int .i64 x0) := by simpa using Q0.out.cell 0
              have s1 : wb.cell? ⟨bq, 1, none⟩ = some (.int .i64 x1) := by simpa using Q0.out.cell 1
              have hbq : bq < wb.heap.size := Q0.out.lt
              go_region_law (first | (refine step_app_intsG (by rfl) (.tmp 53) (.tmp 55) (by rfl) _ wz.heap.size (.slice A3 zs.length c3) zs (by rfl) ?_ _ 1 1 [(i : Int)] (by rfl) ?_ ?_ ?_ ?_; (refine FS.own_ (q := q) (m := m) (p := p) (vb := .slice A4 us.length c4) (vr := .slice A4 us.length c4) (us := us) ?_); (repeat (first | (with_reducible exact X0.out) | (with_reducible apply FS.drew) | (with_reducible apply FS.alloc))); (apply rd_blk; (repeat (first | ((with_reducible refine Blk.newE ?_); (focus (first | rfl | (simp; done)))) | (with_reducible apply Blk.drew') | (with_reducible apply Blk.alloc))); rfl; rfl); (simp only [List.length_cons, List.length_nil]; omega); (first | omega | (simp; omega)); intro A5 c5 w5 ho5 hg5; have X1 := Lib.hid (FS.appI (show FS wz _ q m p (.slice A3 zs.length c3) zs (.slice A4 us.length c4) (.slice A4 us.length c4) us from (by (repeat (first | (with_reducible exact X0.out) | (with_reducible apply FS.drew) | (with_reducible apply FS.alloc))))) ho5 hg5); have T1 := Lib.hid (blk_pastI (show FS wz _ q m p (.slice A3 zs.length c3) zs (.slice A4 us.length c4) (.slice A4 us.length c4) us from (by (repeat (first | (with_reducible exact X0.out) | (with_reducible apply FS.drew) | (with_reducible apply FS.alloc))))) hg5); have Q1 := Lib.hid (T1.out bq _ (show Blk _ bq 56 #[.int .i64 x0, .int .i64 x1] from (by (repeat (first | ((with_reducible refine Blk.newE ?_); (focus (first | rfl | (simp; done)))) | (with_reducible exact Q0.out) | (with_reducible apply Blk.drew') | (with_reducible apply Blk.alloc)))))); clear ho5 hg5 g0 g1' g2 gf s0 s1; obtain ⟨⟨g0, g1', g2⟩, gf, gq5, hz5⟩ := X1.out.cells; have s0 : w5.cell? ⟨bq, 0, none⟩ = some (.int .i64 x0) := (by simpa using Q1.out.cell 0); have s1 : w5.cell? ⟨bq, 1, none⟩ = some (.int .i64 x1) := (by simpa using Q1.out.cell 1)) | (refine step_app_BrakesG (by rfl) (.tmp 58) (.tmp 60) (by rfl) _ wz.heap.size (.slice A4 us.length c4) us (by rfl) ?_ _ 1 1 [[x0, x1]] (by rfl) ?_ ?_ ?_ ?_; (refine FS.ownR_ (q := q) (m := m) (p := p) (vo := .slice A5 (zs ++ [(i : Int)]).length c5) (zs := zs ++ [(i : Int)]) (vb := .slice A4 us.length c4) ?_); (repeat (first | (with_reducible exact X1.out) | (with_reducible apply FS.drew) | (with_reducible apply FS.alloc))); (first | (apply rdR_blk; (repeat (first | ((with_reducible refine Blk.newE ?_); (focus (first | rfl | (simp; done)))) | (with_reducible apply Blk.drew') | (with_reducible apply Blk.alloc))); rfl) | (apply rdR_blk; (apply T1.out); (repeat (first | ((with_reducible refine Blk.newE ?_); (focus (first | rfl | (simp; done)))) | (with_reducible apply Blk.drew') | (with_reducible apply Blk.alloc))); rfl)); omega; (first | omega | (simp; omega)); intro A6 c6 w6 ho6 hg6; have X2 := Lib.hid (FS.appB (show FS wz _ q m p (.slice A5 (zs ++ [(i : Int)]).length c5) (zs ++ [(i : Int)]) (.slice A4 us.length c4) (.slice A4 us.length c4) us from (by (repeat (first | (with_reducible exact X1.out) | (with_reducible apply FS.drew) | (with_reducible apply FS.alloc))))) ho6 hg6); clear ho6 hg6 g0 g1' g2 gf s0 s1; obtain ⟨⟨g0, g1', g2⟩, gf, gq6, hz6⟩ := X2.out.cells))
              all_goals go_wp2_with fail
              all_goals go_roundg (n - (i + 1))
              all_goals first | omega | exact ⟨i + 1, A5, A6, c5, c6, by omega, by omega, by go_num, by rw [HM.out]; simp, (show FS _ _ _ _ _ _ _ _ _ _ by rw [HM.out, HSL.out]; have Z2 := X2.out.put; rw [show (us ++ [[x0, x1]]).length = us.length + 1 by simp] at Z2 ⊢; exact Z2)⟩
            · have hb0 : k / 2 ^ i % 2 = 0 := by omega
              rw [hb0] at hbit
              have HM := Lib.hid (memN_no hb)
              have HSL := Lib.hid (selN_no (s := k) hrw hb)
              clear hrw hb hb0
              go_wp2_with fail
              go_roundg (n - (i + 1))
              case measure => omega
              case rel => exact ⟨i + 1, A3, A4, c3, c4, by omega, by omega, by go_num, by rw [HM.out], (show FS _ _ _ _ _ _ _ _ _ _ by rw [HM.out, HSL.out]; exact HX.out.alloc _)⟩
          · obtain rfl : i = n := by omega
            have e1 : memN k i = memN k 4 := (HTOP.out k hlt).symm
            have e2 : rows.take i = rows := List.take_of_length_le (by rw [hl.out]; omega)
            rw [e2] at HX
            rw [e1] at HX ⊢
            clear e1 e2
            have hst := HST.out k
            have CYk := Lib.hid (CY.out k A4 c4)
            have hnew : newB m p rows v way k b f = (stopsB m p (sel k 0 rows) way v && (!f || bef (memN k 4) b)) := rfl
            have FN := Lib.hid (fun hh => fbF_new (m := m) (p := p) (rows := rows) (v := v) (way := way) (b := b) (f := f) hlt hh)
            have FK := Lib.hid (fun hh => fbF_keep (m := m) (p := p) (rows := rows) (v := v) (way := way) (b := b) (f := f) hlt hh)
            generalize newB m p rows v way k b f = nb at *
            generalize dw (bsL m p (sel k 0 rows) v) = z at *
            generalize brkK m p (sel k 0 rows) v = bb at *
            generalize stopsB m p (sel k 0 rows) way v = sb at *
            generalize sel k 0 rows = us at *
            have hml := memN_len k 4
            generalize memN k 4 = ys at *
            obtain ⟨⟨g0, g1', g2⟩, gf, gq, hzb⟩ := HX.out.cells
            have PO := Lib.hid (HO.out.below HX.out.1)
            have BW := Lib.hid (Below.thenn hBr HX.out.1 hzr)
            rcases bb with _ | _
            · have hnb : nb = false := by rw [hnew, hst]; simp
              have HZ := Lib.hid ((FK.out hnb).symm.trans HF.out)
              clear hnew hst FN FK hnb
              go_wp2_with (go_at_call 59; refine (CYk.out _ HX.out.2.2.1.rdR).mono ?_; rintro e w5 ⟨rfl, hb⟩; have P5 := Lib.hid (PO.out.below hb); have O5 := Lib.hid ((HX.out.2.1.below hb).base hzr); have H5 := Lib.hid (Below.thenn BW.out hb BW.out.size); clear hb)
              go_roundg (N - (k + 1))
              case measure => omega
              case rel => exact ⟨k + 1, A2, c2, b, f, by omega, by omega, by go_num, rfl, rfl, hbl, H5.out, H5.out.size, ⟨P5.out, HZ.out⟩⟩
            · by_cases hz1 : way < z
              · have hnb : nb = false := by rw [hnew, hst]; simp [hz1]
                have HZ := Lib.hid ((FK.out hnb).symm.trans HF.out)
                clear hnew hst FN FK hnb
                go_wp2_with (go_at_call 59; refine (CYk.out _ HX.out.2.2.1.rdR).mono ?_; rintro e w5 ⟨rfl, hb⟩; have P5 := Lib.hid (PO.out.below hb); have O5 := Lib.hid ((HX.out.2.1.below hb).base hzr); have H5 := Lib.hid (Below.thenn BW.out hb BW.out.size); clear hb)
                go_roundg (N - (k + 1))
                case measure => omega
                case rel => exact ⟨k + 1, A2, c2, b, f, by omega, by omega, by go_num, rfl, rfl, hbl, H5.out, H5.out.size, ⟨P5.out, HZ.out⟩⟩
              · have hs1 : sb = true := by rw [hst]; simp [hz1]
                subst hs1
                rw [Bool.true_and] at hnew
                clear hst
                rcases f with _ | _
                · have HZ := Lib.hid ((FN.out (by rw [hnew]; rfl)).symm.trans HF.out)
                  clear hnew FN FK
                  go_wp2_with (go_at_call 59; refine (CYk.out _ HX.out.2.2.1.rdR).mono ?_; rintro e w5 ⟨rfl, hb⟩; have P5 := Lib.hid (PO.out.below hb); have O5 := Lib.hid ((HX.out.2.1.below hb).base hzr); have H5 := Lib.hid (Below.thenn BW.out hb BW.out.size); clear hb)
                  go_roundg (N - (k + 1))
                  case measure => omega
                  case rel => exact ⟨k + 1, A3, c3, ys, true, by omega, by omega, by go_num, rfl, rfl, by omega, H5.out, H5.out.size, ⟨O5.out, HZ.out⟩⟩
                · rw [Bool.not_true, Bool.false_or] at hnew
                  rcases Nat.lt_trichotomy ys.length b.length with h1 | h1 | h1
                  · have HZ := Lib.hid ((FN.out (by rw [hnew]; unfold bef; rw [if_neg (by omega)]; simpa using h1)).symm.trans HF.out)
                    clear hnew FN FK
                    go_wp2_with (go_at_call 59; refine (CYk.out _ HX.out.2.2.1.rdR).mono ?_; rintro e w5 ⟨rfl, hb⟩; have P5 := Lib.hid (PO.out.below hb); have O5 := Lib.hid ((HX.out.2.1.below hb).base hzr); have H5 := Lib.hid (Below.thenn BW.out hb BW.out.size); clear hb)
                    go_roundg (N - (k + 1))
                    case measure => omega
                    case rel => exact ⟨k + 1, A3, c3, ys, true, by omega, by omega, by go_num, rfl, rfl, by omega, H5.out, H5.out.size, ⟨O5.out, HZ.out⟩⟩
                  · have hbe : bef ys b = ltL ys b := by unfold bef; rw [if_pos h1]
                    have hcn := cmpL_neg ys b
                    have hl0 : b.length = b.length := rfl
                    generalize hlb : b.length = lb at *
                    clear hl0
                    subst h1
                    have HLB := Lib.hid hlb
                    have CC := Lib.hid (fun w' (h3 : Rd w' 1 A3 ys.length (IV ys)) (h4 : Rd w' 1 A2 ys.length (IV b)) => slices_Compare A3 A2 ys.length c3 c2 ys b w' h3 h4 (by omega))
                    generalize cmpL ys b = y at *
                    rcases hlt2 : ltL ys b with _ | _
                    · have HZ := Lib.hid ((FK.out (by rw [hnew, hbe]; exact hlt2)).symm.trans HF.out)
                      have hy : ¬ y < 0 := by rw [hlt2] at hcn; simpa using hcn
                      clear hnew FN FK hbe hcn hlt2 hlb
                      go_wp2_with (first | (go_at_call 59; refine (CYk.out _ HX.out.2.2.1.rdR).mono ?_; rintro e w5 ⟨rfl, hb⟩; have P5 := Lib.hid (PO.out.below hb); have O5 := Lib.hid ((HX.out.2.1.below hb).base hzr); have H5 := Lib.hid (Below.thenn BW.out hb BW.out.size); clear hb) | (go_at_call 67; (with_reducible refine (CC.out _ O5.out.rd P5.out.rd).mono ?_); rintro e w6 ⟨rfl, rfl⟩))
                      go_roundg (N - (k + 1))
                      case measure => omega
                      case rel => exact ⟨k + 1, A2, c2, b, true, by omega, by omega, by go_num, by rw [HLB.out], rfl, by rw [HLB.out]; omega, H5.out, H5.out.size, (show _ ∧ _ by rw [HLB.out]; exact ⟨P5.out, HZ.out⟩)⟩
                    · have HZ := Lib.hid ((FN.out (by rw [hnew, hbe]; exact hlt2)).symm.trans HF.out)
                      have hy : y < 0 := by rw [hlt2] at hcn; simpa using hcn
                      clear hnew FN FK hbe hcn hlt2 hlb
                      go_wp2_with (first | (go_at_call 59; refine (CYk.out _ HX.out.2.2.1.rdR).mono ?_; rintro e w5 ⟨rfl, hb⟩; have P5 := Lib.hid (PO.out.below hb); have O5 := Lib.hid ((HX.out.2.1.below hb).base hzr); have H5 := Lib.hid (Below.thenn BW.out hb BW.out.size); clear hb) | (go_at_call 67; (with_reducible refine (CC.out _ O5.out.rd P5.out.rd).mono ?_); rintro e w6 ⟨rfl, rfl⟩))
                      go_roundg (N - (k + 1))
                      case measure => omega
                      case rel => exact ⟨k + 1, A3, c3, ys, true, by omega, by omega, by go_num, rfl, rfl, by omega, H5.out, H5.out.size, ⟨O5.out, HZ.out⟩⟩
                  · have h2 : ¬ ys.length < b.length := by omega
                    have h3 : ¬ ys.length = b.length := by omega
                    have HZ := Lib.hid ((FK.out (by rw [hnew]; unfold bef; rw [if_neg h3]; simpa using h2)).symm.trans HF.out)
                    clear hnew FN FK
                    go_wp2_with (go_at_call 59; refine (CYk.out _ HX.out.2.2.1.rdR).mono ?_; rintro e w5 ⟨rfl, hb⟩; have P5 := Lib.hid (PO.out.below hb); have O5 := Lib.hid ((HX.out.2.1.below hb).base hzr); have H5 := Lib.hid (Below.thenn BW.out hb BW.out.size); clear hb)
                    go_roundg (N - (k + 1))
                    case measure => omega
                    case rel => exact ⟨k + 1, A2, c2, b, true, by omega, by omega, by go_num, rfl, rfl, hbl, H5.out, H5.out.size, ⟨P5.out, HZ.out⟩⟩
    · have he : E = (b, f) := by rw [← HF.out]; exact fbF_end (by omega)
      subst he
      go_wp2_with fail
      go_ret2
      exact ⟨A2, c2, rfl, HO.out.base hwz, Below.thenn hWV hBr hwz⟩
end Go.Proofs.Ythijklidjdhkdaa
