/- The circle: a cabin is added, the reference's. -/
import Derived.Test.YtidjgbonlejhhaaCircS
import Derived.Test.YtidjgbonlejhhaaCircO
import Derived.Test.YtidjgbonlejhhaaBoxC
namespace Go.Proofs.Ytidjgbonlejhhaa
open Go.RowKit
set_option linter.unusedVariables false
set_option linter.unusedSimpArgs false

theorem add_no1 {l s : Int} {zs : List Int} {m : Int} (h : addOk l s zs m = false) : addV l s zs m = [] ∧ addL l s zs m = 0 ∧ addS l s zs m = 0 := by simp [addV, addL, addS, h]
theorem add_yes {l s : Int} {zs : List Int} {m : Int} (h : addOk l s zs m = true) : addV l s zs m = putZ (addP l zs) zs ∧ addL l s zs m = l ∧ addS l s zs m = s := by simp [addV, addL, addS, h]
theorem gap_le {l s : Int} {zs : List Int} (h : circOk l s zs = true) {k : Nat} (hk : k < zs.length) : gapZ l zs k ≤ l := by
  have hx : zs[k]? = some zs[k] := List.getElem?_eq_getElem hk
  have ax := circ_at h hx
  by_cases h1 : k + 1 < zs.length
  · have hy : zs[k + 1]? = some zs[k + 1] := List.getElem?_eq_getElem h1
    rw [gap_mid hx hy]
    have := circ_at h hy
    omega
  · have hz : zs[0]? = some zs[0] := List.getElem?_eq_getElem (by omega)
    rw [gap_last hx hz (by omega)]
    have := circ_first h hz hx
    omega
theorem Ow.form {w : World} {B : Nat} {A : Option Addr} {n c : Nat} {zs : List Int} (h : Ow w B (.slice A n c) zs) : (A = none ∧ c = 0) ∨ ∃ b off, A = some ⟨b, off, none⟩ := by
  rcases A with _ | a
  · exact .inl ⟨rfl, (h.none_ rfl).1⟩
  · have h0 : w.ownsRow B 3 1 (.slice (some a) n c) zs.length (IV zs) := h
    rcases h0.2 with ⟨e0, hn⟩ | ⟨g, cap, cur, e0, _⟩
    · cases e0
    · injection e0 with e1 e2 e3
      exact .inr ⟨g, 0, e1⟩
theorem gapsL_at {l : Int} {zs : List Int} {k : Nat} (h : k < zs.length) : (gapsL l zs)[k]? = some (gapZ l zs k) := by simp [gapsL, h]
theorem putZ_pos (p : Int) (zs : List Int) : 0 < (putZ p zs).length := by
  cases zs with
  | nil => simp [putZ]
  | cons x r => simp only [putZ]; (repeat' split) <;> simp
set_option maxRecDepth 100000 in
set_option maxHeartbeats 8000000 in
theorem spec_AddCabin (l s : Int) (A : Option Addr) (n c : Nat) (zs : List Int) (m : Int) (wo : World) (h : Rd wo 1 A n (IV zs)) (hm : n ≤ 1048576) :
    Calls Try.prog 46 #[.agg #[.int .i64 l, .int .i64 s, .slice A n c], .int .i64 m] wo (RetCB wo (addL l s zs m) (addS l s zs m) (addV l s zs m) (addOk l s zs m)) := by
  have hl := Lib.hid h.len
  have ci := fun w' (h' : Rd w' 1 A n (IV zs)) => spec_l8Good l s A n c zs w' h' (by omega)
  obtain ⟨hWV, hs, ⟨c0, hc1, c2⟩, ⟨z0, z1, z2⟩, fz⟩ := two_boxes wo (.int .i64 l) (.int .i64 s) (.slice A n c) (.int .i64 0) (.int .i64 0) (.slice none 0 0) 27
  have hr := h.below hWV
  have hs0 := Nat.lt_of_succ_lt hs
  have f0 := fz 0
  have f1 := fz 1
  have f2 := fz 2
  rcases hg : circOk l s zs with _ | _
  all_goals rw [hg] at ci
  all_goals have CI := Lib.hid ci
  · have hok : addOk l s zs m = false := by simp [addOk, hg]
    rw [(add_no1 hok).1, (add_no1 hok).2.1, (add_no1 hok).2.2, hok]
    clear ci hg hok
    go_enter Try.func46, Try.ntmps46
    go_wp2_with fail
    generalize (wo.alloc (.cells #[.int .i64 l, .int .i64 s, .slice A n c] 27)).alloc (.cells #[.int .i64 0, .int .i64 0, .slice none 0 0] 27) = w at *
    clear fz
    have hB : Below w.heap.size w w := Below.refl _ _
    go_wp2_with (go_at_call 49; refine (CI.out _ hr).mono ?_; rintro e w' ⟨rfl, hb⟩; have hB : Below w.heap.size w w' := Below.thenn (by repeat (first | exact Below.refl _ _ | assumption | apply Below.drew | apply below_drewN | (refine Below.alloc ?_ (by first | omega | (simp; done) | (simp; omega)) _) | (refine Below.setCell ?_ (by first | omega | (simp; done) | (simp; omega)) _))) hb (by first | omega | (simp; done) | (simp; omega)); have hz : w.heap.size ≤ w'.heap.size := hB.size; (try (have hz1 : w.heap.size + 1 ≤ w'.heap.size := (by have h := hb.size; (try simp at h); omega))); obtain ⟨hc, hf⟩ := bcell hb; skip; clear hb)
    go_light
    refine bodyPost_ret (v := .tuple #[.agg #[.int .i64 0, .int .i64 0, .slice none 0 0], .bool false]) ?_ rfl (RetCB.no (l := 0) (s := 0) (g := 0) (Below.set3 (Below.thenn hWV hB hWV.size) (Nat.le_succ _) _ _ _))
    simp [results, Try.results46, go_sem, *]
  have cw := fun w' => spec_l1In m 1 4000 w'
  rcases hb : inr m 1 4000 with _ | _
  all_goals rw [hb] at cw
  all_goals have CW := Lib.hid cw
  · have hok : addOk l s zs m = false := by simp [addOk, hb]
    rw [(add_no1 hok).1, (add_no1 hok).2.1, (add_no1 hok).2.2, hok]
    clear ci hg cw hb hok
    go_enter Try.func46, Try.ntmps46
    go_wp2_with fail
    generalize (wo.alloc (.cells #[.int .i64 l, .int .i64 s, .slice A n c] 27)).alloc (.cells #[.int .i64 0, .int .i64 0, .slice none 0 0] 27) = w at *
    clear fz
    have hB : Below w.heap.size w w := Below.refl _ _
    go_wp2_with (first | (go_at_call 49; refine (CI.out _ hr).mono ?_; rintro e w' ⟨rfl, hb⟩; have hB : Below w.heap.size w w' := Below.thenn (by repeat (first | exact Below.refl _ _ | assumption | apply Below.drew | apply below_drewN | (refine Below.alloc ?_ (by first | omega | (simp; done) | (simp; omega)) _) | (refine Below.setCell ?_ (by first | omega | (simp; done) | (simp; omega)) _))) hb (by first | omega | (simp; done) | (simp; omega)); have hz : w.heap.size ≤ w'.heap.size := hB.size; (try (have hz1 : w.heap.size + 1 ≤ w'.heap.size := (by have h := hb.size; (try simp at h); omega))); obtain ⟨hc, hf⟩ := bcell hb; skip; clear hb) | (go_at_call 52; refine (CW.out _).mono ?_; rintro e w' ⟨rfl, rfl⟩))
    go_light
    refine bodyPost_ret (v := .tuple #[.agg #[.int .i64 0, .int .i64 0, .slice none 0 0], .bool false]) ?_ rfl (RetCB.no (l := 0) (s := 0) (g := 0) (Below.set3 (Below.thenn hWV hB hWV.size) (Nat.le_succ _) _ _ _))
    simp [results, Try.results46, go_sem, *]
  have CG := Lib.hid (fun w' (h' : Rd w' 1 A n (IV zs)) => spec_l8Gaps l s A n c zs w' h' (by omega) hg)
  have hcb := circOk_iff.1 hg
  have l0 := hcb.1.1
  have l1 := hcb.1.2
  have hn : n ≤ 12 := by have := hcb.2.2.2; have := hl.out; omega
  have hgl := gapsL_len l zs
  rw [hl.out] at hgl
  have HG := Lib.hid hg
  have QB := Lib.hid (box_q wo (.cells #[.int .i64 l, .int .i64 s, .slice A n c] 27) 27 #[.int .i64 0, .int .i64 0, .slice none 0 0])
  by_cases h0 : n = 0
  · subst h0
    have hz0 : zs = [] := List.eq_nil_of_length_eq_zero hl.out
    have HDT : Hid ((decide (zs.length = 0) || decide (2 ≤ gapZ l zs (bestTo l zs (zs.length - 1)))) = true) := (show _ = _ by subst hz0; simp)
    have HW : Hid (addP l zs = (0 : Int)) := (show _ = _ by subst hz0; simp [addP])
    clear hz0
    generalize hV : addV l s zs m = V
    generalize hL : addL l s zs m = L
    generalize hS : addS l s zs m = S
    generalize hO : addOk l s zs m = O
    have HM := Lib.hid hb
    have HR : Hid (∀ b, addOk l s zs m = b → (O = b ∧ (b = true → V = putZ (addP l zs) zs ∧ L = l ∧ S = s) ∧ (b = false → V = [] ∧ L = 0 ∧ S = 0))) := fun b hb2 => by
      rw [← hO, ← hV, ← hL, ← hS]
      refine ⟨hb2, fun e => ?_, fun e => ?_⟩
      · subst e; exact add_yes hb2
      · subst e; exact add_no1 hb2
    rw [HW.out] at HR
    clear hV hL hS hO
    clear ci hg cw hb hcb
    go_enter Try.func46, Try.ntmps46
    go_wp2_with fail
    generalize (wo.alloc (.cells #[.int .i64 l, .int .i64 s, .slice A 0 c] 27)).alloc (.cells #[.int .i64 0, .int .i64 0, .slice none 0 0] 27) = w at *
    clear fz
    have hBw0 : Below w.heap.size w w := Below.refl _ _
    go_wp2_with (first | (go_at_call 49; refine (CI.out _ hr).mono ?_; rintro e w3 ⟨rfl, hb3⟩; have HB3 := Lib.hid hb3; have x0 := (hb3.cell (p := ⟨wo.heap.size, 0, none⟩) hs0).trans c0; have x1 := (hb3.cell (p := ⟨wo.heap.size, 1, none⟩) hs0).trans hc1; have x2 := (hb3.cell (p := ⟨wo.heap.size, 2, none⟩) hs0).trans c2; clear hb3) | (go_at_call 52; refine (CW.out _).mono ?_; rintro e w' ⟨rfl, rfl⟩) | (go_at_call 60; refine (CG.out _ (hr.below HB3.out)).mono ?_; rintro e w' ⟨A1, c1, rfl, ho1, hb⟩; rw [hgl]; have hB : Below w.heap.size w w' := Below.thenn HB3.out hb HB3.out.size; have hz : w.heap.size ≤ w'.heap.size := hB.size; clear hb ho1 x0 x1 x2; have x0 := (hB.cell (p := ⟨wo.heap.size, 0, none⟩) hs0).trans c0; have x1 := (hB.cell (p := ⟨wo.heap.size, 1, none⟩) hs0).trans hc1; have x2 := (hB.cell (p := ⟨wo.heap.size, 2, none⟩) hs0).trans c2))
    clear x0 x1 x2
    have x0 := (hB.cell (p := ⟨wo.heap.size, 0, none⟩) hs0).trans c0
    have x1 := (hB.cell (p := ⟨wo.heap.size, 1, none⟩) hs0).trans hc1
    have x2 := (hB.cell (p := ⟨wo.heap.size, 2, none⟩) hs0).trans c2
    have X0 := Lib.hid x0
    have X1 := Lib.hid x1
    have X2 := Lib.hid x2
    have HRw := Lib.hid (hr.below hB)
    have hs5 : wo.heap.size < w'.heap.size := Nat.lt_of_lt_of_le hs0 hz
    have hs6 : wo.heap.size + 1 < w'.heap.size := Nat.lt_of_lt_of_le hs hz
    have hm20 : (0 : Nat) ≤ 1048576 := Nat.zero_le _
    have hl20 : zs.length ≤ 1048576 := by have := hl.out; omega
    have hl21 : zs.length + 1 ≤ 1048576 := by have := hl.out; omega
    have bA : Below w'.heap.size w' w'.drew := (Below.refl _ _).drew
    have bB : Below w'.heap.size w' (w'.alloc (.cells #[.int .i64 0, .int .i64 0, .slice none 0 0] 27)).drew := ((Below.refl _ _).alloc (Nat.le_refl _) _).drew
    have sA := bA.size
    have sB := bB.size
    have xB : Blk (w'.alloc (.cells #[.int .i64 0, .int .i64 0, .slice none 0 0] 27)).drew w'.heap.size 27 #[.int .i64 0, .int .i64 0, .slice none 0 0] := (Blk.new w' 27 #[.int .i64 0, .int .i64 0, .slice none 0 0]).drew
    have lB := xB.lt
    go_cut [10] from 61 to 67 (fun s10 wx => ∃ (g : Nat) (Aq : Option Addr) (cq : Nat), s10 = .pointer (some ⟨g, 0, none⟩) ∧ w'.heap.size ≤ g ∧ Below w'.heap.size w' wx ∧ Hid (Blk wx g 27 #[.int .i64 l, .int .i64 s, .slice Aq (putZ (0 : Int) zs).length cq] ∧ Ow wx w'.heap.size (.slice Aq (putZ (0 : Int) zs).length cq) (putZ (0 : Int) zs)))
    case first =>
      go_region_law (go_simp; first | (go_at_call 65; refine (spec_l1Own _ _ _ zs _ (HRw.out.below bB) hm20).mono ?_; rintro e wa ⟨Aa, ca, rfl, hoa, hba⟩; have HOa := Lib.hid (Ow.base hoa sB); have HBa := Lib.hid (Below.thenn bB hba sB); have HX := Lib.hid (xB.below hba lB); have xb0 := HX.out.cell 0; have xb1 := HX.out.cell 1; have xb2 := HX.out.cell 2; have yb0 := HX.out.frozen 0; have yb1 := HX.out.frozen 1; have yb2 := HX.out.frozen 2; simp at xb0 xb1 xb2; have x0 := (HBa.out.cell (p := ⟨wo.heap.size, 0, none⟩) hs5).trans X0.out; have x1 := (HBa.out.cell (p := ⟨wo.heap.size, 1, none⟩) hs5).trans X1.out; have x2 := (HBa.out.cell (p := ⟨wo.heap.size, 2, none⟩) hs5).trans X2.out; have hs7 := Nat.lt_of_lt_of_le hs5 HBa.out.size; have hs8 := Nat.lt_of_lt_of_le hs6 HBa.out.size; clear hoa hba) | (go_at_call 65; refine (spec_l1Own _ _ _ zs _ (HRw.out.below bA) hm20).mono ?_; rintro e wa ⟨Aa, ca, rfl, hoa, hba⟩; have HOa := Lib.hid (Ow.base hoa sA); have HBa := Lib.hid (Below.thenn bA hba sA); have x0 := (HBa.out.cell (p := ⟨wo.heap.size, 0, none⟩) hs5).trans X0.out; have x1 := (HBa.out.cell (p := ⟨wo.heap.size, 1, none⟩) hs5).trans X1.out; have x2 := (HBa.out.cell (p := ⟨wo.heap.size, 2, none⟩) hs5).trans X2.out; have hs7 := Nat.lt_of_lt_of_le hs5 HBa.out.size; have hs8 := Nat.lt_of_lt_of_le hs6 HBa.out.size; clear hoa hba) | (go_at_call 71; refine (spec_l1Put _ _ _ zs (0 : Int) (wa.alloc (.cells #[.int .i64 0, .int .i64 0, .slice none 0 0] 27)) (HOa.out.rd.alloc _) hl20 HOa.out.cap.1 HOa.out.cap.2 HOa.out.form).mono ?_; rintro e wp ⟨Ap, np, cp, rfl, hnp, hrp, hbp⟩; have HRp := Lib.hid hrp; have HBp := Lib.hid (Below.thenn (HBa.out.alloc HBa.out.size (.cells #[.int .i64 0, .int .i64 0, .slice none 0 0] 27)) hbp (HBa.out.alloc HBa.out.size (.cells #[.int .i64 0, .int .i64 0, .slice none 0 0] 27)).size); have HX := Lib.hid ((Blk.new wa 27 #[.int .i64 0, .int .i64 0, .slice none 0 0]).below hbp (Blk.new wa 27 #[.int .i64 0, .int .i64 0, .slice none 0 0]).lt); have xb0 := HX.out.cell 0; have xb1 := HX.out.cell 1; have xb2 := HX.out.cell 2; have yb0 := HX.out.frozen 0; have yb1 := HX.out.frozen 1; have yb2 := HX.out.frozen 2; simp at xb0 xb1 xb2; have x0 := (HBp.out.cell (p := ⟨wo.heap.size, 0, none⟩) hs5).trans X0.out; have x1 := (HBp.out.cell (p := ⟨wo.heap.size, 1, none⟩) hs5).trans X1.out; have x2 := (HBp.out.cell (p := ⟨wo.heap.size, 2, none⟩) hs5).trans X2.out; have hs7 := Nat.lt_of_lt_of_le hs5 HBp.out.size; have hs8 := Nat.lt_of_lt_of_le hs6 HBp.out.size; clear hrp hbp) | (go_at_call 71; refine (spec_l1Put _ _ _ zs (0 : Int) wa HOa.out.rd hl20 HOa.out.cap.1 HOa.out.cap.2 HOa.out.form).mono ?_; rintro e wp ⟨Ap, np, cp, rfl, hnp, hrp, hbp⟩; have HRp := Lib.hid hrp; have HBp := Lib.hid (Below.thenn HBa.out hbp HBa.out.size); replace HX := Lib.hid (HX.out.below hbp HX.out.lt); clear xb0 xb1 xb2 yb0 yb1 yb2; have xb0 := HX.out.cell 0; have xb1 := HX.out.cell 1; have xb2 := HX.out.cell 2; have yb0 := HX.out.frozen 0; have yb1 := HX.out.frozen 1; have yb2 := HX.out.frozen 2; simp at xb0 xb1 xb2; have x0 := (HBp.out.cell (p := ⟨wo.heap.size, 0, none⟩) hs5).trans X0.out; have x1 := (HBp.out.cell (p := ⟨wo.heap.size, 1, none⟩) hs5).trans X1.out; have x2 := (HBp.out.cell (p := ⟨wo.heap.size, 2, none⟩) hs5).trans X2.out; have hs7 := Nat.lt_of_lt_of_le hs5 HBp.out.size; have hs8 := Nat.lt_of_lt_of_le hs6 HBp.out.size; clear hrp hbp) | (go_at_call 71; refine (spec_l1Put _ _ _ zs (0 : Int) wa HOa.out.rd hl20 HOa.out.cap.1 HOa.out.cap.2 HOa.out.form).mono ?_; rintro e wp ⟨Ap, np, cp, rfl, hnp, hrp, hbp⟩; have HRp := Lib.hid hrp; have HBp := Lib.hid (Below.thenn HBa.out hbp HBa.out.size); have x0 := (HBp.out.cell (p := ⟨wo.heap.size, 0, none⟩) hs5).trans X0.out; have x1 := (HBp.out.cell (p := ⟨wo.heap.size, 1, none⟩) hs5).trans X1.out; have x2 := (HBp.out.cell (p := ⟨wo.heap.size, 2, none⟩) hs5).trans X2.out; have hs7 := Nat.lt_of_lt_of_le hs5 HBp.out.size; have hs8 := Nat.lt_of_lt_of_le hs6 HBp.out.size; clear hrp hbp) | (go_at_call 64; refine (spec_l8With l s _ _ _ _ _ _ (putZ (0 : Int) zs) (wp.alloc (.cells #[.int .i64 0, .int .i64 0, .slice none 0 0] 27)) (HRp.out.alloc _) (Nat.le_trans hnp hl21)).mono ?_; rintro e wq ⟨Aq, cq, rfl, hoq, hbq⟩; have HOq := Lib.hid (Ow.base hoq (HBp.out.alloc HBp.out.size (.cells #[.int .i64 0, .int .i64 0, .slice none 0 0] 27)).size); have HBq := Lib.hid (Below.thenn (HBp.out.alloc HBp.out.size (.cells #[.int .i64 0, .int .i64 0, .slice none 0 0] 27)) hbq (HBp.out.alloc HBp.out.size (.cells #[.int .i64 0, .int .i64 0, .slice none 0 0] 27)).size); have HX := Lib.hid ((Blk.new wp 27 #[.int .i64 0, .int .i64 0, .slice none 0 0]).below hbq (Blk.new wp 27 #[.int .i64 0, .int .i64 0, .slice none 0 0]).lt); have xb0 := HX.out.cell 0; have xb1 := HX.out.cell 1; have xb2 := HX.out.cell 2; have yb0 := HX.out.frozen 0; have yb1 := HX.out.frozen 1; have yb2 := HX.out.frozen 2; simp at xb0 xb1 xb2; have x0 := (HBq.out.cell (p := ⟨wo.heap.size, 0, none⟩) hs5).trans X0.out; have x1 := (HBq.out.cell (p := ⟨wo.heap.size, 1, none⟩) hs5).trans X1.out; have x2 := (HBq.out.cell (p := ⟨wo.heap.size, 2, none⟩) hs5).trans X2.out; have hs7 := Nat.lt_of_lt_of_le hs5 HBq.out.size; have hs8 := Nat.lt_of_lt_of_le hs6 HBq.out.size; clear hoq hbq) | (go_at_call 64; refine (spec_l8With l s _ _ _ _ _ _ (putZ (0 : Int) zs) wp HRp.out (Nat.le_trans hnp hl21)).mono ?_; rintro e wq ⟨Aq, cq, rfl, hoq, hbq⟩; have HOq := Lib.hid (Ow.base hoq HBp.out.size); have HBq := Lib.hid (Below.thenn HBp.out hbq HBp.out.size); replace HX := Lib.hid (HX.out.below hbq HX.out.lt); clear xb0 xb1 xb2 yb0 yb1 yb2; have xb0 := HX.out.cell 0; have xb1 := HX.out.cell 1; have xb2 := HX.out.cell 2; have yb0 := HX.out.frozen 0; have yb1 := HX.out.frozen 1; have yb2 := HX.out.frozen 2; simp at xb0 xb1 xb2; have x0 := (HBq.out.cell (p := ⟨wo.heap.size, 0, none⟩) hs5).trans X0.out; have x1 := (HBq.out.cell (p := ⟨wo.heap.size, 1, none⟩) hs5).trans X1.out; have x2 := (HBq.out.cell (p := ⟨wo.heap.size, 2, none⟩) hs5).trans X2.out; have hs7 := Nat.lt_of_lt_of_le hs5 HBq.out.size; have hs8 := Nat.lt_of_lt_of_le hs6 HBq.out.size; clear hoq hbq) | (go_at_call 64; refine (spec_l8With l s _ _ _ _ _ _ (putZ (0 : Int) zs) wp HRp.out (Nat.le_trans hnp hl21)).mono ?_; rintro e wq ⟨Aq, cq, rfl, hoq, hbq⟩; have HOq := Lib.hid (Ow.base hoq HBp.out.size); have HBq := Lib.hid (Below.thenn HBp.out hbq HBp.out.size); have x0 := (HBq.out.cell (p := ⟨wo.heap.size, 0, none⟩) hs5).trans X0.out; have x1 := (HBq.out.cell (p := ⟨wo.heap.size, 1, none⟩) hs5).trans X1.out; have x2 := (HBq.out.cell (p := ⟨wo.heap.size, 2, none⟩) hs5).trans X2.out; have hs7 := Nat.lt_of_lt_of_le hs5 HBq.out.size; have hs8 := Nat.lt_of_lt_of_le hs6 HBq.out.size; clear hoq hbq))
      all_goals go_wp2_with fail
      all_goals go_meet
      all_goals first
        | exact ⟨_, Aq, cq, rfl, HBq.out.size, HBq.out.alloc HBq.out.size _, ⟨Blk.new wq 27 #[.int .i64 l, .int .i64 s, .slice Aq (putZ (0 : Int) zs).length cq], HOq.out.alloc _⟩⟩
        | (have HZ : Blk _ _ 27 #[.int .i64 l, .int .i64 s, .slice Aq (putZ (0 : Int) zs).length cq] := (by have := ((HX.out.set_ 0 (.int .i64 l)).set_ 1 (.int .i64 s)).set_ 2 (.slice Aq (putZ (0 : Int) zs).length cq); simpa using this); exact ⟨_, Aq, cq, rfl, by first | exact Nat.le_refl _ | exact HBa.out.size | exact HBp.out.size, Below.set3 HBq.out (by first | exact Nat.le_refl _ | exact HBa.out.size | exact HBp.out.size) _ _ _, ⟨HZ, ((HOq.out.boxed HX.out 0 _).boxed (HX.out.set_ 0 _) 1 _).boxed ((HX.out.set_ 0 _).set_ 1 _) 2 _⟩⟩)
    case rest =>
      obtain ⟨g, Aq, cq, rfl, hgl2, hBz, hz⟩ := hcut
      have hBzw : Below w.heap.size w wc := Below.thenn hB hBz hB.size
      have hs9 : wo.heap.size + 1 < wc.heap.size := Nat.lt_of_lt_of_le hs6 hBz.size
      have D0 := Lib.hid ((hBzw.cell (p := ⟨wo.heap.size + 1, 0, none⟩) hs).trans z0)
      have K0 := Lib.hid ((hBzw.frozen (p := ⟨wo.heap.size + 1, 0, none⟩) hs).trans f0)
      have y0 := hz.out.1.cell 0
      have D1 := Lib.hid ((hBzw.cell (p := ⟨wo.heap.size + 1, 1, none⟩) hs).trans z1)
      have K1 := Lib.hid ((hBzw.frozen (p := ⟨wo.heap.size + 1, 1, none⟩) hs).trans f1)
      have y1 := hz.out.1.cell 1
      have D2 := Lib.hid ((hBzw.cell (p := ⟨wo.heap.size + 1, 2, none⟩) hs).trans z2)
      have K2 := Lib.hid ((hBzw.frozen (p := ⟨wo.heap.size + 1, 2, none⟩) hs).trans f2)
      have y2 := hz.out.1.cell 2
      simp at y0 y1 y2
      have Y0 := Lib.hid y0
      have Y1 := Lib.hid y1
      have Y2 := Lib.hid y2
      have cz := fun (A' : Option Addr) (c' : Nat) (w' : World) (h' : Rd w' 1 A' (putZ (0 : Int) zs).length (IV (putZ (0 : Int) zs))) => spec_l8Good l s A' (putZ (0 : Int) zs).length c' (putZ (0 : Int) zs) w' h' (by have := putZ_len (0 : Int) zs; omega)
      have hBzs := hB.size
      clear hB
      rcases hcz : circOk l s (putZ (0 : Int) zs) with _ | _
      all_goals rw [hcz] at cz
      all_goals have CZ := Lib.hid cz
      all_goals clear cz
      · have hok : addOk l s zs m = false := by unfold addOk; rw [HW.out, hcz]; simp
        obtain ⟨hO, _, h3⟩ := HR.out _ hok
        obtain ⟨hV, hL, hS⟩ := h3 rfl
        subst hO hV hL hS
        clear hok HR
        go_wp2_with (go_at_call 49; refine (CZ.out _ _ _ hz.out.2.rd).mono ?_; rintro e wv ⟨rfl, hbv⟩; have hB : Below wo.heap.size wo wv := Below.thenn (Below.thenn hWV hBzw hWV.size) hbv (by omega); have d0 := (hbv.cell (p := ⟨wo.heap.size + 1, 0, none⟩) hs9).trans D0.out; have k0 := (hbv.frozen (p := ⟨wo.heap.size + 1, 0, none⟩) hs9).trans K0.out; have y0 := (hbv.cell (p := ⟨g, 0, none⟩) hz.out.1.lt).trans Y0.out; have d1 := (hbv.cell (p := ⟨wo.heap.size + 1, 1, none⟩) hs9).trans D1.out; have k1 := (hbv.frozen (p := ⟨wo.heap.size + 1, 1, none⟩) hs9).trans K1.out; have y1 := (hbv.cell (p := ⟨g, 1, none⟩) hz.out.1.lt).trans Y1.out; have d2 := (hbv.cell (p := ⟨wo.heap.size + 1, 2, none⟩) hs9).trans D2.out; have k2 := (hbv.frozen (p := ⟨wo.heap.size + 1, 2, none⟩) hs9).trans K2.out; have y2 := (hbv.cell (p := ⟨g, 2, none⟩) hz.out.1.lt).trans Y2.out; clear hbv)
        go_light
        refine bodyPost_ret (v := .tuple #[.agg #[.int .i64 0, .int .i64 0, .slice none 0 0], .bool false]) ?_ rfl (RetCB.no (l := 0) (s := 0) (g := 0) (Below.set3 hB (Nat.le_succ _) _ _ _))
        simp [results, Try.results46, go_sem, *]
      · have hn1 : 0 < (putZ (0 : Int) zs).length := putZ_pos (0 : Int) zs
        have CM := Lib.hid (fun (A' : Option Addr) (c' : Nat) (w' : World) (h' : Rd w' 1 A' (putZ (0 : Int) zs).length (IV (putZ (0 : Int) zs))) => spec_l8Smallest l s A' (putZ (0 : Int) zs).length c' (putZ (0 : Int) zs) w' h' (by have := putZ_len (0 : Int) zs; omega) hcz hn1)
        have HK : Hid (∀ b2 : Bool, decide (m ≤ minL (gapsL l (putZ (0 : Int) zs))) = b2 → addOk l s zs m = b2) := fun b2 hb2 => by
          unfold addOk
          rw [HG.out, HM.out, HDT.out, HW.out, hcz, hb2]
          simp
        generalize minL (gapsL l (putZ (0 : Int) zs)) = V0 at *
        clear hn1
        by_cases hlt0 : V0 < m
        · obtain ⟨hO, _, h3⟩ := HR.out _ (HK.out false (by simp; omega))
          obtain ⟨hV, hL, hS⟩ := h3 rfl
          subst hO hV hL hS
          clear HR HK
          go_wp2_with (first | (go_at_call 49; refine (CZ.out _ _ _ hz.out.2.rd).mono ?_; rintro e wv ⟨rfl, hbv⟩; have HV := Lib.hid (Below.thenn hBzw hbv hBzw.size); have HZv := Lib.hid (And.intro (hz.out.1.below hbv hz.out.1.lt) (hz.out.2.below hbv)); clear y0 y1 y2; obtain ⟨y0, y1, y2, _, _, _⟩ := HZv.out.1.cells3; clear hbv) | (go_at_call 62; refine (CM.out _ _ _ HZv.out.2.rd).mono ?_; rintro e wu ⟨rfl, hbu⟩; have HU := Lib.hid (Below.thenn HV.out hbu HV.out.size); have HB := Lib.hid (Below.thenn hWV HU.out hWV.size); have HZu := Lib.hid (And.intro (HZv.out.1.below hbu HZv.out.1.lt) (HZv.out.2.below hbu)); clear y0 y1 y2; obtain ⟨y0, y1, y2, _, _, _⟩ := HZu.out.1.cells3; have HQ := Lib.hid (QB.out.below HU.out hs); obtain ⟨d0, d1, d2, k0, k1, k2⟩ := HQ.out.cells3; clear hbu))
          go_light
          refine bodyPost_ret (v := .tuple #[.agg #[.int .i64 0, .int .i64 0, .slice none 0 0], .bool false]) ?_ rfl (RetCB.no (l := 0) (s := 0) (g := 0) (Below.set3 HB.out (Nat.le_succ _) _ _ _))
          simp [results, Try.results46, go_sem, *]
        · obtain ⟨hO, h3, _⟩ := HR.out _ (HK.out true (by simp; omega))
          obtain ⟨hV, hL, hS⟩ := h3 rfl
          subst hO
          have HVv := Lib.hid hV
          have HVl := Lib.hid hL
          have HVs := Lib.hid hS
          clear hV hL hS HR HK
          go_wp2_with (first | (go_at_call 49; refine (CZ.out _ _ _ hz.out.2.rd).mono ?_; rintro e wv ⟨rfl, hbv⟩; have HV := Lib.hid (Below.thenn hBzw hbv hBzw.size); have HZv := Lib.hid (And.intro (hz.out.1.below hbv hz.out.1.lt) (hz.out.2.below hbv)); clear y0 y1 y2; obtain ⟨y0, y1, y2, _, _, _⟩ := HZv.out.1.cells3; clear hbv) | (go_at_call 62; refine (CM.out _ _ _ HZv.out.2.rd).mono ?_; rintro e wu ⟨rfl, hbu⟩; have HU := Lib.hid (Below.thenn HV.out hbu HV.out.size); have HB := Lib.hid (Below.thenn hWV HU.out hWV.size); have HZu := Lib.hid (And.intro (HZv.out.1.below hbu HZv.out.1.lt) (HZv.out.2.below hbu)); clear y0 y1 y2; obtain ⟨y0, y1, y2, _, _, _⟩ := HZu.out.1.cells3; have HQ := Lib.hid (QB.out.below HU.out hs); obtain ⟨d0, d1, d2, k0, k1, k2⟩ := HQ.out.cells3; clear hbu))
          go_light
          obtain ⟨p1, p2, e0, e1, e2⟩ := box_put (l := l) (s := s) HB.out (Nat.le_succ _) HQ.out rfl HZu.out.2 (Nat.le_trans hWV.size hBzs)
          refine bodyPost_ret (v := .tuple #[.agg #[.int .i64 l, .int .i64 s, .slice Aq (putZ (0 : Int) zs).length cq], .bool true]) ?_ rfl (by rw [HVv.out, HVl.out, HVs.out]; exact ⟨Aq, cq, rfl, p2, p1⟩)
          simp [results, Try.results46, go_sem, e0, e1, e2]
  have hn0 : 0 < n := by omega
  have hn0' : (0 : Int) < (n : Int) := by omega
  generalize hV : addV l s zs m = V
  generalize hL : addL l s zs m = L
  generalize hS : addS l s zs m = S
  generalize hO : addOk l s zs m = O
  have HM := Lib.hid hb
  have HR : Hid (∀ b, addOk l s zs m = b → (O = b ∧ (b = true → V = putZ (addP l zs) zs ∧ L = l ∧ S = s) ∧ (b = false → V = [] ∧ L = 0 ∧ S = 0))) := fun b hb2 => by
    rw [← hO, ← hV, ← hL, ← hS]
    refine ⟨hb2, fun e => ?_, fun e => ?_⟩
    · subst e; exact add_yes hb2
    · subst e; exact add_no1 hb2
  clear hV hL hS hO
  clear ci hg cw hb hcb
  go_enter Try.func46, Try.ntmps46
  go_wp2_with fail
  generalize (wo.alloc (.cells #[.int .i64 l, .int .i64 s, .slice A n c] 27)).alloc (.cells #[.int .i64 0, .int .i64 0, .slice none 0 0] 27) = w at *
  clear fz
  have hB : Below w.heap.size w w := Below.refl _ _
  go_wp2_with (first | (go_at_call 49; refine (CI.out _ hr).mono ?_; rintro e w' ⟨rfl, hb⟩; have hB : Below w.heap.size w w' := Below.thenn (by repeat (first | exact Below.refl _ _ | assumption | apply Below.drew | apply below_drewN | (refine Below.alloc ?_ (by first | omega | (simp; done) | (simp; omega)) _) | (refine Below.setCell ?_ (by first | omega | (simp; done) | (simp; omega)) _))) hb (by first | omega | (simp; done) | (simp; omega)); have hz : w.heap.size ≤ w'.heap.size := hB.size; (try (have hz1 : w.heap.size + 1 ≤ w'.heap.size := (by have h := hb.size; (try simp at h); omega))); obtain ⟨hc, hf⟩ := bcell hb; skip; clear hb) | (go_at_call 52; refine (CW.out _).mono ?_; rintro e w' ⟨rfl, rfl⟩) | (go_at_call 60; refine (CG.out _ (hr.below hB)).mono ?_; rintro e w2 ⟨A1, c1, rfl, ho1, hb⟩; rw [hgl]; have HO1 := Lib.hid ho1.rd; have hB2 : Below w.heap.size w w2 := Below.thenn hB hb hB.size; clear hb ho1; clear hc hf))
  go_loopg [8, 9] n (fun g q i wr => ∃ (k : Nat), 1 ≤ k ∧ k ≤ n ∧ n ≤ k + g ∧ i = .int .i64 k ∧ q = .int .i64 (bestTo l zs (k - 1)) ∧ Below w2.heap.size w2 wr ∧ True)
  case atStart => exact ⟨1, by omega, by omega, by omega, rfl, rfl, Below.refl _ _, trivial⟩
  case round =>
    obtain ⟨k, hk0, hk1, hk2, rfl, rfl, hBr, _⟩ := hrel
    clear hB
    have hBw : Below w.heap.size w wr := Below.thenn hB2 hBr hB2.size
    have hzr : w.heap.size ≤ wr.heap.size := hBw.size
    obtain ⟨hc, hf⟩ := bcell hBw
    have hbl : bestTo l zs (k - 1) < n := by have := bestTo_le l zs (k - 1); omega
    have HE := Lib.hid (show bestTo l zs (k - 1) = bestTo l zs (k - 1) from rfl)
    obtain ⟨bg, og, v, hA1, hv, cv⟩ := HO1.out.at1 (show bestTo l zs (k - 1) < (gapsL l zs).length by omega)
    subst hA1
    rw [gapsL_at (by have := hl.out; omega)] at hv
    injection hv with hv
    have hv1 : 1 ≤ v := by rw [← hv]; exact gap_pos HG.out (by have := hl.out; omega)
    have cv2 := (hBr.cell (p := ⟨bg, og + bestTo l zs (k - 1), none⟩) (World.block_lt_of_cell? _ _ cv)).trans cv
    have hbs : bg < wr.heap.size := World.block_lt_of_cell? _ _ cv2
    have hs4 : wo.heap.size < wr.heap.size := Nat.lt_of_lt_of_le hs0 hzr
    have HV := Lib.hid hv
    clear hv
    by_cases hlt : k < n
    · obtain ⟨bg', og', y, e', hy, cy⟩ := HO1.out.at1 (show k < (gapsL l zs).length by omega)
      injection e' with e'
      injection e' with e1 e2
      subst e1 e2
      rw [gapsL_at (by have := hl.out; omega)] at hy
      injection hy with hy
      have cy2 := (hBr.cell (p := ⟨bg, og + k, none⟩) (World.block_lt_of_cell? _ _ cy)).trans cy
      have HQ : Hid (bestTo l zs (k + 1 - 1) = if v < y then k else bestTo l zs (k - 1)) := (show _ = _ by
        obtain ⟨j, rfl⟩ : ∃ j, k = j + 1 := ⟨k - 1, by omega⟩
        rw [← HV.out, ← hy]
        show bestTo l zs (j + 1) = _
        conv => lhs; unfold bestTo
        rfl)
      clear hy cv cy HE
      generalize bestTo l zs (k - 1) = b at *
      by_cases hgt : v < y
      · have HQ2 := Lib.hid (HQ.out.trans (if_pos hgt))
        go_wp2_with fail
        (refine wp_region_ext (by kernel_rfl) (by kernel_rfl) ?_; have hxe := ext_cells; (repeat (go_big_quiet_step (fail))); refine wpQuiet_nil ?_; intro w' hw'; obtain ⟨nx, hw''⟩ := hw'; have hbx := ext_out hw''; clear hw'' nx hxe; have hB : Below w.heap.size w w' := Below.thenn (by repeat (first | exact Below.refl _ _ | assumption | apply Below.drew | apply below_drewN | (refine Below.alloc ?_ (by first | omega | (simp; done) | (simp; omega)) _) | (refine Below.setCell ?_ (by first | omega | (simp; done) | (simp; omega)) _))) hbx (by first | omega | (simp; done) | (simp; omega)); have hz : w.heap.size ≤ w'.heap.size := hB.size; obtain ⟨hc, hf⟩ := bcell hbx; have hB3 := Below.thenn hBr hbx hBr.size; clear hbx)
        all_goals go_wp2_with fail
        all_goals go_roundg (n - (k + 1))
        all_goals first | omega | exact ⟨k + 1, by omega, by omega, by omega, by go_num, by rw [HQ2.out], hB3, trivial⟩
      · have HQ2 := Lib.hid (HQ.out.trans (if_neg hgt))
        go_wp2_with fail
        (refine wp_region_ext (by kernel_rfl) (by kernel_rfl) ?_; have hxe := ext_cells; (repeat (go_big_quiet_step (fail))); refine wpQuiet_nil ?_; intro w' hw'; obtain ⟨nx, hw''⟩ := hw'; have hbx := ext_out hw''; clear hw'' nx hxe; have hB : Below w.heap.size w w' := Below.thenn (by repeat (first | exact Below.refl _ _ | assumption | apply Below.drew | apply below_drewN | (refine Below.alloc ?_ (by first | omega | (simp; done) | (simp; omega)) _) | (refine Below.setCell ?_ (by first | omega | (simp; done) | (simp; omega)) _))) hbx (by first | omega | (simp; done) | (simp; omega)); have hz : w.heap.size ≤ w'.heap.size := hB.size; obtain ⟨hc, hf⟩ := bcell hbx; have hB3 := Below.thenn hBr hbx hBr.size; clear hbx)
        all_goals go_wp2_with fail
        all_goals go_roundg (n - (k + 1))
        all_goals first | omega | exact ⟨k + 1, by omega, by omega, by omega, by go_num, by rw [HQ2.out], hB3, trivial⟩
    · obtain rfl : k = n := by omega
      have HW : Hid (addP l zs = midP l zs (bestTo l zs (k - 1))) := (show _ = _ by unfold addP; rw [hl.out, if_neg (by omega)])
      have HD : Hid (∀ b2 : Bool, decide (2 ≤ v) = b2 → ((decide (zs.length = 0) || decide (2 ≤ gapZ l zs (bestTo l zs (zs.length - 1)))) = b2)) := fun b2 hb2 => by rw [hl.out, HV.out, hb2]; simp; omega
      obtain ⟨bz, oz, x, hA, hx, cx⟩ := hr.at1 hbl
      subst hA
      have hxc := circ_at HG.out hx
      have hv2 : v ≤ 8000 := by
        have := gap_le HG.out (show bestTo l zs (k - 1) < zs.length by have := hl.out; omega)
        rw [HV.out] at this
        omega
      have u1 : IntKind.i64.wrap (v.tdiv 2) = v / 2 := by rw [Int.tdiv_eq_ediv_of_nonneg (by omega)]; exact IntWalk.i64_in _ (by omega)
      have u2 : IntKind.i64.wrap (x + v / 2) = x + v / 2 := IntWalk.i64_in _ (by omega)
      have u3 : (x + v / 2).tmod l = midP l zs (bestTo l zs (k - 1)) := by
        rw [Int.tmod_eq_emod_of_nonneg (by omega)]
        unfold midP
        rw [HV.out]
        simp [List.getD, hx]
      have u4 : ¬ (l = 0) := by omega
      have u5 : (l == 0) = false := by simp; omega
      have cx2 := (hBw.cell (p := ⟨bz, oz + bestTo l zs (k - 1), none⟩) (World.block_lt_of_cell? _ _ cx)).trans cx
      have hbz : bz < wr.heap.size := World.block_lt_of_cell? _ _ cx2
      clear hx cv cx HE
      generalize midP l zs (bestTo l zs (k - 1)) = P at *
      generalize bestTo l zs (k - 1) = b at *
      rcases hv3 : decide (2 ≤ v) with _ | _
      · have hvn : ¬ 2 ≤ v := of_decide_eq_false hv3
        have hv4 : v < 2 := by omega
        have hok : addOk l s zs m = false := by unfold addOk; rw [HD.out _ hv3]; simp
        obtain ⟨hO, _, h3⟩ := HR.out _ hok
        obtain ⟨hV, hL, hS⟩ := h3 rfl
        subst hO hV hL hS
        clear hok HR hvn hv3
        go_wp2_with fail
        (refine wp_region_ext (by kernel_rfl) (by kernel_rfl) ?_; have hxe := ext_cells; (repeat (go_big_quiet_step (fail))); refine wpQuiet_nil ?_; intro w' hw'; obtain ⟨nx, hw''⟩ := hw'; have hbx := ext_out hw''; clear hw'' nx hxe; have hB : Below w.heap.size w w' := Below.thenn (by repeat (first | exact Below.refl _ _ | assumption | apply Below.drew | apply below_drewN | (refine Below.alloc ?_ (by first | omega | (simp; done) | (simp; omega)) _) | (refine Below.setCell ?_ (by first | omega | (simp; done) | (simp; omega)) _))) hbx (by first | omega | (simp; done) | (simp; omega)); have hz : w.heap.size ≤ w'.heap.size := hB.size; obtain ⟨hc, hf⟩ := bcell hbx; have d0 := (hB.cell (p := ⟨wo.heap.size + 1, 0, none⟩) hs).trans z0; have d1 := (hB.cell (p := ⟨wo.heap.size + 1, 1, none⟩) hs).trans z1; have d2 := (hB.cell (p := ⟨wo.heap.size + 1, 2, none⟩) hs).trans z2; have k0 := (hB.frozen (p := ⟨wo.heap.size + 1, 0, none⟩) hs).trans f0; have k1 := (hB.frozen (p := ⟨wo.heap.size + 1, 1, none⟩) hs).trans f1; have k2 := (hB.frozen (p := ⟨wo.heap.size + 1, 2, none⟩) hs).trans f2; have x0 := (hB.cell (p := ⟨wo.heap.size, 0, none⟩) hs0).trans c0; have x1 := (hB.cell (p := ⟨wo.heap.size, 1, none⟩) hs0).trans hc1; have x2 := (hB.cell (p := ⟨wo.heap.size, 2, none⟩) hs0).trans c2; have cv3 := (hbx.cell (p := ⟨bg, og + b, none⟩) hbs).trans cv2; clear hc hf; clear hbx)
        all_goals go_wp2_with fail
        all_goals go_light
        all_goals refine bodyPost_ret (v := .tuple #[.agg #[.int .i64 0, .int .i64 0, .slice none 0 0], .bool false]) ?_ rfl (RetCB.no (l := 0) (s := 0) (g := 0) (Below.set3 (Below.thenn hWV hB hWV.size) (Nat.le_succ _) _ _ _))
        all_goals simp [results, Try.results46, go_sem, *]
      · have HDT := Lib.hid (HD.out _ hv3)
        have hvn : 2 ≤ v := of_decide_eq_true hv3
        have hv4 : ¬ v < 2 := by omega
        go_wp2_with fail
        (refine wp_region_ext (by kernel_rfl) (by kernel_rfl) ?_; have hxe := ext_cells; (repeat (go_big_quiet_step (fail))); refine wpQuiet_nil ?_; intro w' hw'; obtain ⟨nx, hw''⟩ := hw'; have hbx := ext_out hw''; clear hw'' nx hxe; have hB : Below w.heap.size w w' := Below.thenn (by repeat (first | exact Below.refl _ _ | assumption | apply Below.drew | apply below_drewN | (refine Below.alloc ?_ (by first | omega | (simp; done) | (simp; omega)) _) | (refine Below.setCell ?_ (by first | omega | (simp; done) | (simp; omega)) _))) hbx (by first | omega | (simp; done) | (simp; omega)); have hz : w.heap.size ≤ w'.heap.size := hB.size; obtain ⟨hc, hf⟩ := bcell hbx; have d0 := (hB.cell (p := ⟨wo.heap.size + 1, 0, none⟩) hs).trans z0; have d1 := (hB.cell (p := ⟨wo.heap.size + 1, 1, none⟩) hs).trans z1; have d2 := (hB.cell (p := ⟨wo.heap.size + 1, 2, none⟩) hs).trans z2; have k0 := (hB.frozen (p := ⟨wo.heap.size + 1, 0, none⟩) hs).trans f0; have k1 := (hB.frozen (p := ⟨wo.heap.size + 1, 1, none⟩) hs).trans f1; have k2 := (hB.frozen (p := ⟨wo.heap.size + 1, 2, none⟩) hs).trans f2; have x0 := (hB.cell (p := ⟨wo.heap.size, 0, none⟩) hs0).trans c0; have x1 := (hB.cell (p := ⟨wo.heap.size, 1, none⟩) hs0).trans hc1; have x2 := (hB.cell (p := ⟨wo.heap.size, 2, none⟩) hs0).trans c2; have cv3 := (hbx.cell (p := ⟨bg, og + b, none⟩) hbs).trans cv2; clear hc hf; clear hbx)
        all_goals go_wp2_with fail
        clear x0 x1 x2 d0 d1 d2
        have x0 := (hB.cell (p := ⟨wo.heap.size, 0, none⟩) hs0).trans c0
        have x1 := (hB.cell (p := ⟨wo.heap.size, 1, none⟩) hs0).trans hc1
        have x2 := (hB.cell (p := ⟨wo.heap.size, 2, none⟩) hs0).trans c2
        have X0 := Lib.hid x0
        have X1 := Lib.hid x1
        have X2 := Lib.hid x2
        have HRw := Lib.hid (hr.below hB)
        have hs5 : wo.heap.size < w'.heap.size := Nat.lt_of_lt_of_le hs0 hz
        have hs6 : wo.heap.size + 1 < w'.heap.size := Nat.lt_of_lt_of_le hs hz
        have hm20 : k ≤ 1048576 := hm
        have hl20 : zs.length ≤ 1048576 := by have := hl.out; omega
        have hl21 : zs.length + 1 ≤ 1048576 := by have := hl.out; omega
        have bA : Below w'.heap.size w' w'.drew := (Below.refl _ _).drew
        have bB : Below w'.heap.size w' (w'.alloc (.cells #[.int .i64 0, .int .i64 0, .slice none 0 0] 27)).drew := ((Below.refl _ _).alloc (Nat.le_refl _) _).drew
        have sA := bA.size
        have sB := bB.size
        have xB : Blk (w'.alloc (.cells #[.int .i64 0, .int .i64 0, .slice none 0 0] 27)).drew w'.heap.size 27 #[.int .i64 0, .int .i64 0, .slice none 0 0] := (Blk.new w' 27 #[.int .i64 0, .int .i64 0, .slice none 0 0]).drew
        have lB := xB.lt
        go_cut [10] from 61 to 67 (fun s10 wx => ∃ (g : Nat) (Aq : Option Addr) (cq : Nat), s10 = .pointer (some ⟨g, 0, none⟩) ∧ w'.heap.size ≤ g ∧ Below w'.heap.size w' wx ∧ Hid (Blk wx g 27 #[.int .i64 l, .int .i64 s, .slice Aq (putZ P zs).length cq] ∧ Ow wx w'.heap.size (.slice Aq (putZ P zs).length cq) (putZ P zs)))
        case first =>
          go_region_law (go_simp; first | (go_at_call 65; refine (spec_l1Own _ _ _ zs _ (HRw.out.below bB) hm20).mono ?_; rintro e wa ⟨Aa, ca, rfl, hoa, hba⟩; have HOa := Lib.hid (Ow.base hoa sB); have HBa := Lib.hid (Below.thenn bB hba sB); have HX := Lib.hid (xB.below hba lB); have xb0 := HX.out.cell 0; have xb1 := HX.out.cell 1; have xb2 := HX.out.cell 2; have yb0 := HX.out.frozen 0; have yb1 := HX.out.frozen 1; have yb2 := HX.out.frozen 2; simp at xb0 xb1 xb2; have x0 := (HBa.out.cell (p := ⟨wo.heap.size, 0, none⟩) hs5).trans X0.out; have x1 := (HBa.out.cell (p := ⟨wo.heap.size, 1, none⟩) hs5).trans X1.out; have x2 := (HBa.out.cell (p := ⟨wo.heap.size, 2, none⟩) hs5).trans X2.out; have hs7 := Nat.lt_of_lt_of_le hs5 HBa.out.size; have hs8 := Nat.lt_of_lt_of_le hs6 HBa.out.size; clear hoa hba) | (go_at_call 65; refine (spec_l1Own _ _ _ zs _ (HRw.out.below bA) hm20).mono ?_; rintro e wa ⟨Aa, ca, rfl, hoa, hba⟩; have HOa := Lib.hid (Ow.base hoa sA); have HBa := Lib.hid (Below.thenn bA hba sA); have x0 := (HBa.out.cell (p := ⟨wo.heap.size, 0, none⟩) hs5).trans X0.out; have x1 := (HBa.out.cell (p := ⟨wo.heap.size, 1, none⟩) hs5).trans X1.out; have x2 := (HBa.out.cell (p := ⟨wo.heap.size, 2, none⟩) hs5).trans X2.out; have hs7 := Nat.lt_of_lt_of_le hs5 HBa.out.size; have hs8 := Nat.lt_of_lt_of_le hs6 HBa.out.size; clear hoa hba) | (go_at_call 71; refine (spec_l1Put _ _ _ zs P (wa.alloc (.cells #[.int .i64 0, .int .i64 0, .slice none 0 0] 27)) (HOa.out.rd.alloc _) hl20 HOa.out.cap.1 HOa.out.cap.2 HOa.out.form).mono ?_; rintro e wp ⟨Ap, np, cp, rfl, hnp, hrp, hbp⟩; have HRp := Lib.hid hrp; have HBp := Lib.hid (Below.thenn (HBa.out.alloc HBa.out.size (.cells #[.int .i64 0, .int .i64 0, .slice none 0 0] 27)) hbp (HBa.out.alloc HBa.out.size (.cells #[.int .i64 0, .int .i64 0, .slice none 0 0] 27)).size); have HX := Lib.hid ((Blk.new wa 27 #[.int .i64 0, .int .i64 0, .slice none 0 0]).below hbp (Blk.new wa 27 #[.int .i64 0, .int .i64 0, .slice none 0 0]).lt); have xb0 := HX.out.cell 0; have xb1 := HX.out.cell 1; have xb2 := HX.out.cell 2; have yb0 := HX.out.frozen 0; have yb1 := HX.out.frozen 1; have yb2 := HX.out.frozen 2; simp at xb0 xb1 xb2; have x0 := (HBp.out.cell (p := ⟨wo.heap.size, 0, none⟩) hs5).trans X0.out; have x1 := (HBp.out.cell (p := ⟨wo.heap.size, 1, none⟩) hs5).trans X1.out; have x2 := (HBp.out.cell (p := ⟨wo.heap.size, 2, none⟩) hs5).trans X2.out; have hs7 := Nat.lt_of_lt_of_le hs5 HBp.out.size; have hs8 := Nat.lt_of_lt_of_le hs6 HBp.out.size; clear hrp hbp) | (go_at_call 71; refine (spec_l1Put _ _ _ zs P wa HOa.out.rd hl20 HOa.out.cap.1 HOa.out.cap.2 HOa.out.form).mono ?_; rintro e wp ⟨Ap, np, cp, rfl, hnp, hrp, hbp⟩; have HRp := Lib.hid hrp; have HBp := Lib.hid (Below.thenn HBa.out hbp HBa.out.size); replace HX := Lib.hid (HX.out.below hbp HX.out.lt); clear xb0 xb1 xb2 yb0 yb1 yb2; have xb0 := HX.out.cell 0; have xb1 := HX.out.cell 1; have xb2 := HX.out.cell 2; have yb0 := HX.out.frozen 0; have yb1 := HX.out.frozen 1; have yb2 := HX.out.frozen 2; simp at xb0 xb1 xb2; have x0 := (HBp.out.cell (p := ⟨wo.heap.size, 0, none⟩) hs5).trans X0.out; have x1 := (HBp.out.cell (p := ⟨wo.heap.size, 1, none⟩) hs5).trans X1.out; have x2 := (HBp.out.cell (p := ⟨wo.heap.size, 2, none⟩) hs5).trans X2.out; have hs7 := Nat.lt_of_lt_of_le hs5 HBp.out.size; have hs8 := Nat.lt_of_lt_of_le hs6 HBp.out.size; clear hrp hbp) | (go_at_call 71; refine (spec_l1Put _ _ _ zs P wa HOa.out.rd hl20 HOa.out.cap.1 HOa.out.cap.2 HOa.out.form).mono ?_; rintro e wp ⟨Ap, np, cp, rfl, hnp, hrp, hbp⟩; have HRp := Lib.hid hrp; have HBp := Lib.hid (Below.thenn HBa.out hbp HBa.out.size); have x0 := (HBp.out.cell (p := ⟨wo.heap.size, 0, none⟩) hs5).trans X0.out; have x1 := (HBp.out.cell (p := ⟨wo.heap.size, 1, none⟩) hs5).trans X1.out; have x2 := (HBp.out.cell (p := ⟨wo.heap.size, 2, none⟩) hs5).trans X2.out; have hs7 := Nat.lt_of_lt_of_le hs5 HBp.out.size; have hs8 := Nat.lt_of_lt_of_le hs6 HBp.out.size; clear hrp hbp) | (go_at_call 64; refine (spec_l8With l s _ _ _ _ _ _ (putZ P zs) (wp.alloc (.cells #[.int .i64 0, .int .i64 0, .slice none 0 0] 27)) (HRp.out.alloc _) (Nat.le_trans hnp hl21)).mono ?_; rintro e wq ⟨Aq, cq, rfl, hoq, hbq⟩; have HOq := Lib.hid (Ow.base hoq (HBp.out.alloc HBp.out.size (.cells #[.int .i64 0, .int .i64 0, .slice none 0 0] 27)).size); have HBq := Lib.hid (Below.thenn (HBp.out.alloc HBp.out.size (.cells #[.int .i64 0, .int .i64 0, .slice none 0 0] 27)) hbq (HBp.out.alloc HBp.out.size (.cells #[.int .i64 0, .int .i64 0, .slice none 0 0] 27)).size); have HX := Lib.hid ((Blk.new wp 27 #[.int .i64 0, .int .i64 0, .slice none 0 0]).below hbq (Blk.new wp 27 #[.int .i64 0, .int .i64 0, .slice none 0 0]).lt); have xb0 := HX.out.cell 0; have xb1 := HX.out.cell 1; have xb2 := HX.out.cell 2; have yb0 := HX.out.frozen 0; have yb1 := HX.out.frozen 1; have yb2 := HX.out.frozen 2; simp at xb0 xb1 xb2; have x0 := (HBq.out.cell (p := ⟨wo.heap.size, 0, none⟩) hs5).trans X0.out; have x1 := (HBq.out.cell (p := ⟨wo.heap.size, 1, none⟩) hs5).trans X1.out; have x2 := (HBq.out.cell (p := ⟨wo.heap.size, 2, none⟩) hs5).trans X2.out; have hs7 := Nat.lt_of_lt_of_le hs5 HBq.out.size; have hs8 := Nat.lt_of_lt_of_le hs6 HBq.out.size; clear hoq hbq) | (go_at_call 64; refine (spec_l8With l s _ _ _ _ _ _ (putZ P zs) wp HRp.out (Nat.le_trans hnp hl21)).mono ?_; rintro e wq ⟨Aq, cq, rfl, hoq, hbq⟩; have HOq := Lib.hid (Ow.base hoq HBp.out.size); have HBq := Lib.hid (Below.thenn HBp.out hbq HBp.out.size); replace HX := Lib.hid (HX.out.below hbq HX.out.lt); clear xb0 xb1 xb2 yb0 yb1 yb2; have xb0 := HX.out.cell 0; have xb1 := HX.out.cell 1; have xb2 := HX.out.cell 2; have yb0 := HX.out.frozen 0; have yb1 := HX.out.frozen 1; have yb2 := HX.out.frozen 2; simp at xb0 xb1 xb2; have x0 := (HBq.out.cell (p := ⟨wo.heap.size, 0, none⟩) hs5).trans X0.out; have x1 := (HBq.out.cell (p := ⟨wo.heap.size, 1, none⟩) hs5).trans X1.out; have x2 := (HBq.out.cell (p := ⟨wo.heap.size, 2, none⟩) hs5).trans X2.out; have hs7 := Nat.lt_of_lt_of_le hs5 HBq.out.size; have hs8 := Nat.lt_of_lt_of_le hs6 HBq.out.size; clear hoq hbq) | (go_at_call 64; refine (spec_l8With l s _ _ _ _ _ _ (putZ P zs) wp HRp.out (Nat.le_trans hnp hl21)).mono ?_; rintro e wq ⟨Aq, cq, rfl, hoq, hbq⟩; have HOq := Lib.hid (Ow.base hoq HBp.out.size); have HBq := Lib.hid (Below.thenn HBp.out hbq HBp.out.size); have x0 := (HBq.out.cell (p := ⟨wo.heap.size, 0, none⟩) hs5).trans X0.out; have x1 := (HBq.out.cell (p := ⟨wo.heap.size, 1, none⟩) hs5).trans X1.out; have x2 := (HBq.out.cell (p := ⟨wo.heap.size, 2, none⟩) hs5).trans X2.out; have hs7 := Nat.lt_of_lt_of_le hs5 HBq.out.size; have hs8 := Nat.lt_of_lt_of_le hs6 HBq.out.size; clear hoq hbq))
          all_goals go_wp2_with fail
          all_goals go_meet
          all_goals first
            | exact ⟨_, Aq, cq, rfl, HBq.out.size, HBq.out.alloc HBq.out.size _, ⟨Blk.new wq 27 #[.int .i64 l, .int .i64 s, .slice Aq (putZ P zs).length cq], HOq.out.alloc _⟩⟩
            | (have HZ : Blk _ _ 27 #[.int .i64 l, .int .i64 s, .slice Aq (putZ P zs).length cq] := (by have := ((HX.out.set_ 0 (.int .i64 l)).set_ 1 (.int .i64 s)).set_ 2 (.slice Aq (putZ P zs).length cq); simpa using this); exact ⟨_, Aq, cq, rfl, by first | exact Nat.le_refl _ | exact HBa.out.size | exact HBp.out.size, Below.set3 HBq.out (by first | exact Nat.le_refl _ | exact HBa.out.size | exact HBp.out.size) _ _ _, ⟨HZ, ((HOq.out.boxed HX.out 0 _).boxed (HX.out.set_ 0 _) 1 _).boxed ((HX.out.set_ 0 _).set_ 1 _) 2 _⟩⟩)
        case rest =>
          obtain ⟨g, Aq, cq, rfl, hgl2, hBz, hz⟩ := hcut
          have hBzw : Below w.heap.size w wc := Below.thenn hB hBz hB.size
          have hs9 : wo.heap.size + 1 < wc.heap.size := Nat.lt_of_lt_of_le hs6 hBz.size
          have D0 := Lib.hid ((hBzw.cell (p := ⟨wo.heap.size + 1, 0, none⟩) hs).trans z0)
          have K0 := Lib.hid ((hBzw.frozen (p := ⟨wo.heap.size + 1, 0, none⟩) hs).trans f0)
          have y0 := hz.out.1.cell 0
          have D1 := Lib.hid ((hBzw.cell (p := ⟨wo.heap.size + 1, 1, none⟩) hs).trans z1)
          have K1 := Lib.hid ((hBzw.frozen (p := ⟨wo.heap.size + 1, 1, none⟩) hs).trans f1)
          have y1 := hz.out.1.cell 1
          have D2 := Lib.hid ((hBzw.cell (p := ⟨wo.heap.size + 1, 2, none⟩) hs).trans z2)
          have K2 := Lib.hid ((hBzw.frozen (p := ⟨wo.heap.size + 1, 2, none⟩) hs).trans f2)
          have y2 := hz.out.1.cell 2
          simp at y0 y1 y2
          have Y0 := Lib.hid y0
          have Y1 := Lib.hid y1
          have Y2 := Lib.hid y2
          have cz := fun (A' : Option Addr) (c' : Nat) (w' : World) (h' : Rd w' 1 A' (putZ P zs).length (IV (putZ P zs))) => spec_l8Good l s A' (putZ P zs).length c' (putZ P zs) w' h' (by have := putZ_len P zs; omega)
          have hBzs := hB.size
          clear hB
          rcases hcz : circOk l s (putZ P zs) with _ | _
          all_goals rw [hcz] at cz
          all_goals have CZ := Lib.hid cz
          all_goals clear cz
          · have hok : addOk l s zs m = false := by unfold addOk; rw [HW.out, hcz]; simp
            obtain ⟨hO, _, h3⟩ := HR.out _ hok
            obtain ⟨hV, hL, hS⟩ := h3 rfl
            subst hO hV hL hS
            clear hok HR
            go_wp2_with (go_at_call 49; refine (CZ.out _ _ _ hz.out.2.rd).mono ?_; rintro e wv ⟨rfl, hbv⟩; have hB : Below wo.heap.size wo wv := Below.thenn (Below.thenn hWV hBzw hWV.size) hbv (by omega); have d0 := (hbv.cell (p := ⟨wo.heap.size + 1, 0, none⟩) hs9).trans D0.out; have k0 := (hbv.frozen (p := ⟨wo.heap.size + 1, 0, none⟩) hs9).trans K0.out; have y0 := (hbv.cell (p := ⟨g, 0, none⟩) hz.out.1.lt).trans Y0.out; have d1 := (hbv.cell (p := ⟨wo.heap.size + 1, 1, none⟩) hs9).trans D1.out; have k1 := (hbv.frozen (p := ⟨wo.heap.size + 1, 1, none⟩) hs9).trans K1.out; have y1 := (hbv.cell (p := ⟨g, 1, none⟩) hz.out.1.lt).trans Y1.out; have d2 := (hbv.cell (p := ⟨wo.heap.size + 1, 2, none⟩) hs9).trans D2.out; have k2 := (hbv.frozen (p := ⟨wo.heap.size + 1, 2, none⟩) hs9).trans K2.out; have y2 := (hbv.cell (p := ⟨g, 2, none⟩) hz.out.1.lt).trans Y2.out; clear hbv)
            go_light
            refine bodyPost_ret (v := .tuple #[.agg #[.int .i64 0, .int .i64 0, .slice none 0 0], .bool false]) ?_ rfl (RetCB.no (l := 0) (s := 0) (g := 0) (Below.set3 hB (Nat.le_succ _) _ _ _))
            simp [results, Try.results46, go_sem, *]
          · have hn1 : 0 < (putZ P zs).length := putZ_pos P zs
            have CM := Lib.hid (fun (A' : Option Addr) (c' : Nat) (w' : World) (h' : Rd w' 1 A' (putZ P zs).length (IV (putZ P zs))) => spec_l8Smallest l s A' (putZ P zs).length c' (putZ P zs) w' h' (by have := putZ_len P zs; omega) hcz hn1)
            have HK : Hid (∀ b2 : Bool, decide (m ≤ minL (gapsL l (putZ P zs))) = b2 → addOk l s zs m = b2) := fun b2 hb2 => by
              unfold addOk
              rw [HG.out, HM.out, HDT.out, HW.out, hcz, hb2]
              simp
            generalize minL (gapsL l (putZ P zs)) = V0 at *
            clear hn1
            by_cases hlt0 : V0 < m
            · obtain ⟨hO, _, h3⟩ := HR.out _ (HK.out false (by simp; omega))
              obtain ⟨hV, hL, hS⟩ := h3 rfl
              subst hO hV hL hS
              clear HR HK
              go_wp2_with (first | (go_at_call 49; refine (CZ.out _ _ _ hz.out.2.rd).mono ?_; rintro e wv ⟨rfl, hbv⟩; have HV := Lib.hid (Below.thenn hBzw hbv hBzw.size); have HZv := Lib.hid (And.intro (hz.out.1.below hbv hz.out.1.lt) (hz.out.2.below hbv)); clear y0 y1 y2; obtain ⟨y0, y1, y2, _, _, _⟩ := HZv.out.1.cells3; clear hbv) | (go_at_call 62; refine (CM.out _ _ _ HZv.out.2.rd).mono ?_; rintro e wu ⟨rfl, hbu⟩; have HU := Lib.hid (Below.thenn HV.out hbu HV.out.size); have HB := Lib.hid (Below.thenn hWV HU.out hWV.size); have HZu := Lib.hid (And.intro (HZv.out.1.below hbu HZv.out.1.lt) (HZv.out.2.below hbu)); clear y0 y1 y2; obtain ⟨y0, y1, y2, _, _, _⟩ := HZu.out.1.cells3; have HQ := Lib.hid (QB.out.below HU.out hs); obtain ⟨d0, d1, d2, k0, k1, k2⟩ := HQ.out.cells3; clear hbu))
              go_light
              refine bodyPost_ret (v := .tuple #[.agg #[.int .i64 0, .int .i64 0, .slice none 0 0], .bool false]) ?_ rfl (RetCB.no (l := 0) (s := 0) (g := 0) (Below.set3 HB.out (Nat.le_succ _) _ _ _))
              simp [results, Try.results46, go_sem, *]
            · obtain ⟨hO, h3, _⟩ := HR.out _ (HK.out true (by simp; omega))
              obtain ⟨hV, hL, hS⟩ := h3 rfl
              subst hO
              have HVv := Lib.hid hV
              have HVl := Lib.hid hL
              have HVs := Lib.hid hS
              clear hV hL hS HR HK
              go_wp2_with (first | (go_at_call 49; refine (CZ.out _ _ _ hz.out.2.rd).mono ?_; rintro e wv ⟨rfl, hbv⟩; have HV := Lib.hid (Below.thenn hBzw hbv hBzw.size); have HZv := Lib.hid (And.intro (hz.out.1.below hbv hz.out.1.lt) (hz.out.2.below hbv)); clear y0 y1 y2; obtain ⟨y0, y1, y2, _, _, _⟩ := HZv.out.1.cells3; clear hbv) | (go_at_call 62; refine (CM.out _ _ _ HZv.out.2.rd).mono ?_; rintro e wu ⟨rfl, hbu⟩; have HU := Lib.hid (Below.thenn HV.out hbu HV.out.size); have HB := Lib.hid (Below.thenn hWV HU.out hWV.size); have HZu := Lib.hid (And.intro (HZv.out.1.below hbu HZv.out.1.lt) (HZv.out.2.below hbu)); clear y0 y1 y2; obtain ⟨y0, y1, y2, _, _, _⟩ := HZu.out.1.cells3; have HQ := Lib.hid (QB.out.below HU.out hs); obtain ⟨d0, d1, d2, k0, k1, k2⟩ := HQ.out.cells3; clear hbu))
              go_light
              obtain ⟨p1, p2, e0, e1, e2⟩ := box_put (l := l) (s := s) HB.out (Nat.le_succ _) HQ.out rfl HZu.out.2 (Nat.le_trans hWV.size hBzs)
              refine bodyPost_ret (v := .tuple #[.agg #[.int .i64 l, .int .i64 s, .slice Aq (putZ P zs).length cq], .bool true]) ?_ rfl (by rw [HVv.out, HVl.out, HVs.out, HW.out]; exact ⟨Aq, cq, rfl, p2, p1⟩)
              simp [results, Try.results46, go_sem, e0, e1, e2]
end Go.Proofs.Ytidjgbonlejhhaa
