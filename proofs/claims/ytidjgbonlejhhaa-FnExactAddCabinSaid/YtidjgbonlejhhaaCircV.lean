/- The circle: a cabin is added, the program's. -/
import Derived.Test.YtidjgbonlejhhaaCircU
namespace Go.Proofs.Ytidjgbonlejhhaa
open Go.RowKit
set_option linter.unusedVariables false
set_option linter.unusedSimpArgs false

set_option maxRecDepth 100000 in
set_option maxHeartbeats 8000000 in
theorem impl_AddCabin (l s : Int) (A : Option Addr) (n c : Nat) (zs : List Int) (m : Int) (wo : World) (h : Rd wo 1 A n (IV zs)) (hm : n ≤ 1048576) (hA : A = none → c = 0 ∧ n = 0) :
    Calls Try.prog 47 #[.agg #[.int .i64 l, .int .i64 s, .slice A n c], .int .i64 m] wo (RetCB wo (addL l s zs m) (addS l s zs m) (addV l s zs m) (addOk l s zs m)) := by
  have hl := Lib.hid h.len
  have HA := Lib.hid hA
  clear hA
  have ci := fun w' (h' : Rd w' 1 A n (IV zs)) => impl_IsCircle l s A n c zs w' h' (by omega)
  obtain ⟨hWV, hs, ⟨c0, hc1, c2⟩, ⟨z0, z1, z2⟩, fz⟩ := two_boxes wo (.int .i64 l) (.int .i64 s) (.slice A n c) (.int .i64 0) (.int .i64 0) (.slice none 0 0) 27
  have hr := h.below hWV
  have hs0 := Nat.lt_of_succ_lt hs
  have f0 := fz 0
  have f1 := fz 1
  have f2 := fz 2
  rcases hg : circOk l s zs with _ | _
  all_goals rw [hg] at ci
  all_goals have CI := Lib.hid ci
  · have hok : addOk l s zs m = false := by simp [addOk, hg]
    rw [(add_no1 hok).1, (add_no1 hok).2.1, (add_no1 hok).2.2, hok]
    clear ci hg hok
    go_enter Try.func47, Try.ntmps47
    go_wp2_with fail
    generalize (wo.alloc (.cells #[.int .i64 l, .int .i64 s, .slice A n c] 27)).alloc (.cells #[.int .i64 0, .int .i64 0, .slice none 0 0] 27) = w at *
    clear fz
    have hB : Below w.heap.size w w := Below.refl _ _
    go_wp2_with (go_at_call 17; refine (CI.out _ hr).mono ?_; rintro e w' ⟨rfl, hb⟩; have hB : Below w.heap.size w w' := Below.thenn (by repeat (first | exact Below.refl _ _ | assumption | apply Below.drew | apply below_drewN | (refine Below.alloc ?_ (by first | omega | (simp; done) | (simp; omega)) _) | (refine Below.setCell ?_ (by first | omega | (simp; done) | (simp; omega)) _))) hb (by first | omega | (simp; done) | (simp; omega)); have hz : w.heap.size ≤ w'.heap.size := hB.size; (try (have hz1 : w.heap.size + 1 ≤ w'.heap.size := (by have h := hb.size; (try simp at h); omega))); obtain ⟨hc, hf⟩ := bcell hb; skip; clear hb)
    go_light
    refine bodyPost_ret (v := .tuple #[.agg #[.int .i64 0, .int .i64 0, .slice none 0 0], .bool false]) ?_ rfl (RetCB.no (l := 0) (s := 0) (g := 0) (Below.set3 (Below.thenn hWV hB hWV.size) (Nat.le_succ _) _ _ _))
    simp [results, Try.results47, go_sem, *]
  have cw := fun w' => impl_within m 1 4000 w'
  rcases hb : inr m 1 4000 with _ | _
  all_goals rw [hb] at cw
  all_goals have CW := Lib.hid cw
  · have hok : addOk l s zs m = false := by simp [addOk, hb]
    rw [(add_no1 hok).1, (add_no1 hok).2.1, (add_no1 hok).2.2, hok]
    clear ci hg cw hb hok
    go_enter Try.func47, Try.ntmps47
    go_wp2_with fail
    generalize (wo.alloc (.cells #[.int .i64 l, .int .i64 s, .slice A n c] 27)).alloc (.cells #[.int .i64 0, .int .i64 0, .slice none 0 0] 27) = w at *
    clear fz
    have hB : Below w.heap.size w w := Below.refl _ _
    go_wp2_with (first | (go_at_call 17; refine (CI.out _ hr).mono ?_; rintro e w' ⟨rfl, hb⟩; have hB : Below w.heap.size w w' := Below.thenn (by repeat (first | exact Below.refl _ _ | assumption | apply Below.drew | apply below_drewN | (refine Below.alloc ?_ (by first | omega | (simp; done) | (simp; omega)) _) | (refine Below.setCell ?_ (by first | omega | (simp; done) | (simp; omega)) _))) hb (by first | omega | (simp; done) | (simp; omega)); have hz : w.heap.size ≤ w'.heap.size := hB.size; (try (have hz1 : w.heap.size + 1 ≤ w'.heap.size := (by have h := hb.size; (try simp at h); omega))); obtain ⟨hc, hf⟩ := bcell hb; skip; clear hb) | (go_at_call 51; refine (CW.out _).mono ?_; rintro e w' ⟨rfl, rfl⟩))
    go_light
    refine bodyPost_ret (v := .tuple #[.agg #[.int .i64 0, .int .i64 0, .slice none 0 0], .bool false]) ?_ rfl (RetCB.no (l := 0) (s := 0) (g := 0) (Below.set3 (Below.thenn hWV hB hWV.size) (Nat.le_succ _) _ _ _))
    simp [results, Try.results47, go_sem, *]
  have hcb := circOk_iff.1 hg
  have l0 := hcb.1.1
  have l1 := hcb.1.2
  have hn : n ≤ 12 := by have := hcb.2.2.2; have := hl.out; omega
  have HG := Lib.hid hg
  have halt := add_alt hg hb
  have HAL := Lib.hid halt
  have TB := Lib.hid (two_blks wo (.int .i64 l) (.int .i64 s) (.slice A n c) (.int .i64 0) (.int .i64 0) (.slice none 0 0) 27)
  have HH := Lib.hid h
  generalize hV : addV l s zs m = V at *
  generalize hL : addL l s zs m = L at *
  generalize hS : addS l s zs m = S at *
  generalize hO : addOk l s zs m = O at *
  have HNO : Hid (O = false → V = [] ∧ L = 0 ∧ S = 0) := fun e => by rw [← hV, ← hL, ← hS]; exact add_no1 (hO.trans e)
  have HYES : Hid (O = true → L = l ∧ S = s) := fun e => by rw [← hL, ← hS]; exact (add_yes (hO.trans e)).2
  clear hV hL hS hO halt ci hg cw hb hcb h
  go_enter Try.func47, Try.ntmps47
  go_wp2_with fail
  generalize (wo.alloc (.cells #[.int .i64 l, .int .i64 s, .slice A n c] 27)).alloc (.cells #[.int .i64 0, .int .i64 0, .slice none 0 0] 27) = w at *
  clear fz
  have hB : Below w.heap.size w w := Below.refl _ _
  go_wp2_with (first | (go_at_call 17; refine (CI.out _ hr).mono ?_; rintro e w' ⟨rfl, hb⟩; have HB := Lib.hid (Below.thenn hB hb hB.size); clear c0 hc1 c2 hb; have x0 := (HB.out.cell (p := ⟨wo.heap.size, 0, none⟩) hs0)) | (go_at_call 51; refine (CW.out _).mono ?_; rintro e w' ⟨rfl, rfl⟩))
  have T1 := Lib.hid (TB.out.1.below HB.out hs0)
  have T2 := Lib.hid (TB.out.2.below HB.out hs)
  clear x0
  obtain ⟨x0, x1, x2, _, _, _⟩ := T1.out.cells3
  have X0 := Lib.hid x0
  have X1 := Lib.hid x1
  have X2 := Lib.hid x2
  have HRw := Lib.hid (hr.below HB.out)
  have hz : w.heap.size ≤ w'.heap.size := HB.out.size
  have HBo := Lib.hid (Below.thenn hWV HB.out hWV.size)
  have hs5 : wo.heap.size < w'.heap.size := Nat.lt_of_lt_of_le hs0 hz
  have hs6 : wo.heap.size + 1 < w'.heap.size := Nat.lt_of_lt_of_le hs hz
  have bA : Below w'.heap.size w' w'.drew := (Below.refl _ _).drew
  have bB : Below w'.heap.size w' (w'.alloc (.cells #[.int .i64 0, .int .i64 0, .slice none 0 0] 27)).drew := ((Below.refl _ _).alloc (Nat.le_refl _) _).drew
  have sA := bA.size
  have sB := bB.size
  have xB : Blk (w'.alloc (.cells #[.int .i64 0, .int .i64 0, .slice none 0 0] 27)).drew w'.heap.size 27 #[.int .i64 0, .int .i64 0, .slice none 0 0] := (Blk.new w' 27 #[.int .i64 0, .int .i64 0, .slice none 0 0]).drew
  have lB := xB.lt
  clear z0 z1 z2 f0 f1 f2 hr hB
  go_cut [6, 7] (fun s6 s7 wx => ∃ (p : Nat) (Ao : Option Addr) (co : Nat), s6 = .pointer (some ⟨p, 0, none⟩) ∧ s7 = .int .i64 0 ∧ Hid (AS wo wx p l s A n c Ao n co zs))
  case first =>
    as_aux_lemma =>
      go_region_held3 (fun w'' => w''.cell? ⟨wo.heap.size, 0, none⟩ = some (.int .i64 l) ∧ w''.cell? ⟨wo.heap.size, 1, none⟩ = some (.int .i64 s) ∧ w''.cell? ⟨wo.heap.size, 2, none⟩ = some (.slice A n c)) (first | exact ⟨x0, x1, x2⟩ | exact ⟨(World.cell?_alloc_lt _ _ _ hs5).trans x0, (World.cell?_alloc_lt _ _ _ hs5).trans x1, (World.cell?_alloc_lt _ _ _ hs5).trans x2⟩ | exact ⟨(World.cell?_alloc_lt _ _ _ hs7).trans x0, (World.cell?_alloc_lt _ _ _ hs7).trans x1, (World.cell?_alloc_lt _ _ _ hs7).trans x2⟩ | exact ⟨(far3 _ (Nat.ne_of_lt hs5) _ _ _).trans x0, (far3 _ (Nat.ne_of_lt hs5) _ _ _).trans x1, (far3 _ (Nat.ne_of_lt hs5) _ _ _).trans x2⟩) (first | (go_at_call 72; refine (clone_n _ _ _ zs _ (HRw.out.below bB) hm HA.out).mono ?_; rintro e wa ⟨Aa, ca, rfl, hoa, hba⟩; have HX := Lib.hid (xB.below hba lB); obtain ⟨xb0, xb1, xb2, yb0, yb1, yb2⟩ := HX.out.cells3; have HBa := Lib.hid (Below.thenn bB hba sB); have HOa := Lib.hid (Ow.base hoa sB); clear x0 x1 x2; obtain ⟨x0, x1, x2, _, _, _⟩ := (T1.out.below HBa.out hs5).cells3; have hs7 := Nat.lt_of_lt_of_le hs5 HBa.out.size; have hs8 := Nat.lt_of_lt_of_le hs6 HBa.out.size; clear hoa hba) | (go_at_call 72; refine (clone_n _ _ _ zs _ (HRw.out.below bA) hm HA.out).mono ?_; rintro e wa ⟨Aa, ca, rfl, hoa, hba⟩; have HBa := Lib.hid (Below.thenn bA hba sA); have HOa := Lib.hid (Ow.base hoa sA); clear x0 x1 x2; obtain ⟨x0, x1, x2, _, _, _⟩ := (T1.out.below HBa.out hs5).cells3; have hs7 := Nat.lt_of_lt_of_le hs5 HBa.out.size; have hs8 := Nat.lt_of_lt_of_le hs6 HBa.out.size; clear hoa hba))
      all_goals go_wp2_with fail
      all_goals go_meet
      all_goals first
        | exact ⟨_, Aa, ca, rfl, rfl, AS.mk1 (Below.thenn HBo.out HBa.out HBo.out.size) (T1.out.below HBa.out hs5) (T2.out.below HBa.out hs6) (HOa.out.base HBo.out.size) hs8⟩
        | exact ⟨_, Aa, ca, rfl, rfl, AS.mk2 (cs := #[]) (Below.thenn HBo.out HBa.out HBo.out.size) (T1.out.below HBa.out hs5) (T2.out.below HBa.out hs6) HX.out (HOa.out.base HBo.out.size) hs6⟩
  case rest =>
    as_aux_lemma =>
      obtain ⟨p, Ao, co, rfl, rfl, X⟩ := hcut
      clear X0 X1 X2 x0 x1 x2 HRw bA bB sA sB xB lB T1 T2 TB hs5 hs6 hz HBo HB CI CW hs hs0 hWV
      have HL := Lib.hid hl.out
      obtain ⟨x0, x1, x2, _, _, _⟩ := X.out.cellsC
      have hgl := gapsL_len l zs
      rw [hl.out] at hgl
      have CG := Lib.hid (fun w' (h' : Rd w' 1 A n (IV zs)) => impl_gapsOf l s A n c zs w' h' (by omega) HG.out)
      go_wp2_with fail
      refine (CG.out _ (HH.out.below X.out.bel)).mono ?_
      rintro e w2 ⟨A1, c1, rfl, ho, hb⟩
      rw [hgl] at ho
      rw [hgl]
      have O1 := Lib.hid ho
      have X2 := Lib.hid (X.out.below hb)
      clear ho hb x0 x1 x2 hgl CG X
      obtain ⟨x0, x1, x2, _, _, _⟩ := X2.out.cellsC
      have hcs : wo.heap.size < w2.heap.size := X2.out.2.1.lt
      go_wp2_with fail
      go_loopg [31, 7, 8] n (fun g i pl mo wr => ∃ k q : Nat, k ≤ n ∧ n ≤ k + g ∧ i = .int .i64 k ∧ pl = .int .i64 (addQ l zs k) ∧ mo = .int .i64 (addM l zs k) ∧ w2.drewN q = wr)
      case atStart => exact ⟨0, 0, by omega, by omega, rfl, rfl, rfl, rfl⟩
      case round =>
        obtain ⟨k, q, hk1, hk2, rfl, rfl, rfl, rfl⟩ := hrel
        have hab := addM_bd HG.out (show k ≤ zs.length by have := hl.out; omega)
        have ha0 := hab.1
        have ha1 := hab.2
        clear hab
        by_cases hlt : k < n
        · obtain ⟨bg, og, y, e1, hy, cy⟩ := O1.out.rd.at1 hlt
          subst e1
          rw [gapsL_at (by have := hl.out; omega)] at hy
          injection hy with hy
          obtain ⟨bz, oz, x, e2, hx, cx⟩ := (HH.out.below X2.out.bel).at1 hlt
          subst e2
          have hxc := circ_at HG.out hx
          have hy1 := gap_pos HG.out (show k < zs.length by have := hl.out; omega)
          have hy2 := gap_le HG.out (show k < zs.length by have := hl.out; omega)
          rw [hy] at hy1 hy2
          obtain ⟨k', hk'⟩ : ∃ k', k' = k + 1 := ⟨_, rfl⟩
          have hk3 : k' ≤ k + 1 := by omega
          have hk4 : k + 1 ≤ k' := by omega
          have HT := Lib.hid (fun ht => add_take HG.out (show k < zs.length by have := hl.out; omega) ht)
          have HKp := Lib.hid (fun ht => add_keep HG.out (show k < zs.length by have := hl.out; omega) ht)
          rw [hy, ← hk'] at HT HKp
          have hmid : midP l zs k = (x + y / 2) % l := by unfold midP; rw [hy]; simp [List.getD, hx]
          have x0' := hxc.1
          have x1' := hxc.2
          clear hxc hx hk' hy
          generalize addM l zs k = M at *
          by_cases hgt : M < y
          · have ht := HT.out hgt
            have u1 : IntKind.i64.wrap (y.tdiv 2) = y / 2 := by rw [Int.tdiv_eq_ediv_of_nonneg (by omega)]; exact IntWalk.i64_in _ (by omega)
            have u2 : IntKind.i64.wrap (x + y / 2) = x + y / 2 := IntWalk.i64_in _ (by omega)
            have u3 : (x + y / 2).tmod l = addQ l zs k' := by
              rw [Int.tmod_eq_emod_of_nonneg (by omega), ht.2, hmid]
            have u4 : ¬ (l = 0) := by omega
            have u5 : (l == 0) = false := by simp; omega
            have HTM := Lib.hid ht.1
            clear ht hmid
            go_wp2_with fail
            go_quiet (fail)
            go_wp2_with fail
            go_roundg (n - k')
            case measure => omega
            case rel => exact ⟨k', _, by omega, by omega, by go_num, rfl, by rw [HTM.out], rfl⟩
          · have ht := HKp.out hgt
            have HTM := Lib.hid ht.1
            have HTQ := Lib.hid ht.2
            clear ht hmid
            go_wp2_with fail
            go_roundg (n - k')
            case measure => omega
            case rel => exact ⟨k', q, by omega, by omega, by go_num, by rw [HTQ.out], by rw [HTM.out], rfl⟩
        · obtain rfl : k = n := by omega
          have X3 := Lib.hid (X2.out.below (below_n w2 q))
          clear x0 x1 x2 hcs
          have HP : Hid (addQ l zs k = addP l zs) := (show _ = _ by have := addQ_end l zs; rwa [hl.out] at this)
          rw [HP.out]
          generalize addP l zs = P at *
          generalize w2.drewN q = w3 at *
          obtain ⟨x0, x1, x2, f0, f1, f2⟩ := X3.out.cellsP
          go_wp2_with (at_builtin; refine wp_app_intM rfl (.tmp 53) (.tmp 55) rfl w3 wo.heap.size (.slice Ao k co) zs P rfl X3.out.own rfl k hl.out (by omega) X3.out.size ?_; intro A4 c4 w4 ho4 hg4; have X4 := Lib.hid (X3.out.app ho4 hg4); clear x0 x1 x2 f0 f1 f2; obtain ⟨x0, x1, x2, f0, f1, f2⟩ := X3.out.app_cells hg4; clear ho4 hg4)
          refine (slices_Sort A4 (k + 1) c4 wo.heap.size (zs ++ [P]) _ X4.out.own (by omega)).mono ?_
          rintro e w5 ⟨rfl, ho5, hg5⟩
          have X5 := Lib.hid (X4.out.past ho5 hg5)
          have HLU := Lib.hid ho5.len
          clear ho5 hg5 X4 X3 X2 x0 x1 x2 f0 f1 f2
          generalize srtZ (zs ++ [P]) = us at *
          obtain ⟨x0, x1, x2, _, _, _⟩ := X5.out.cellsP
          have ci := fun w' (h' : Rd w' 1 A4 (k + 1) (IV us)) => impl_IsCircle l s A4 (k + 1) c4 us w' h' (by omega)
          rcases hc : circOk l s us with _ | _
          all_goals rw [hc] at ci
          all_goals have CI := Lib.hid ci
          all_goals clear ci
          · have hOf : O = false := by rw [HAL.out.1, hc]; simp
            obtain ⟨hV, hL, hS⟩ := HNO.out hOf
            subst hOf
            have HVv := Lib.hid hV
            have HVl := Lib.hid hL
            have HVs := Lib.hid hS
            clear hV hL hS HNO HYES HAL hc
            go_wp2_with (go_at_call 17; refine (CI.out _ X5.out.own.rd).mono ?_; rintro e w6 ⟨rfl, hb6⟩; have X6 := Lib.hid (X5.out.below hb6); clear x0 x1 x2 hb6; obtain ⟨d0, d1, d2, k0, k1, k2⟩ := X6.out.cellsQ)
            go_light
            refine bodyPost_ret (v := .tuple #[.agg #[.int .i64 0, .int .i64 0, .slice none 0 0], .bool false]) ?_ rfl (by rw [HVv.out, HVl.out, HVs.out]; exact RetCB.no (l := 0) (s := 0) (g := 0) (Below.set3 X6.out.bel (Nat.le_succ _) _ _ _))
            simp [results, Try.results47, go_sem, *]
          · have hu := gapsL_len l us
            rw [HLU.out] at hu
            have HU := Lib.hid hu
            have CGG := Lib.hid (fun w' (h' : Rd w' 1 A4 (k + 1) (IV us)) => impl_gapsOf l s A4 (k + 1) c4 us w' h' (by omega) hc)
            have HO : Hid (O = decide (m ≤ minL (gapsL l us))) := (show _ = _ by rw [HAL.out.1, hc]; simp)
            have HV2 := Lib.hid HAL.out.2
            clear hu hc HAL
            generalize hgs : gapsL l us = gs at *
            clear hgs
            by_cases hlt0 : minL gs < m
            · have hOf : O = false := by rw [HO.out]; simp; omega
              obtain ⟨hV, hL, hS⟩ := HNO.out hOf
              subst hOf
              have HVv := Lib.hid hV
              have HVl := Lib.hid hL
              have HVs := Lib.hid hS
              clear hV hL hS HNO HYES
              go_wp2_with (first | (go_at_call 17; refine (CI.out _ X5.out.own.rd).mono ?_; rintro e w6 ⟨rfl, hb6⟩; have X6 := Lib.hid (X5.out.below hb6); clear x0 x1 x2 hb6; obtain ⟨x0, x1, x2, _, _, _⟩ := X6.out.cellsP) | (go_at_call 61; refine (CGG.out _ X6.out.own.rd).mono ?_; rintro e w7 ⟨A7, c7, rfl, ho7, hb7⟩; rw [HU.out] at ho7; rw [HU.out]; have O7 := Lib.hid ho7; have X7 := Lib.hid (X6.out.below hb7); clear x0 x1 x2 hb7 ho7; obtain ⟨d0, d1, d2, k0, k1, k2⟩ := X7.out.cellsQ) | (go_at_call 63; refine (slices_Min A7 (k + 1) c7 gs _ O7.out.rd (by omega) (by omega)).mono ?_; rintro e w' ⟨rfl, rfl⟩))
              go_light
              refine bodyPost_ret (v := .tuple #[.agg #[.int .i64 0, .int .i64 0, .slice none 0 0], .bool false]) ?_ rfl (by rw [HVv.out, HVl.out, HVs.out]; exact RetCB.no (l := 0) (s := 0) (g := 0) (Below.set3 X7.out.bel (Nat.le_succ _) _ _ _))
              simp [results, Try.results47, go_sem, *]
            · have hOt : O = true := by rw [HO.out]; simp; omega
              obtain ⟨hL, hS⟩ := HYES.out hOt
              have hV := HV2.out hOt
              subst hOt
              have HVv := Lib.hid hV
              have HVl := Lib.hid hL
              have HVs := Lib.hid hS
              clear hV hL hS HNO HYES HV2
              go_wp2_with (first | (go_at_call 17; refine (CI.out _ X5.out.own.rd).mono ?_; rintro e w6 ⟨rfl, hb6⟩; have X6 := Lib.hid (X5.out.below hb6); clear x0 x1 x2 hb6; obtain ⟨x0, x1, x2, _, _, _⟩ := X6.out.cellsP) | (go_at_call 61; refine (CGG.out _ X6.out.own.rd).mono ?_; rintro e w7 ⟨A7, c7, rfl, ho7, hb7⟩; rw [HU.out] at ho7; rw [HU.out]; have O7 := Lib.hid ho7; have X7 := Lib.hid (X6.out.below hb7); clear x0 x1 x2 hb7 ho7; obtain ⟨x0, x1, x2, _, _, _⟩ := X7.out.cellsP; obtain ⟨d0, d1, d2, k0, k1, k2⟩ := X7.out.cellsQ) | (go_at_call 63; refine (slices_Min A7 (k + 1) c7 gs _ O7.out.rd (by omega) (by omega)).mono ?_; rintro e w' ⟨rfl, rfl⟩))
              go_light
              obtain ⟨p1, p2, e0, e1, e2⟩ := box_put (l := l) (s := s) X7.out.bel (Nat.le_succ _) X7.out.boxQ rfl X7.out.own (Nat.le_refl _)
              refine bodyPost_ret (v := .tuple #[.agg #[.int .i64 l, .int .i64 s, .slice A4 (k + 1) c4], .bool true]) ?_ rfl (by rw [HVv.out, HVl.out, HVs.out]; exact ⟨A4, c4, by rw [HLU.out], by rw [HLU.out]; exact p2, p1⟩)
              simp [results, Try.results47, go_sem, e0, e1, e2]
end Go.Proofs.Ytidjgbonlejhhaa
