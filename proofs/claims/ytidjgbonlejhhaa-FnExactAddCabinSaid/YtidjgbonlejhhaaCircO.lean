/- The circle: a cabin is removed, the reference's. -/
import Derived.Test.YtidjgbonlejhhaaCircN
namespace Go.Proofs.Ytidjgbonlejhhaa
open Go.RowKit
set_option linter.unusedVariables false
set_option linter.unusedSimpArgs false

set_option maxHeartbeats 2000000 in
theorem spec_l8With (l s : Int) (A A' : Option Addr) (n c n' c' : Nat) (zs : List Int) (wo : World) (h : Rd wo 1 A' n' (IV zs)) (hm : n' ≤ 1048576) :
    Calls Try.prog 64 #[.agg #[.int .i64 l, .int .i64 s, .slice A n c], .slice A' n' c'] wo (RetC wo l s zs) := by
  obtain ⟨hWV, hs, ⟨c0, c1, c2⟩, ⟨z0, z1, z2⟩, fz⟩ := two_boxes wo (.int .i64 l) (.int .i64 s) (.slice A n c) (.int .i64 0) (.int .i64 0) (.slice none 0 0) 27
  have f0 := fz 0
  have f1 := fz 1
  have f2 := fz 2
  have hr := h.below hWV
  have hwz : wo.heap.size ≤ ((wo.alloc (.cells #[.int .i64 l, .int .i64 s, .slice A n c] 27)).alloc (.cells #[.int .i64 0, .int .i64 0, .slice none 0 0] 27)).heap.size := hWV.size
  go_enter Try.func64, Try.ntmps64
  go_wp2_with fail
  generalize (wo.alloc (.cells #[.int .i64 l, .int .i64 s, .slice A n c] 27)).alloc (.cells #[.int .i64 0, .int .i64 0, .slice none 0 0] 27) = w at *
  clear fz h
  go_region_held3 (fun w' => w'.cell? ⟨wo.heap.size, 0, none⟩ = some (.int .i64 l) ∧ w'.cell? ⟨wo.heap.size, 1, none⟩ = some (.int .i64 s)) (first | exact ⟨c0, c1⟩ | exact ⟨(hBq.cell (p := ⟨wo.heap.size, 0, none⟩) (Nat.lt_of_succ_lt hs)).trans c0, (hBq.cell (p := ⟨wo.heap.size, 1, none⟩) (Nat.lt_of_succ_lt hs)).trans c1⟩ | exact ⟨(far3 _ (Nat.ne_of_lt (Nat.lt_succ_self _)) _ _ _).trans ((hBq.cell (p := ⟨wo.heap.size, 0, none⟩) (Nat.lt_of_succ_lt hs)).trans c0), (far3 _ (Nat.ne_of_lt (Nat.lt_succ_self _)) _ _ _).trans ((hBq.cell (p := ⟨wo.heap.size, 1, none⟩) (Nat.lt_of_succ_lt hs)).trans c1)⟩)
    ((go_at_call 65; refine (spec_l1Own _ _ _ zs _ (hr.below (by first | exact Below.refl _ _ | exact Below.drew (Below.refl _ _))) hm).mono ?_; rintro e wq ⟨Aq, cq, rfl, hoq, hbq⟩; have hBq : Below w.heap.size w wq := Below.thenn (by first | exact Below.refl _ _ | exact Below.drew (Below.refl _ _)) hbq (by simp); have HOq := Lib.hid (Ow.base (B' := w.heap.size) hoq (by simp)); have g0 := (hBq.cell (p := ⟨wo.heap.size + 1, 0, none⟩) hs).trans z0; have g1 := (hBq.cell (p := ⟨wo.heap.size + 1, 1, none⟩) hs).trans z1; have g2 := (hBq.cell (p := ⟨wo.heap.size + 1, 2, none⟩) hs).trans z2; have q0 := (hBq.frozen (p := ⟨wo.heap.size + 1, 0, none⟩) hs).trans f0; have q1 := (hBq.frozen (p := ⟨wo.heap.size + 1, 1, none⟩) hs).trans f1; have q2 := (hBq.frozen (p := ⟨wo.heap.size + 1, 2, none⟩) hs).trans f2; clear hbq hoq))
  all_goals go_wp2_with fail
  all_goals go_light
  all_goals refine bodyPost_ret (v := .agg #[.int .i64 l, .int .i64 s, .slice Aq zs.length cq]) ?_ rfl ⟨Aq, cq, rfl, (HOq.out.set3 hs _ _ _).base hwz, Below.set3 (Below.thenn hWV hBq hwz) (Nat.le_succ _) _ _ _⟩
  all_goals (clear hr; simp [results, Try.results64, go_sem, *])
theorem step_app_but {ops : Array Oper} {o : Oper} {a : Act} {K : Act → World → Prop} {Q : Exit → Act → World → Prop} {E : Prop} (hgd : o.guard = none) (s x : Operand)
    (ho : o.op = .call { callee := .builtin .append, args := #[s, x], argTypes := #[22, 22] }) (w : World) (B : Nat) (v : Value) (zs : List Int) (j : Nat)
    (hs : a.eval s = v) (hown : Ow w B v (zs.take j)) (A : Option Addr) (n c : Nat) (hx : a.eval x = .slice A n c) (hr : Rd w 1 A n (IV (zs.drop (j + 1)))) (hl : (zs.take j).length + (zs.drop (j + 1)).length < 1099511627776) (hB : B ≤ w.heap.size)
    (h : ∀ A' c' w', Ow w' B (.slice A' (butZ zs j).length c') (butZ zs j) → Below B w w' → K (a.put o.dst (.slice A' (butZ zs j).length c')) w') :
    if Region.wanted o (yielded ops a.tmps) = true then Oper.wp Try.prog o a w K Q else E :=
  step_app_ints hgd s x ho w B v (zs.take j) hs hown A n c (zs.drop (j + 1)) hx hr hl hB h
theorem own_but (A : Option Addr) (n c j : Nat) (zs : List Int) (w : World) (h : Rd w 1 A n (IV (zs.take j))) (hn : n ≤ 1048576) :
    Calls Try.prog 65 #[.slice A n c] w fun e w' => ∃ A' c', e = .returned (.slice A' n c') ∧ Ow w' w.heap.size (.slice A' n c') (zs.take j) ∧ Below w.heap.size w w' := by
  have hl := h.len
  refine (spec_l1Own A n c (zs.take j) w h hn).mono ?_
  rintro e w' ⟨A', c', rfl, ho, hb⟩
  rw [hl] at ho
  exact ⟨A', c', ret_s hl, ho, hb⟩
set_option maxRecDepth 100000 in
set_option maxHeartbeats 4000000 in
theorem spec_RemoveCabin (l s : Int) (A : Option Addr) (n c : Nat) (zs : List Int) (cabin : Int) (wo : World) (h : Rd wo 1 A n (IV zs)) (hm : n ≤ 1048576) (hnc : n ≤ c) (hcm : c ≤ 9223372036854775807) :
    Calls Try.prog 38 #[.agg #[.int .i64 l, .int .i64 s, .slice A n c], .int .i64 cabin] wo (RetCB wo (remL l s zs cabin) (remS l s zs cabin) (remV l s zs cabin) (remOk l s zs cabin)) := by
  have hl := Lib.hid h.len
  have ci := fun w' (h' : Rd w' 1 A n (IV zs)) => spec_l8Good l s A n c zs w' h' (by omega)
  obtain ⟨hWV, hs, ⟨c0, c1, c2⟩, ⟨z0, z1, z2⟩, fz⟩ := two_boxes wo (.int .i64 l) (.int .i64 s) (.slice A n c) (.int .i64 0) (.int .i64 0) (.slice none 0 0) 27
  have hr := h.below hWV
  have hn0 : (0 : Int) ≤ (n : Int) := by omega
  rcases hg : circOk l s zs with _ | _
  all_goals rw [hg] at ci
  all_goals have CI := Lib.hid ci
  · rw [show remV l s zs cabin = [] by simp [remV, remOk, hg], show remL l s zs cabin = 0 by simp [remL, remOk, hg], show remS l s zs cabin = 0 by simp [remS, remOk, hg], show remOk l s zs cabin = false by simp [remOk, hg]]
    clear ci hg
    go_enter Try.func38, Try.ntmps38
    go_wp2_with fail
    generalize (wo.alloc (.cells #[.int .i64 l, .int .i64 s, .slice A n c] 27)).alloc (.cells #[.int .i64 0, .int .i64 0, .slice none 0 0] 27) = w at *
    go_wp2_with (go_at_call 49; refine (CI.out _ hr).mono ?_; rintro e w' ⟨rfl, hb⟩; have hB : Below wo.heap.size wo w' := Below.thenn hWV hb (by omega); have hs' := Nat.lt_of_lt_of_le hs hb.size; have d0 := (hb.cell (p := ⟨wo.heap.size + 1, 0, none⟩) hs).trans z0; have d1 := (hb.cell (p := ⟨wo.heap.size + 1, 1, none⟩) hs).trans z1; have d2 := (hb.cell (p := ⟨wo.heap.size + 1, 2, none⟩) hs).trans z2; have k0 := (hb.frozen (p := ⟨wo.heap.size + 1, 0, none⟩) hs).trans (fz 0); have k1 := (hb.frozen (p := ⟨wo.heap.size + 1, 1, none⟩) hs).trans (fz 1); have k2 := (hb.frozen (p := ⟨wo.heap.size + 1, 2, none⟩) hs).trans (fz 2); have e0 := (hb.cell (p := ⟨wo.heap.size, 0, none⟩) (Nat.lt_of_succ_lt hs)).trans c0; have e1 := (hb.cell (p := ⟨wo.heap.size, 1, none⟩) (Nat.lt_of_succ_lt hs)).trans c1; have e2 := (hb.cell (p := ⟨wo.heap.size, 2, none⟩) (Nat.lt_of_succ_lt hs)).trans c2; clear hb)
    go_light
    refine bodyPost_ret (v := .tuple #[.agg #[.int .i64 0, .int .i64 0, .slice none 0 0], .bool false]) ?_ rfl (RetCB.no (l := 0) (s := 0) (g := 0) (Below.set3 hB (Nat.le_succ _) _ _ _))
    simp [results, Try.results38, go_sem, *]
  have cw := fun w' => spec_l1In cabin 0 ((n : Int) - 1) w'
  rcases hb : inr cabin 0 ((n : Int) - 1) with _ | _
  all_goals rw [hb] at cw
  all_goals have CW := Lib.hid cw
  · have hok : remOk l s zs cabin = false := by unfold remOk; rw [hl.out, hb]; simp
    rw [show remV l s zs cabin = [] by simp [remV, hok], show remL l s zs cabin = 0 by simp [remL, hok], show remS l s zs cabin = 0 by simp [remS, hok], hok]
    clear ci hg cw hb hok
    go_enter Try.func38, Try.ntmps38
    go_wp2_with fail
    generalize (wo.alloc (.cells #[.int .i64 l, .int .i64 s, .slice A n c] 27)).alloc (.cells #[.int .i64 0, .int .i64 0, .slice none 0 0] 27) = w at *
    go_wp2_with (first | (go_at_call 49; refine (CI.out _ hr).mono ?_; rintro e w' ⟨rfl, hb⟩; have hB : Below wo.heap.size wo w' := Below.thenn hWV hb (by omega); have hs' := Nat.lt_of_lt_of_le hs hb.size; have d0 := (hb.cell (p := ⟨wo.heap.size + 1, 0, none⟩) hs).trans z0; have d1 := (hb.cell (p := ⟨wo.heap.size + 1, 1, none⟩) hs).trans z1; have d2 := (hb.cell (p := ⟨wo.heap.size + 1, 2, none⟩) hs).trans z2; have k0 := (hb.frozen (p := ⟨wo.heap.size + 1, 0, none⟩) hs).trans (fz 0); have k1 := (hb.frozen (p := ⟨wo.heap.size + 1, 1, none⟩) hs).trans (fz 1); have k2 := (hb.frozen (p := ⟨wo.heap.size + 1, 2, none⟩) hs).trans (fz 2); have e0 := (hb.cell (p := ⟨wo.heap.size, 0, none⟩) (Nat.lt_of_succ_lt hs)).trans c0; have e1 := (hb.cell (p := ⟨wo.heap.size, 1, none⟩) (Nat.lt_of_succ_lt hs)).trans c1; have e2 := (hb.cell (p := ⟨wo.heap.size, 2, none⟩) (Nat.lt_of_succ_lt hs)).trans c2; have hbz := hb; clear hb) | (go_at_call 52; refine (CW.out _).mono ?_; rintro e w' ⟨rfl, rfl⟩))
    go_light
    refine bodyPost_ret (v := .tuple #[.agg #[.int .i64 0, .int .i64 0, .slice none 0 0], .bool false]) ?_ rfl (RetCB.no (l := 0) (s := 0) (g := 0) (Below.set3 hB (Nat.le_succ _) _ _ _))
    simp [results, Try.results38, go_sem, *]
  have hbb := (show 0 ≤ cabin ∧ cabin ≤ (n : Int) - 1 by simpa [inr] using hb)
  obtain ⟨j, rfl⟩ : ∃ j : Nat, cabin = (j : Int) := ⟨cabin.toNat, by omega⟩
  have hj : j < n := by omega
  have hok : remOk l s zs j = true := by unfold remOk; rw [hl.out, hb, hg]; rfl
  rw [show remV l s zs j = butZ zs j by simp [remV, hok], show remL l s zs j = l by simp [remL, hok], show remS l s zs j = s by simp [remS, hok], hok]
  obtain ⟨b, off, _, rfl, _⟩ := h.at1 hj
  have u1 : IntKind.i64.wrap ((j : Int) + 1) = (j : Int) + 1 := IntWalk.i64_in _ (by omega)
  have u2 : (0 : Int) ≤ (j : Int) + 1 := by omega
  have u3 : ((j : Int) + 1).toNat = j + 1 := by omega
  have u4 : (j : Int) + 1 ≤ (n : Int) := by omega
  have u5 : (n : Int) ≤ (c : Int) := by omega
  have u6 : (0 : Int) ≤ (j : Int) := by omega
  have u7 : (j : Int) ≤ (n : Int) := by omega
  have u8 : (j : Int) ≤ (c : Int) := by omega
  have ht := takeZ hr (k := j) (by omega)
  obtain ⟨A2, hA2, hd⟩ := cutZ_addr (c := c) hr (k := j + 1) (by omega) hnc
  by_cases hcj : c = j + 1
  all_goals (first | rw [if_pos hcj] at hA2 | rw [if_neg hcj] at hA2)
  all_goals subst hA2
  all_goals have HC := Lib.hid hcj
  all_goals clear hcj ci hg cw hb hbb hok
  all_goals (go_enter Try.func38, Try.ntmps38)
  all_goals go_wp2_with fail
  all_goals generalize (wo.alloc (.cells #[.int .i64 l, .int .i64 s, .slice (some ⟨b, off, none⟩) n c] 27)).alloc (.cells #[.int .i64 0, .int .i64 0, .slice none 0 0] 27) = w at *
  all_goals go_wp2_with (first | (go_at_call 49; refine (CI.out _ hr).mono ?_; rintro e w' ⟨rfl, hb⟩; have hB : Below wo.heap.size wo w' := Below.thenn hWV hb (by omega); have hs' := Nat.lt_of_lt_of_le hs hb.size; have d0 := (hb.cell (p := ⟨wo.heap.size + 1, 0, none⟩) hs).trans z0; have d1 := (hb.cell (p := ⟨wo.heap.size + 1, 1, none⟩) hs).trans z1; have d2 := (hb.cell (p := ⟨wo.heap.size + 1, 2, none⟩) hs).trans z2; have k0 := (hb.frozen (p := ⟨wo.heap.size + 1, 0, none⟩) hs).trans (fz 0); have k1 := (hb.frozen (p := ⟨wo.heap.size + 1, 1, none⟩) hs).trans (fz 1); have k2 := (hb.frozen (p := ⟨wo.heap.size + 1, 2, none⟩) hs).trans (fz 2); have e0 := (hb.cell (p := ⟨wo.heap.size, 0, none⟩) (Nat.lt_of_succ_lt hs)).trans c0; have e1 := (hb.cell (p := ⟨wo.heap.size, 1, none⟩) (Nat.lt_of_succ_lt hs)).trans c1; have e2 := (hb.cell (p := ⟨wo.heap.size, 2, none⟩) (Nat.lt_of_succ_lt hs)).trans c2; have hbz := hb; clear hb) | (go_at_call 52; refine (CW.out _).mono ?_; rintro e w' ⟨rfl, rfl⟩))
  all_goals obtain ⟨w1, rfl⟩ : ∃ w1, w1 = w' := ⟨_, rfl⟩
  all_goals (try replace ht := ht.below hbz)
  all_goals replace hd := hd.below hbz
  all_goals have hs1 := hs'
  all_goals (try clear hc hf)
  all_goals clear hbz c0 c1 c2 z0 z1 z2 fz hr
  all_goals have hcj := HC.out
  all_goals (try subst hcj)
  · have w9 : (j : Int) ≤ (j : Int) + 1 := by omega
    have w10 : j ≤ j + 1 := by omega
    replace hd : Rd w1 1 (some ⟨b, off, none⟩) 0 (IV (zs.drop (j + 1))) := by have := hd; rwa [show n - (j + 1) = 0 by omega] at this
    go_region_held3 (fun w' => w'.cell? ⟨wo.heap.size, 0, none⟩ = some (.int .i64 l) ∧ w'.cell? ⟨wo.heap.size, 1, none⟩ = some (.int .i64 s) ∧ w'.cell? ⟨wo.heap.size, 2, none⟩ = some (.slice (some ⟨b, off, none⟩) n (j + 1))) (first | exact ⟨e0, e1, e2⟩ | exact ⟨(far3 _ (Nat.ne_of_lt (Nat.lt_succ_self _)) _ _ _).trans e0, (far3 _ (Nat.ne_of_lt (Nat.lt_succ_self _)) _ _ _).trans e1, (far3 _ (Nat.ne_of_lt (Nat.lt_succ_self _)) _ _ _).trans e2⟩)
      (first | (go_at_call 65; refine (own_but _ _ _ j zs _ (ht.below (by first | exact Below.refl _ _ | exact Below.drew (Below.refl _ _))) (by omega)).mono ?_; rintro e wa ⟨Aa, ca, rfl, hoa, hba⟩; have hBa : Below w1.heap.size w1 wa := Below.thenn (by first | exact Below.refl _ _ | exact Below.drew (Below.refl _ _)) hba (by simp); have HOa := Lib.hid (Ow.base (B' := w1.heap.size) hoa (by simp)); have e0 := (hBa.cell (p := ⟨wo.heap.size, 0, none⟩) (Nat.lt_of_succ_lt hs1)).trans e0; have e1 := (hBa.cell (p := ⟨wo.heap.size, 1, none⟩) (Nat.lt_of_succ_lt hs1)).trans e1; have e2 := (hBa.cell (p := ⟨wo.heap.size, 2, none⟩) (Nat.lt_of_succ_lt hs1)).trans e2; have d0 := (hBa.cell (p := ⟨wo.heap.size + 1, 0, none⟩) hs1).trans d0; have d1 := (hBa.cell (p := ⟨wo.heap.size + 1, 1, none⟩) hs1).trans d1; have d2 := (hBa.cell (p := ⟨wo.heap.size + 1, 2, none⟩) hs1).trans d2; have k0 := (hBa.frozen (p := ⟨wo.heap.size + 1, 0, none⟩) hs1).trans k0; have k1 := (hBa.frozen (p := ⟨wo.heap.size + 1, 1, none⟩) hs1).trans k1; have k2 := (hBa.frozen (p := ⟨wo.heap.size + 1, 2, none⟩) hs1).trans k2; have hsa := Nat.lt_of_lt_of_le hs1 hBa.size; have hda := hd.below hBa; clear hba hoa) | (refine step_app_but rfl (.tmp 24) (.tmp 29) rfl wa w1.heap.size _ zs j rfl HOa.out _ _ _ rfl hda (by simp; have := hl.out; omega) hBa.size ?_; intro A3 c3 w3 ho3 hb3; have HO3 := Lib.hid ho3; have hB3 : Below w1.heap.size w1 w3 := hBa.trans hb3; have e0 := (hb3.cell (p := ⟨wo.heap.size, 0, none⟩) (Nat.lt_of_succ_lt hs1)).trans e0; have e1 := (hb3.cell (p := ⟨wo.heap.size, 1, none⟩) (Nat.lt_of_succ_lt hs1)).trans e1; have e2 := (hb3.cell (p := ⟨wo.heap.size, 2, none⟩) (Nat.lt_of_succ_lt hs1)).trans e2; have d0 := (hb3.cell (p := ⟨wo.heap.size + 1, 0, none⟩) hs1).trans d0; have d1 := (hb3.cell (p := ⟨wo.heap.size + 1, 1, none⟩) hs1).trans d1; have d2 := (hb3.cell (p := ⟨wo.heap.size + 1, 2, none⟩) hs1).trans d2; have k0 := (hb3.frozen (p := ⟨wo.heap.size + 1, 0, none⟩) hs1).trans k0; have k1 := (hb3.frozen (p := ⟨wo.heap.size + 1, 1, none⟩) hs1).trans k1; have k2 := (hb3.frozen (p := ⟨wo.heap.size + 1, 2, none⟩) hs1).trans k2; have hs3 := Nat.lt_of_lt_of_le hs1 hB3.size; clear ho3 hb3) | (go_at_call 64; refine (spec_l8With l s _ _ _ _ _ _ (butZ zs j) _ HO3.out.rd (by unfold butZ; simp; have := hl.out; omega)).mono ?_; rintro e wq ⟨Aq, cq, rfl, hoq, hbq⟩; have hBq : Below w1.heap.size w1 wq := Below.thenn hB3 hbq hB3.size; have HOq := Lib.hid (Ow.base (B' := w1.heap.size) hoq hB3.size); have e0 := (hbq.cell (p := ⟨wo.heap.size, 0, none⟩) (Nat.lt_of_succ_lt hs3)).trans e0; have e1 := (hbq.cell (p := ⟨wo.heap.size, 1, none⟩) (Nat.lt_of_succ_lt hs3)).trans e1; have e2 := (hbq.cell (p := ⟨wo.heap.size, 2, none⟩) (Nat.lt_of_succ_lt hs3)).trans e2; have d0 := (hbq.cell (p := ⟨wo.heap.size + 1, 0, none⟩) hs3).trans d0; have d1 := (hbq.cell (p := ⟨wo.heap.size + 1, 1, none⟩) hs3).trans d1; have d2 := (hbq.cell (p := ⟨wo.heap.size + 1, 2, none⟩) hs3).trans d2; have k0 := (hbq.frozen (p := ⟨wo.heap.size + 1, 0, none⟩) hs3).trans k0; have k1 := (hbq.frozen (p := ⟨wo.heap.size + 1, 1, none⟩) hs3).trans k1; have k2 := (hbq.frozen (p := ⟨wo.heap.size + 1, 2, none⟩) hs3).trans k2; clear hbq hoq))
    all_goals go_wp2_with fail
    all_goals go_light
    all_goals refine bodyPost_ret (v := .tuple #[.agg #[.int .i64 l, .int .i64 s, .slice Aq (butZ zs j).length cq], .bool true]) ?_ rfl ⟨Aq, cq, rfl, (HOq.out.set3 hs1 _ _ _).base (Nat.le_of_lt (Nat.lt_of_succ_lt hs1)), Below.set3 (Below.thenn hB hBq hB.size) (Nat.le_succ _) _ _ _⟩
    all_goals (clear ht hd h; simp [results, Try.results38, go_sem, *])
  · go_region_held3 (fun w' => w'.cell? ⟨wo.heap.size, 0, none⟩ = some (.int .i64 l) ∧ w'.cell? ⟨wo.heap.size, 1, none⟩ = some (.int .i64 s) ∧ w'.cell? ⟨wo.heap.size, 2, none⟩ = some (.slice (some ⟨b, off, none⟩) n c)) (first | exact ⟨e0, e1, e2⟩ | exact ⟨(far3 _ (Nat.ne_of_lt (Nat.lt_succ_self _)) _ _ _).trans e0, (far3 _ (Nat.ne_of_lt (Nat.lt_succ_self _)) _ _ _).trans e1, (far3 _ (Nat.ne_of_lt (Nat.lt_succ_self _)) _ _ _).trans e2⟩)
      (first | (go_at_call 65; refine (own_but _ _ _ j zs _ (ht.below (by first | exact Below.refl _ _ | exact Below.drew (Below.refl _ _))) (by omega)).mono ?_; rintro e wa ⟨Aa, ca, rfl, hoa, hba⟩; have hBa : Below w1.heap.size w1 wa := Below.thenn (by first | exact Below.refl _ _ | exact Below.drew (Below.refl _ _)) hba (by simp); have HOa := Lib.hid (Ow.base (B' := w1.heap.size) hoa (by simp)); have e0 := (hBa.cell (p := ⟨wo.heap.size, 0, none⟩) (Nat.lt_of_succ_lt hs1)).trans e0; have e1 := (hBa.cell (p := ⟨wo.heap.size, 1, none⟩) (Nat.lt_of_succ_lt hs1)).trans e1; have e2 := (hBa.cell (p := ⟨wo.heap.size, 2, none⟩) (Nat.lt_of_succ_lt hs1)).trans e2; have d0 := (hBa.cell (p := ⟨wo.heap.size + 1, 0, none⟩) hs1).trans d0; have d1 := (hBa.cell (p := ⟨wo.heap.size + 1, 1, none⟩) hs1).trans d1; have d2 := (hBa.cell (p := ⟨wo.heap.size + 1, 2, none⟩) hs1).trans d2; have k0 := (hBa.frozen (p := ⟨wo.heap.size + 1, 0, none⟩) hs1).trans k0; have k1 := (hBa.frozen (p := ⟨wo.heap.size + 1, 1, none⟩) hs1).trans k1; have k2 := (hBa.frozen (p := ⟨wo.heap.size + 1, 2, none⟩) hs1).trans k2; have hsa := Nat.lt_of_lt_of_le hs1 hBa.size; have hda := hd.below hBa; clear hba hoa) | (refine step_app_but rfl (.tmp 24) (.tmp 29) rfl wa w1.heap.size _ zs j rfl HOa.out _ _ _ rfl hda (by simp; have := hl.out; omega) hBa.size ?_; intro A3 c3 w3 ho3 hb3; have HO3 := Lib.hid ho3; have hB3 : Below w1.heap.size w1 w3 := hBa.trans hb3; have e0 := (hb3.cell (p := ⟨wo.heap.size, 0, none⟩) (Nat.lt_of_succ_lt hs1)).trans e0; have e1 := (hb3.cell (p := ⟨wo.heap.size, 1, none⟩) (Nat.lt_of_succ_lt hs1)).trans e1; have e2 := (hb3.cell (p := ⟨wo.heap.size, 2, none⟩) (Nat.lt_of_succ_lt hs1)).trans e2; have d0 := (hb3.cell (p := ⟨wo.heap.size + 1, 0, none⟩) hs1).trans d0; have d1 := (hb3.cell (p := ⟨wo.heap.size + 1, 1, none⟩) hs1).trans d1; have d2 := (hb3.cell (p := ⟨wo.heap.size + 1, 2, none⟩) hs1).trans d2; have k0 := (hb3.frozen (p := ⟨wo.heap.size + 1, 0, none⟩) hs1).trans k0; have k1 := (hb3.frozen (p := ⟨wo.heap.size + 1, 1, none⟩) hs1).trans k1; have k2 := (hb3.frozen (p := ⟨wo.heap.size + 1, 2, none⟩) hs1).trans k2; have hs3 := Nat.lt_of_lt_of_le hs1 hB3.size; clear ho3 hb3) | (go_at_call 64; refine (spec_l8With l s _ _ _ _ _ _ (butZ zs j) _ HO3.out.rd (by unfold butZ; simp; have := hl.out; omega)).mono ?_; rintro e wq ⟨Aq, cq, rfl, hoq, hbq⟩; have hBq : Below w1.heap.size w1 wq := Below.thenn hB3 hbq hB3.size; have HOq := Lib.hid (Ow.base (B' := w1.heap.size) hoq hB3.size); have e0 := (hbq.cell (p := ⟨wo.heap.size, 0, none⟩) (Nat.lt_of_succ_lt hs3)).trans e0; have e1 := (hbq.cell (p := ⟨wo.heap.size, 1, none⟩) (Nat.lt_of_succ_lt hs3)).trans e1; have e2 := (hbq.cell (p := ⟨wo.heap.size, 2, none⟩) (Nat.lt_of_succ_lt hs3)).trans e2; have d0 := (hbq.cell (p := ⟨wo.heap.size + 1, 0, none⟩) hs3).trans d0; have d1 := (hbq.cell (p := ⟨wo.heap.size + 1, 1, none⟩) hs3).trans d1; have d2 := (hbq.cell (p := ⟨wo.heap.size + 1, 2, none⟩) hs3).trans d2; have k0 := (hbq.frozen (p := ⟨wo.heap.size + 1, 0, none⟩) hs3).trans k0; have k1 := (hbq.frozen (p := ⟨wo.heap.size + 1, 1, none⟩) hs3).trans k1; have k2 := (hbq.frozen (p := ⟨wo.heap.size + 1, 2, none⟩) hs3).trans k2; clear hbq hoq))
    all_goals go_wp2_with fail
    all_goals go_light
    all_goals refine bodyPost_ret (v := .tuple #[.agg #[.int .i64 l, .int .i64 s, .slice Aq (butZ zs j).length cq], .bool true]) ?_ rfl ⟨Aq, cq, rfl, (HOq.out.set3 hs1 _ _ _).base (Nat.le_of_lt (Nat.lt_of_succ_lt hs1)), Below.set3 (Below.thenn hB hBq hB.size) (Nat.le_succ _) _ _ _⟩
    all_goals (clear ht hd h; simp [results, Try.results38, go_sem, *])
end Go.Proofs.Ytidjgbonlejhhaa
