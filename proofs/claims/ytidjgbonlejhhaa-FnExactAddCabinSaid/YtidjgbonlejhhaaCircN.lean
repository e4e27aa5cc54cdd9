/- The circle: a cabin is removed, the program's. -/
import Derived.Test.YtidjgbonlejhhaaCircM
import Derived.Test.YtidjgbonlejhhaaConcat
import Derived.Deep.RegionHeld3
namespace Go.Proofs.Ytidjgbonlejhhaa
open Go.RowKit
set_option linter.unusedVariables false
set_option linter.unusedSimpArgs false

def remOk (l s : Int) (zs : List Int) (cabin : Int) : Bool := circOk l s zs && inr cabin 0 ((zs.length : Int) - 1)
def butZ (zs : List Int) (j : Nat) : List Int := zs.take j ++ zs.drop (j + 1)
def remV (l s : Int) (zs : List Int) (cabin : Int) : List Int := if remOk l s zs cabin then butZ zs cabin.toNat else []
def remL (l s : Int) (zs : List Int) (cabin : Int) : Int := if remOk l s zs cabin then l else 0
def remS (l s : Int) (zs : List Int) (cabin : Int) : Int := if remOk l s zs cabin then s else 0
theorem remV_len {l s : Int} {zs : List Int} {cabin : Int} (h : zs.length ≤ 1048576) : (remV l s zs cabin).length ≤ 1048576 := by
  unfold remV butZ; split <;> simp <;> omega
theorem cutZ_addr {w : World} {n c k b off : Nat} {zs : List Int} (h : Rd w 1 (some ⟨b, off, none⟩) n (IV zs)) (hk : k ≤ n) (hc : n ≤ c) : ∃ A2, (if c = k then some (⟨b, off, none⟩ : Addr) else some ⟨b, off + k, none⟩) = A2 ∧ Rd w 1 A2 (n - k) (IV (zs.drop k)) := by
  refine ⟨_, rfl, ?_⟩
  have := h.cut hk hc
  rw [show IV (zs.drop k) = (IV zs).drop k from List.map_drop]
  simpa [Addr.add_lit] using this
theorem takeZ {w : World} {n k : Nat} {A : Option Addr} {zs : List Int} (h : Rd w 1 A n (IV zs)) (hk : k ≤ n) : Rd w 1 A k (IV (zs.take k)) := by
  have := h.take hk
  rw [show IV (zs.take k) = (IV zs).take k from List.map_take]
  simpa using this
theorem concat_butZ (g : Nat) (A A' : Option Addr) (n c n' c' j : Nat) (zs : List Int) (w : World) (hc0 : w.cell? ⟨g, 0, none⟩ = some (.slice A n c)) (hc1 : w.cell? ⟨g, 1, none⟩ = some (.slice A' n' c'))
    (h : Rd w 1 A n (IV (zs.take j))) (h' : Rd w 1 A' n' (IV (zs.drop (j + 1)))) (hn : n ≤ 1048576) (hn' : n' ≤ 1048576) :
    Calls Try.prog 66 #[.slice (some ⟨g, 0, none⟩) 2 2] w (RetS w (butZ zs j)) := slices_Concat g A A' n c n' c' (zs.take j) (zs.drop (j + 1)) w hc0 hc1 h h' hn hn'
theorem far3 (w : World) {g b o : Nat} (h : b ≠ g) (u0 u1 u2 : Value) : (((w.setCell ⟨g, 0, none⟩ u0).setCell ⟨g, 1, none⟩ u1).setCell ⟨g, 2, none⟩ u2).cell? ⟨b, o, none⟩ = w.cell? ⟨b, o, none⟩ := by
  rw [World.cell?_setCell_other _ _ _ _ (fun e => by first | exact h (congrArg Addr.block e) | exact h (congrArg Addr.block e).symm), World.cell?_setCell_other _ _ _ _ (fun e => by first | exact h (congrArg Addr.block e) | exact h (congrArg Addr.block e).symm), World.cell?_setCell_other _ _ _ _ (fun e => by first | exact h (congrArg Addr.block e) | exact h (congrArg Addr.block e).symm)]
theorem pair_cell (w : World) (t : TypeId) (X Y : Value) : (w.alloc (.cells #[X, Y] t)).drew.cell? ⟨w.heap.size, 0, none⟩ = some X ∧ (w.alloc (.cells #[X, Y] t)).drew.cell? ⟨w.heap.size, 1, none⟩ = some Y :=
  ⟨by show (w.alloc _).cell? _ = _; rw [cell_of_row _ _ _ _ _ _ (heap_alloc_new w _)]; rfl, by show (w.alloc _).cell? _ = _; rw [cell_of_row _ _ _ _ _ _ (heap_alloc_new w _)]; rfl⟩
theorem Below.set3 {B : Nat} {a w : World} {g : Nat} (h : Below B a w) (hg : B ≤ g) (b0 b1 b2 : Value) : Below B a (((w.setCell ⟨g, 0, none⟩ b0).setCell ⟨g, 1, none⟩ b1).setCell ⟨g, 2, none⟩ b2) :=
  ((h.setCell (p := ⟨g, 0, none⟩) hg _).setCell (p := ⟨g, 1, none⟩) hg _).setCell (p := ⟨g, 2, none⟩) hg _
theorem Ow.set3 {w : World} {B g : Nat} {v : Value} {zs : List Int} (h : Ow w B v zs) (hg : g < B) (b0 b1 b2 : Value) : Ow (((w.setCell ⟨g, 0, none⟩ b0).setCell ⟨g, 1, none⟩ b1).setCell ⟨g, 2, none⟩ b2) B v zs :=
  ((h.set_ (p := ⟨g, 0, none⟩) hg _).set_ (p := ⟨g, 1, none⟩) hg _).set_ (p := ⟨g, 2, none⟩) hg _
/-- The box of a circle that came in, and the box of the result. -/
theorem two_boxes (wo : World) (x0 x1 x2 y0 y1 y2 : Value) (t : TypeId) :
    let w := (wo.alloc (.cells #[x0, x1, x2] t)).alloc (.cells #[y0, y1, y2] t)
    Below wo.heap.size wo w ∧ wo.heap.size + 1 < w.heap.size ∧ (w.cell? ⟨wo.heap.size, 0, none⟩ = some x0 ∧ w.cell? ⟨wo.heap.size, 1, none⟩ = some x1 ∧ w.cell? ⟨wo.heap.size, 2, none⟩ = some x2) ∧
      (w.cell? ⟨wo.heap.size + 1, 0, none⟩ = some y0 ∧ w.cell? ⟨wo.heap.size + 1, 1, none⟩ = some y1 ∧ w.cell? ⟨wo.heap.size + 1, 2, none⟩ = some y2) ∧ (∀ i, w.frozen? ⟨wo.heap.size + 1, i, none⟩ = false) := by
  intro w
  have c : ∀ i, w.cell? ⟨wo.heap.size, i, none⟩ = #[x0, x1, x2][i]? := fun i => by
    show ((wo.alloc _).alloc _).cell? _ = _
    rw [World.cell?_alloc_lt _ _ _ (by simp), cell_of_row _ _ _ _ _ _ (heap_alloc_new wo _)]
  have hb : Blk w (wo.heap.size + 1) t #[y0, y1, y2] := by
    have := Blk.new (wo.alloc (.cells #[x0, x1, x2] t)) t #[y0, y1, y2]
    simpa using this
  exact ⟨((Below.refl _ _).alloc (Nat.le_refl _) _).alloc (by simp) _, by simp [w], ⟨c 0, c 1, c 2⟩, ⟨hb.cell 0, hb.cell 1, hb.cell 2⟩, fun i => hb.frozen i⟩
theorem RetCB.no {wo w : World} {l s : Int} {g : Nat} (hb : Below wo.heap.size wo w) : RetCB wo 0 0 [] false (.returned (.tuple #[.agg #[.int .i64 0, .int .i64 0, .slice none 0 0], .bool false])) w := ⟨none, 0, rfl, Ow.nil _ _, hb⟩
set_option maxRecDepth 100000 in
set_option maxHeartbeats 4000000 in
theorem impl_RemoveCabin (l s : Int) (A : Option Addr) (n c : Nat) (zs : List Int) (cabin : Int) (wo : World) (h : Rd wo 1 A n (IV zs)) (hm : n ≤ 1048576) (hnc : n ≤ c) (hcm : c ≤ 9223372036854775807) :
    Calls Try.prog 39 #[.agg #[.int .i64 l, .int .i64 s, .slice A n c], .int .i64 cabin] wo (RetCB wo (remL l s zs cabin) (remS l s zs cabin) (remV l s zs cabin) (remOk l s zs cabin)) := by
  have hl := Lib.hid h.len
  have ci := fun w' (h' : Rd w' 1 A n (IV zs)) => impl_IsCircle l s A n c zs w' h' (by omega)
  obtain ⟨hWV, hs, ⟨c0, c1, c2⟩, ⟨z0, z1, z2⟩, fz⟩ := two_boxes wo (.int .i64 l) (.int .i64 s) (.slice A n c) (.int .i64 0) (.int .i64 0) (.slice none 0 0) 27
  have hr := h.below hWV
  have hn0 : (0 : Int) ≤ (n : Int) := by omega
  rcases hg : circOk l s zs with _ | _
  all_goals rw [hg] at ci
  all_goals have CI := Lib.hid ci
  · rw [show remV l s zs cabin = [] by simp [remV, remOk, hg], show remL l s zs cabin = 0 by simp [remL, remOk, hg], show remS l s zs cabin = 0 by simp [remS, remOk, hg], show remOk l s zs cabin = false by simp [remOk, hg]]
    clear ci hg
    go_enter Try.func39, Try.ntmps39
    go_wp2_with fail
    generalize (wo.alloc (.cells #[.int .i64 l, .int .i64 s, .slice A n c] 27)).alloc (.cells #[.int .i64 0, .int .i64 0, .slice none 0 0] 27) = w at *
    go_wp2_with (go_at_call 17; refine (CI.out _ hr).mono ?_; rintro e w' ⟨rfl, hb⟩; have hB : Below wo.heap.size wo w' := Below.thenn hWV hb (by omega); have hs' := Nat.lt_of_lt_of_le hs hb.size; have d0 := (hb.cell (p := ⟨wo.heap.size + 1, 0, none⟩) hs).trans z0; have d1 := (hb.cell (p := ⟨wo.heap.size + 1, 1, none⟩) hs).trans z1; have d2 := (hb.cell (p := ⟨wo.heap.size + 1, 2, none⟩) hs).trans z2; have k0 := (hb.frozen (p := ⟨wo.heap.size + 1, 0, none⟩) hs).trans (fz 0); have k1 := (hb.frozen (p := ⟨wo.heap.size + 1, 1, none⟩) hs).trans (fz 1); have k2 := (hb.frozen (p := ⟨wo.heap.size + 1, 2, none⟩) hs).trans (fz 2); have e0 := (hb.cell (p := ⟨wo.heap.size, 0, none⟩) (Nat.lt_of_succ_lt hs)).trans c0; have e1 := (hb.cell (p := ⟨wo.heap.size, 1, none⟩) (Nat.lt_of_succ_lt hs)).trans c1; have e2 := (hb.cell (p := ⟨wo.heap.size, 2, none⟩) (Nat.lt_of_succ_lt hs)).trans c2; clear hb)
    go_light
    refine bodyPost_ret (v := .tuple #[.agg #[.int .i64 0, .int .i64 0, .slice none 0 0], .bool false]) ?_ rfl (RetCB.no (l := 0) (s := 0) (g := 0) (Below.set3 hB (Nat.le_succ _) _ _ _))
    simp [results, Try.results39, go_sem, *]
  have cw := fun w' => impl_within cabin 0 ((n : Int) - 1) w'
  rcases hb : inr cabin 0 ((n : Int) - 1) with _ | _
  all_goals rw [hb] at cw
  all_goals have CW := Lib.hid cw
  · have hok : remOk l s zs cabin = false := by unfold remOk; rw [hl.out, hb]; simp
    rw [show remV l s zs cabin = [] by simp [remV, hok], show remL l s zs cabin = 0 by simp [remL, hok], show remS l s zs cabin = 0 by simp [remS, hok], hok]
    clear ci hg cw hb hok
    go_enter Try.func39, Try.ntmps39
    go_wp2_with fail
    generalize (wo.alloc (.cells #[.int .i64 l, .int .i64 s, .slice A n c] 27)).alloc (.cells #[.int .i64 0, .int .i64 0, .slice none 0 0] 27) = w at *
    go_wp2_with (first | (go_at_call 17; refine (CI.out _ hr).mono ?_; rintro e w' ⟨rfl, hb⟩; have hB : Below wo.heap.size wo w' := Below.thenn hWV hb (by omega); have hs' := Nat.lt_of_lt_of_le hs hb.size; have d0 := (hb.cell (p := ⟨wo.heap.size + 1, 0, none⟩) hs).trans z0; have d1 := (hb.cell (p := ⟨wo.heap.size + 1, 1, none⟩) hs).trans z1; have d2 := (hb.cell (p := ⟨wo.heap.size + 1, 2, none⟩) hs).trans z2; have k0 := (hb.frozen (p := ⟨wo.heap.size + 1, 0, none⟩) hs).trans (fz 0); have k1 := (hb.frozen (p := ⟨wo.heap.size + 1, 1, none⟩) hs).trans (fz 1); have k2 := (hb.frozen (p := ⟨wo.heap.size + 1, 2, none⟩) hs).trans (fz 2); have e0 := (hb.cell (p := ⟨wo.heap.size, 0, none⟩) (Nat.lt_of_succ_lt hs)).trans c0; have e1 := (hb.cell (p := ⟨wo.heap.size, 1, none⟩) (Nat.lt_of_succ_lt hs)).trans c1; have e2 := (hb.cell (p := ⟨wo.heap.size, 2, none⟩) (Nat.lt_of_succ_lt hs)).trans c2; have hbz := hb; clear hb) | (go_at_call 51; refine (CW.out _).mono ?_; rintro e w' ⟨rfl, rfl⟩))
    go_light
    refine bodyPost_ret (v := .tuple #[.agg #[.int .i64 0, .int .i64 0, .slice none 0 0], .bool false]) ?_ rfl (RetCB.no (l := 0) (s := 0) (g := 0) (Below.set3 hB (Nat.le_succ _) _ _ _))
    simp [results, Try.results39, go_sem, *]
  have hbb := (show 0 ≤ cabin ∧ cabin ≤ (n : Int) - 1 by simpa [inr] using hb)
  obtain ⟨j, rfl⟩ : ∃ j : Nat, cabin = (j : Int) := ⟨cabin.toNat, by omega⟩
  have hj : j < n := by omega
  have hok : remOk l s zs j = true := by unfold remOk; rw [hl.out, hb, hg]; rfl
  rw [show remV l s zs j = butZ zs j by simp [remV, hok], show remL l s zs j = l by simp [remL, hok], show remS l s zs j = s by simp [remS, hok], hok]
  obtain ⟨b, off, _, rfl, _⟩ := h.at1 hj
  have u1 : IntKind.i64.wrap ((j : Int) + 1) = (j : Int) + 1 := IntWalk.i64_in _ (by omega)
  have u2 : (0 : Int) ≤ (j : Int) + 1 := by omega
  have u3 : ((j : Int) + 1).toNat = j + 1 := by omega
  have u4 : (j : Int) + 1 ≤ (n : Int) := by omega
  have u5 : (n : Int) ≤ (c : Int) := by omega
  have u6 : (0 : Int) ≤ (j : Int) := by omega
  have u7 : (j : Int) ≤ (n : Int) := by omega
  have u8 : (j : Int) ≤ (c : Int) := by omega
  have ht := takeZ hr (k := j) (by omega)
  obtain ⟨A2, hA2, hd⟩ := cutZ_addr (c := c) hr (k := j + 1) (by omega) hnc
  by_cases hcj : c = j + 1
  all_goals (first | rw [if_pos hcj] at hA2 | rw [if_neg hcj] at hA2)
  all_goals subst hA2
  all_goals have HC := Lib.hid hcj
  all_goals clear hcj ci hg cw hb hbb hok
  all_goals (go_enter Try.func39, Try.ntmps39)
  all_goals go_wp2_with fail
  all_goals generalize (wo.alloc (.cells #[.int .i64 l, .int .i64 s, .slice (some ⟨b, off, none⟩) n c] 27)).alloc (.cells #[.int .i64 0, .int .i64 0, .slice none 0 0] 27) = w at *
  all_goals go_wp2_with (first | (go_at_call 17; refine (CI.out _ hr).mono ?_; rintro e w' ⟨rfl, hb⟩; have hB : Below wo.heap.size wo w' := Below.thenn hWV hb (by omega); have hs' := Nat.lt_of_lt_of_le hs hb.size; have d0 := (hb.cell (p := ⟨wo.heap.size + 1, 0, none⟩) hs).trans z0; have d1 := (hb.cell (p := ⟨wo.heap.size + 1, 1, none⟩) hs).trans z1; have d2 := (hb.cell (p := ⟨wo.heap.size + 1, 2, none⟩) hs).trans z2; have k0 := (hb.frozen (p := ⟨wo.heap.size + 1, 0, none⟩) hs).trans (fz 0); have k1 := (hb.frozen (p := ⟨wo.heap.size + 1, 1, none⟩) hs).trans (fz 1); have k2 := (hb.frozen (p := ⟨wo.heap.size + 1, 2, none⟩) hs).trans (fz 2); have e0 := (hb.cell (p := ⟨wo.heap.size, 0, none⟩) (Nat.lt_of_succ_lt hs)).trans c0; have e1 := (hb.cell (p := ⟨wo.heap.size, 1, none⟩) (Nat.lt_of_succ_lt hs)).trans c1; have e2 := (hb.cell (p := ⟨wo.heap.size, 2, none⟩) (Nat.lt_of_succ_lt hs)).trans c2; have hbz := hb; clear hb) | (go_at_call 51; refine (CW.out _).mono ?_; rintro e w' ⟨rfl, rfl⟩))
  all_goals obtain ⟨w1, rfl⟩ : ∃ w1, w1 = w' := ⟨_, rfl⟩
  all_goals (try replace ht := ht.below hbz)
  all_goals replace hd := hd.below hbz
  all_goals have hs1 := hs'
  all_goals (try clear hc hf)
  all_goals clear hbz c0 c1 c2 z0 z1 z2 fz hr
  all_goals have hcj := HC.out
  all_goals (try subst hcj)
  · have w9 : (j : Int) ≤ (j : Int) + 1 := by omega
    have w10 : j ≤ j + 1 := by omega
    replace hd : Rd w1 1 (some ⟨b, off, none⟩) 0 (IV (zs.drop (j + 1))) := by have := hd; rwa [show n - (j + 1) = 0 by omega] at this
    go_region_held3 (fun w' => w'.cell? ⟨wo.heap.size, 0, none⟩ = some (.int .i64 l) ∧ w'.cell? ⟨wo.heap.size, 1, none⟩ = some (.int .i64 s) ∧ w'.cell? ⟨wo.heap.size, 2, none⟩ = some (.slice (some ⟨b, off, none⟩) n (j + 1))) (first | exact ⟨e0, e1, e2⟩ | exact ⟨(World.cell?_alloc_lt _ _ _ (Nat.lt_of_succ_lt hs1)).trans e0, (World.cell?_alloc_lt _ _ _ (Nat.lt_of_succ_lt hs1)).trans e1, (World.cell?_alloc_lt _ _ _ (Nat.lt_of_succ_lt hs1)).trans e2⟩ | exact ⟨(hBq.cell (p := ⟨wo.heap.size, 0, none⟩) (Nat.lt_of_succ_lt hs1)).trans e0, (hBq.cell (p := ⟨wo.heap.size, 1, none⟩) (Nat.lt_of_succ_lt hs1)).trans e1, (hBq.cell (p := ⟨wo.heap.size, 2, none⟩) (Nat.lt_of_succ_lt hs1)).trans e2⟩ | exact ⟨(far3 _ (Nat.ne_of_lt (Nat.lt_succ_self _)) _ _ _).trans ((hBq.cell (p := ⟨wo.heap.size, 0, none⟩) (Nat.lt_of_succ_lt hs1)).trans e0), (far3 _ (Nat.ne_of_lt (Nat.lt_succ_self _)) _ _ _).trans ((hBq.cell (p := ⟨wo.heap.size, 1, none⟩) (Nat.lt_of_succ_lt hs1)).trans e1), (far3 _ (Nat.ne_of_lt (Nat.lt_succ_self _)) _ _ _).trans ((hBq.cell (p := ⟨wo.heap.size, 2, none⟩) (Nat.lt_of_succ_lt hs1)).trans e2)⟩)
      ((go_at_call 66; refine (concat_butZ w1.heap.size _ _ _ _ _ _ j zs _ (pair_cell _ _ _ _).1 (pair_cell _ _ _ _).2 (ht.below (((Below.refl _ _).alloc (Nat.le_refl _) _).drew)) (hd.below (((Below.refl _ _).alloc (Nat.le_refl _) _).drew)) (by omega) (by omega)).mono ?_; rintro e wq ⟨Aq, cq, rfl, hoq, hbq⟩; have hBq : Below w1.heap.size w1 wq := Below.thenn (((Below.refl _ _).alloc (Nat.le_refl _) _).drew) hbq (by simp); have HOq := Lib.hid (Ow.base (B' := w1.heap.size) hoq (by simp)); have hzq : w1.heap.size ≤ wq.heap.size := hBq.size; have g0 := (hBq.cell (p := ⟨wo.heap.size + 1, 0, none⟩) hs1).trans d0; have g1 := (hBq.cell (p := ⟨wo.heap.size + 1, 1, none⟩) hs1).trans d1; have g2 := (hBq.cell (p := ⟨wo.heap.size + 1, 2, none⟩) hs1).trans d2; have q0 := (hBq.frozen (p := ⟨wo.heap.size + 1, 0, none⟩) hs1).trans k0; have q1 := (hBq.frozen (p := ⟨wo.heap.size + 1, 1, none⟩) hs1).trans k1; have q2 := (hBq.frozen (p := ⟨wo.heap.size + 1, 2, none⟩) hs1).trans k2; clear hbq hoq))
    all_goals go_wp2_with fail
    all_goals go_light
    all_goals refine bodyPost_ret (v := .tuple #[.agg #[.int .i64 l, .int .i64 s, .slice Aq (butZ zs j).length cq], .bool true]) ?_ rfl ⟨Aq, cq, rfl, (HOq.out.set3 hs1 _ _ _).base (Nat.le_of_lt (Nat.lt_of_succ_lt hs1)), Below.set3 (Below.thenn hB hBq hB.size) (Nat.le_succ _) _ _ _⟩
    all_goals (clear ht hd h; simp [results, Try.results39, go_sem, *])
  · go_region_held3 (fun w' => w'.cell? ⟨wo.heap.size, 0, none⟩ = some (.int .i64 l) ∧ w'.cell? ⟨wo.heap.size, 1, none⟩ = some (.int .i64 s) ∧ w'.cell? ⟨wo.heap.size, 2, none⟩ = some (.slice (some ⟨b, off, none⟩) n c)) (first | exact ⟨e0, e1, e2⟩ | exact ⟨(World.cell?_alloc_lt _ _ _ (Nat.lt_of_succ_lt hs1)).trans e0, (World.cell?_alloc_lt _ _ _ (Nat.lt_of_succ_lt hs1)).trans e1, (World.cell?_alloc_lt _ _ _ (Nat.lt_of_succ_lt hs1)).trans e2⟩ | exact ⟨(hBq.cell (p := ⟨wo.heap.size, 0, none⟩) (Nat.lt_of_succ_lt hs1)).trans e0, (hBq.cell (p := ⟨wo.heap.size, 1, none⟩) (Nat.lt_of_succ_lt hs1)).trans e1, (hBq.cell (p := ⟨wo.heap.size, 2, none⟩) (Nat.lt_of_succ_lt hs1)).trans e2⟩ | exact ⟨(far3 _ (Nat.ne_of_lt (Nat.lt_succ_self _)) _ _ _).trans ((hBq.cell (p := ⟨wo.heap.size, 0, none⟩) (Nat.lt_of_succ_lt hs1)).trans e0), (far3 _ (Nat.ne_of_lt (Nat.lt_succ_self _)) _ _ _).trans ((hBq.cell (p := ⟨wo.heap.size, 1, none⟩) (Nat.lt_of_succ_lt hs1)).trans e1), (far3 _ (Nat.ne_of_lt (Nat.lt_succ_self _)) _ _ _).trans ((hBq.cell (p := ⟨wo.heap.size, 2, none⟩) (Nat.lt_of_succ_lt hs1)).trans e2)⟩)
      ((go_at_call 66; refine (concat_butZ w1.heap.size _ _ _ _ _ _ j zs _ (pair_cell _ _ _ _).1 (pair_cell _ _ _ _).2 (ht.below (((Below.refl _ _).alloc (Nat.le_refl _) _).drew)) (hd.below (((Below.refl _ _).alloc (Nat.le_refl _) _).drew)) (by omega) (by omega)).mono ?_; rintro e wq ⟨Aq, cq, rfl, hoq, hbq⟩; have hBq : Below w1.heap.size w1 wq := Below.thenn (((Below.refl _ _).alloc (Nat.le_refl _) _).drew) hbq (by simp); have HOq := Lib.hid (Ow.base (B' := w1.heap.size) hoq (by simp)); have hzq : w1.heap.size ≤ wq.heap.size := hBq.size; have g0 := (hBq.cell (p := ⟨wo.heap.size + 1, 0, none⟩) hs1).trans d0; have g1 := (hBq.cell (p := ⟨wo.heap.size + 1, 1, none⟩) hs1).trans d1; have g2 := (hBq.cell (p := ⟨wo.heap.size + 1, 2, none⟩) hs1).trans d2; have q0 := (hBq.frozen (p := ⟨wo.heap.size + 1, 0, none⟩) hs1).trans k0; have q1 := (hBq.frozen (p := ⟨wo.heap.size + 1, 1, none⟩) hs1).trans k1; have q2 := (hBq.frozen (p := ⟨wo.heap.size + 1, 2, none⟩) hs1).trans k2; clear hbq hoq))
    all_goals go_wp2_with fail
    all_goals go_light
    all_goals refine bodyPost_ret (v := .tuple #[.agg #[.int .i64 l, .int .i64 s, .slice Aq (butZ zs j).length cq], .bool true]) ?_ rfl ⟨Aq, cq, rfl, (HOq.out.set3 hs1 _ _ _).base (Nat.le_of_lt (Nat.lt_of_succ_lt hs1)), Below.set3 (Below.thenn hB hBq hB.size) (Nat.le_succ _) _ _ _⟩
    all_goals (clear ht hd h; simp [results, Try.results39, go_sem, *])
end Go.Proofs.Ytidjgbonlejhhaa
