/- The brakes: a drive without one of its brakes. -/
import Derived.Test.YthijklidjdhkdaaBrkF
import Derived.Test.YthijklidjdhkdaaConcatB
import Derived.Test.YthijklidjdhkdaaDrvL
namespace Go.Proofs.Ythijklidjdhkdaa
open Go.RowKit
set_option linter.unusedVariables false
set_option linter.unusedSimpArgs false

def butR (rows : List (List Int)) (j : Nat) : List (List Int) := rows.take j ++ rows.drop (j + 1)
/-- s[j+1:], whatever the capacity. -/
theorem cut_addr {w : World} {n c k b off : Nat} {rows : List (List Int)} (h : RdR w 2 (some ⟨b, off, none⟩) n rows) (hk : k ≤ n) (hc : n ≤ c) : ∃ A2, (if c = k then some (⟨b, off, none⟩ : Addr) else some ⟨b, off + k * 2, none⟩) = A2 ∧ RdR w 2 A2 (n - k) (rows.drop k) := by
  refine ⟨_, rfl, ?_⟩
  have := h.cut_ hk hc
  simpa [Addr.add_lit] using this
theorem concat_but (g : Nat) (A A' : Option Addr) (n c n' c' j : Nat) (rows : List (List Int)) (w : World) (hc0 : w.cell? ⟨g, 0, none⟩ = some (.slice A n c)) (hc1 : w.cell? ⟨g, 1, none⟩ = some (.slice A' n' c'))
    (h : RdR w 2 A n (rows.take j)) (h' : RdR w 2 A' n' (rows.drop (j + 1))) (hn : n ≤ 1048577) (hn' : n' ≤ 1048577) :
    Calls Try.prog 81 #[.slice (some ⟨g, 0, none⟩) 2 2] w (RetR w 56 2 (butR rows j)) := slices_Concat_Brake g A A' n c n' c' (rows.take j) (rows.drop (j + 1)) w hc0 hc1 h h' hn hn'
theorem far3 (w : World) {g b o : Nat} (h : b ≠ g) (u0 u1 u2 : Value) : (((w.setCell ⟨g, 0, none⟩ u0).setCell ⟨g, 1, none⟩ u1).setCell ⟨g, 2, none⟩ u2).cell? ⟨b, o, none⟩ = w.cell? ⟨b, o, none⟩ := by
  rw [World.cell?_setCell_other _ _ _ _ (fun e => by first | exact h (congrArg Addr.block e) | exact h (congrArg Addr.block e).symm), World.cell?_setCell_other _ _ _ _ (fun e => by first | exact h (congrArg Addr.block e) | exact h (congrArg Addr.block e).symm), World.cell?_setCell_other _ _ _ _ (fun e => by first | exact h (congrArg Addr.block e) | exact h (congrArg Addr.block e).symm)]
theorem pair_cell (w : World) (t : TypeId) (X Y : Value) : (w.alloc (.cells #[X, Y] t)).drew.cell? ⟨w.heap.size, 0, none⟩ = some X ∧ (w.alloc (.cells #[X, Y] t)).drew.cell? ⟨w.heap.size, 1, none⟩ = some Y :=
  ⟨by show (w.alloc _).cell? _ = _; rw [cell_of_row _ _ _ _ _ _ (heap_alloc_new w _)]; rfl, by show (w.alloc _).cell? _ = _; rw [cell_of_row _ _ _ _ _ _ (heap_alloc_new w _)]; rfl⟩
set_option maxRecDepth 100000 in
set_option maxHeartbeats 2000000 in
theorem impl_without (m p : Int) (b off n c j : Nat) (rows : List (List Int)) (wo : World) (h : RdR wo 2 (some ⟨b, off, none⟩) n rows) (hj : j < n) (hnc : n ≤ c) (hcm : c ≤ 9223372036854775807) (hm : n ≤ 1048577) :
    Calls Try.prog 64 #[.agg #[.int .i64 m, .int .i64 p, .slice (some ⟨b, off, none⟩) n c], .int .i64 j] wo (RetD wo m p (butR rows j)) := by
  obtain ⟨B, hBe⟩ : ∃ B : Obj, B = .cells #[.int .i64 m, .int .i64 p, .slice (some ⟨b, off, none⟩) n c] 29 := ⟨_, rfl⟩
  obtain ⟨Z, hZe⟩ : ∃ Z : Obj, Z = .cells #[.int .i64 0, .int .i64 0, .slice none 0 0] 29 := ⟨_, rfl⟩
  have hWV : Below wo.heap.size wo ((wo.alloc B).alloc Z) := ((Below.refl _ _).alloc (Nat.le_refl _) _).alloc (by simp) _
  have hs : wo.heap.size + 1 < ((wo.alloc B).alloc Z).heap.size := by simp
  have c0 : ((wo.alloc B).alloc Z).cell? ⟨wo.heap.size, 0, none⟩ = some (.int .i64 m) := by rw [World.cell?_alloc_lt _ _ _ (by simp), hBe, cell_of_row _ _ _ _ _ _ (heap_alloc_new wo _)]; rfl
  have c1 : ((wo.alloc B).alloc Z).cell? ⟨wo.heap.size, 1, none⟩ = some (.int .i64 p) := by rw [World.cell?_alloc_lt _ _ _ (by simp), hBe, cell_of_row _ _ _ _ _ _ (heap_alloc_new wo _)]; rfl
  have c2 : ((wo.alloc B).alloc Z).cell? ⟨wo.heap.size, 2, none⟩ = some (.slice (some ⟨b, off, none⟩) n c) := by rw [World.cell?_alloc_lt _ _ _ (by simp), hBe, cell_of_row _ _ _ _ _ _ (heap_alloc_new wo _)]; rfl
  have hblk : Blk ((wo.alloc B).alloc Z) (wo.heap.size + 1) 29 #[.int .i64 0, .int .i64 0, .slice none 0 0] := by
    have := Blk.new (wo.alloc B) 29 #[.int .i64 0, .int .i64 0, .slice none 0 0]
    rw [← hZe] at this
    simpa using this
  have z0 := hblk.cell 0
  have z1 := hblk.cell 1
  have z2 := hblk.cell 2
  have f0 := hblk.frozen 0
  have f1 := hblk.frozen 1
  have f2 := hblk.frozen 2
  simp at z0 z1 z2
  have hr := h.below hWV
  have ht := hr.take_ (k := j) (by omega)
  obtain ⟨A2, hA2, hd⟩ := cut_addr (c := c) hr (k := j + 1) (by omega) hnc
  have w1 : IntKind.i64.wrap ((j : Int) + 1) = (j : Int) + 1 := IntWalk.i64_in _ (by omega)
  have w2 : (0 : Int) ≤ (j : Int) + 1 := by omega
  have w3 : ((j : Int) + 1).toNat = j + 1 := by omega
  have w4 : (j : Int) + 1 ≤ (n : Int) := by omega
  have w5 : (n : Int) ≤ (c : Int) := by omega
  have w6 : (0 : Int) ≤ (j : Int) := by omega
  have w7 : (j : Int) ≤ (n : Int) := by omega
  have w8 : (j : Int) ≤ (c : Int) := by omega
  have hwz : wo.heap.size ≤ ((wo.alloc B).alloc Z).heap.size := by omega
  by_cases hcj : c = j + 1
  all_goals (first | rw [if_pos hcj] at hA2 | rw [if_neg hcj] at hA2)
  all_goals subst hA2
  all_goals have HC := Lib.hid hcj
  all_goals clear hcj
  all_goals (go_enter Try.func64, Try.ntmps64)
  all_goals go_wp2_with fail
  all_goals rw [← hBe, ← hZe]
  all_goals generalize (wo.alloc B).alloc Z = w at *
  all_goals clear hBe hZe hblk
  all_goals have hcj := HC.out
  all_goals (try subst hcj)
  · have w9 : (j : Int) ≤ (j : Int) + 1 := by omega
    have w10 : j ≤ j + 1 := by omega
    replace hd : RdR w 2 (some ⟨b, off, none⟩) 0 (rows.drop (j + 1)) := by have := hd; rwa [show n - (j + 1) = 0 by omega] at this
    go_region_held3 (fun w' => w'.cell? ⟨wo.heap.size, 0, none⟩ = some (.int .i64 m) ∧ w'.cell? ⟨wo.heap.size, 1, none⟩ = some (.int .i64 p) ∧ w'.cell? ⟨wo.heap.size, 2, none⟩ = some (.slice (some ⟨b, off, none⟩) n (j + 1))) (first | exact ⟨c0, c1, c2⟩ | exact ⟨(World.cell?_alloc_lt _ _ _ (Nat.lt_of_succ_lt hs)).trans c0, (World.cell?_alloc_lt _ _ _ (Nat.lt_of_succ_lt hs)).trans c1, (World.cell?_alloc_lt _ _ _ (Nat.lt_of_succ_lt hs)).trans c2⟩ | exact ⟨(hBq.cell (p := ⟨wo.heap.size, 0, none⟩) (Nat.lt_of_succ_lt hs)).trans c0, (hBq.cell (p := ⟨wo.heap.size, 1, none⟩) (Nat.lt_of_succ_lt hs)).trans c1, (hBq.cell (p := ⟨wo.heap.size, 2, none⟩) (Nat.lt_of_succ_lt hs)).trans c2⟩ | exact ⟨(far3 _ (Nat.ne_of_lt (Nat.lt_succ_self _)) _ _ _).trans ((hBq.cell (p := ⟨wo.heap.size, 0, none⟩) (Nat.lt_of_succ_lt hs)).trans c0), (far3 _ (Nat.ne_of_lt (Nat.lt_succ_self _)) _ _ _).trans ((hBq.cell (p := ⟨wo.heap.size, 1, none⟩) (Nat.lt_of_succ_lt hs)).trans c1), (far3 _ (Nat.ne_of_lt (Nat.lt_succ_self _)) _ _ _).trans ((hBq.cell (p := ⟨wo.heap.size, 2, none⟩) (Nat.lt_of_succ_lt hs)).trans c2)⟩)
      ((go_at_call 81; refine (concat_but w.heap.size _ _ _ _ _ _ j rows _ (pair_cell _ _ _ _).1 (pair_cell _ _ _ _).2 (ht.below (((Below.refl _ _).alloc (Nat.le_refl _) _).drew)) (hd.below (((Below.refl _ _).alloc (Nat.le_refl _) _).drew)) (by omega) (by omega)).mono ?_; rintro e wq ⟨Aq, cq, rfl, hoq, hbq⟩; have hBq : Below w.heap.size w wq := Below.thenn (((Below.refl _ _).alloc (Nat.le_refl _) _).drew) hbq (by simp); have HOq := Lib.hid (OwR.base (B' := w.heap.size) hoq (by simp)); have hzq : w.heap.size ≤ wq.heap.size := hBq.size; have g0 := (hBq.cell (p := ⟨wo.heap.size + 1, 0, none⟩) hs).trans z0; have g1 := (hBq.cell (p := ⟨wo.heap.size + 1, 1, none⟩) hs).trans z1; have g2 := (hBq.cell (p := ⟨wo.heap.size + 1, 2, none⟩) hs).trans z2; have k0 := (hBq.frozen (p := ⟨wo.heap.size + 1, 0, none⟩) hs).trans f0; have k1 := (hBq.frozen (p := ⟨wo.heap.size + 1, 1, none⟩) hs).trans f1; have k2 := (hBq.frozen (p := ⟨wo.heap.size + 1, 2, none⟩) hs).trans f2; clear hbq hoq))
    all_goals go_wp2_with fail
    all_goals go_light
    all_goals refine bodyPost_ret (v := .agg #[.int .i64 m, .int .i64 p, .slice Aq (butR rows j).length cq]) ?_ rfl ⟨Aq, cq, rfl, ((((HOq.out.set_ (p := ⟨wo.heap.size + 1, 0, none⟩) hs _).set_ (p := ⟨wo.heap.size + 1, 1, none⟩) hs _).set_ (p := ⟨wo.heap.size + 1, 2, none⟩) hs _).base hwz), (((Below.thenn hWV hBq hwz).setCell (p := ⟨wo.heap.size + 1, 0, none⟩) (Nat.le_succ _) _).setCell (p := ⟨wo.heap.size + 1, 1, none⟩) (Nat.le_succ _) _).setCell (p := ⟨wo.heap.size + 1, 2, none⟩) (Nat.le_succ _) _⟩
    all_goals (clear ht hd hr h; simp [results, Try.results64, go_sem, *])
  · go_region_held3 (fun w' => w'.cell? ⟨wo.heap.size, 0, none⟩ = some (.int .i64 m) ∧ w'.cell? ⟨wo.heap.size, 1, none⟩ = some (.int .i64 p) ∧ w'.cell? ⟨wo.heap.size, 2, none⟩ = some (.slice (some ⟨b, off, none⟩) n c)) (first | exact ⟨c0, c1, c2⟩ | exact ⟨(World.cell?_alloc_lt _ _ _ (Nat.lt_of_succ_lt hs)).trans c0, (World.cell?_alloc_lt _ _ _ (Nat.lt_of_succ_lt hs)).trans c1, (World.cell?_alloc_lt _ _ _ (Nat.lt_of_succ_lt hs)).trans c2⟩ | exact ⟨(hBq.cell (p := ⟨wo.heap.size, 0, none⟩) (Nat.lt_of_succ_lt hs)).trans c0, (hBq.cell (p := ⟨wo.heap.size, 1, none⟩) (Nat.lt_of_succ_lt hs)).trans c1, (hBq.cell (p := ⟨wo.heap.size, 2, none⟩) (Nat.lt_of_succ_lt hs)).trans c2⟩ | exact ⟨(far3 _ (Nat.ne_of_lt (Nat.lt_succ_self _)) _ _ _).trans ((hBq.cell (p := ⟨wo.heap.size, 0, none⟩) (Nat.lt_of_succ_lt hs)).trans c0), (far3 _ (Nat.ne_of_lt (Nat.lt_succ_self _)) _ _ _).trans ((hBq.cell (p := ⟨wo.heap.size, 1, none⟩) (Nat.lt_of_succ_lt hs)).trans c1), (far3 _ (Nat.ne_of_lt (Nat.lt_succ_self _)) _ _ _).trans ((hBq.cell (p := ⟨wo.heap.size, 2, none⟩) (Nat.lt_of_succ_lt hs)).trans c2)⟩)
      ((go_at_call 81; refine (concat_but w.heap.size _ _ _ _ _ _ j rows _ (pair_cell _ _ _ _).1 (pair_cell _ _ _ _).2 (ht.below (((Below.refl _ _).alloc (Nat.le_refl _) _).drew)) (hd.below (((Below.refl _ _).alloc (Nat.le_refl _) _).drew)) (by omega) (by omega)).mono ?_; rintro e wq ⟨Aq, cq, rfl, hoq, hbq⟩; have hBq : Below w.heap.size w wq := Below.thenn (((Below.refl _ _).alloc (Nat.le_refl _) _).drew) hbq (by simp); have HOq := Lib.hid (OwR.base (B' := w.heap.size) hoq (by simp)); have hzq : w.heap.size ≤ wq.heap.size := hBq.size; have g0 := (hBq.cell (p := ⟨wo.heap.size + 1, 0, none⟩) hs).trans z0; have g1 := (hBq.cell (p := ⟨wo.heap.size + 1, 1, none⟩) hs).trans z1; have g2 := (hBq.cell (p := ⟨wo.heap.size + 1, 2, none⟩) hs).trans z2; have k0 := (hBq.frozen (p := ⟨wo.heap.size + 1, 0, none⟩) hs).trans f0; have k1 := (hBq.frozen (p := ⟨wo.heap.size + 1, 1, none⟩) hs).trans f1; have k2 := (hBq.frozen (p := ⟨wo.heap.size + 1, 2, none⟩) hs).trans f2; clear hbq hoq))
    all_goals go_wp2_with fail
    all_goals go_light
    all_goals refine bodyPost_ret (v := .agg #[.int .i64 m, .int .i64 p, .slice Aq (butR rows j).length cq]) ?_ rfl ⟨Aq, cq, rfl, ((((HOq.out.set_ (p := ⟨wo.heap.size + 1, 0, none⟩) hs _).set_ (p := ⟨wo.heap.size + 1, 1, none⟩) hs _).set_ (p := ⟨wo.heap.size + 1, 2, none⟩) hs _).base hwz), (((Below.thenn hWV hBq hwz).setCell (p := ⟨wo.heap.size + 1, 0, none⟩) (Nat.le_succ _) _).setCell (p := ⟨wo.heap.size + 1, 1, none⟩) (Nat.le_succ _) _).setCell (p := ⟨wo.heap.size + 1, 2, none⟩) (Nat.le_succ _) _⟩
    all_goals (clear ht hd hr h; simp [results, Try.results64, go_sem, *])
theorem butR_ok {m p : Int} {rows : List (List Int)} {j : Nat} (h : drvOk m p rows = true) : drvOk m p (butR rows j) = true := by
  obtain ⟨⟨hm, hp, hn⟩, hb⟩ := drvOk_iff.1 h
  refine drvOk_iff.2 ⟨⟨hm, hp, ?_⟩, List.all_eq_true.2 fun r hr => ?_⟩
  · unfold butR
    simp only [List.length_append, List.length_take, List.length_drop]
    omega
  · unfold butR at hr
    rcases List.mem_append.1 hr with hr | hr
    · exact List.all_eq_true.1 hb r (List.mem_of_mem_take hr)
    · exact List.all_eq_true.1 hb r (List.mem_of_mem_drop hr)
theorem pow_but {n j : Nat} (hj : j < n) (hn : n ≤ 4) : ((2 ^ n - 1 : Nat) : Int) - ((2 ^ j : Nat) : Int) = ((2 ^ n - 1 - 2 ^ j : Nat) : Int) ∧ 2 ^ n - 1 - 2 ^ j < 65536 ∧ 2 ^ n - 1 ≤ 65535 ∧ 2 ^ j ≤ 8 := by
  have h1 := Nat.pow_le_pow_right (show 0 < 2 by omega) hn
  have h2 := Nat.pow_lt_pow_right (show 1 < 2 by omega) hj
  have h3 := Nat.pow_le_pow_right (show 0 < 2 by omega) (show j ≤ 3 by omega)
  have h4 : 2 ^ 4 = 16 := rfl
  have h5 : 2 ^ 3 = 8 := rfl
  rw [h4] at h1
  rw [h5] at h3
  generalize 2 ^ n = a at *
  generalize 2 ^ j = b at *
  refine ⟨?_, ?_, ?_, ?_⟩ <;> omega
theorem sel_butn {rows : List (List Int)} {n j : Nat} (hl : rows.length = n) (hn : n ≤ 4) (hj : j < n) : sel (2 ^ n - 1 - 2 ^ j) 0 rows = butR rows j := by subst hl; exact sel_but rows j hn hj
def wwOk (m p : Int) (rows : List (List Int)) (v brake : Int) : Bool := ((drvOk m p rows && inr v 0 100) && inr brake 0 ((rows.length : Int) - 1)) && brkK m p (butR rows brake.toNat) v
def wwV (m p : Int) (rows : List (List Int)) (v brake : Int) : Int := if wwOk m p rows v brake then dw (brkS m p (butR rows brake.toNat) v) else 0
set_option maxHeartbeats 2000000 in
theorem impl_WayWithout (m p : Int) (A : Option Addr) (n c : Nat) (rows : List (List Int)) (v brake : Int) (wo : World) (h : RdR wo 2 A n rows) (hm : n ≤ 1048577) (hnc : n ≤ c) (hcm : c ≤ 9223372036854775807) :
    Calls Try.prog 34 #[.agg #[.int .i64 m, .int .i64 p, .slice A n c], .int .i64 v, .int .i64 brake] wo (Ret wo (.tuple #[.int .i64 (wwV m p rows v brake), .bool (wwOk m p rows v brake)])) := by
  have hl := Lib.hid h.2.2
  have ci := fun w' (h' : RdR w' 2 A n rows) => impl_isMoving m p A n c rows v w' h' hm
  have hn0 : (0 : Int) ≤ (n : Int) := by omega
  rcases hq : (drvOk m p rows && inr v 0 100) with _ | _
  all_goals rw [hq] at ci
  all_goals have CI := Lib.hid ci
  · rw [show wwV m p rows v brake = 0 by unfold wwV wwOk; rw [hq]; rfl, show wwOk m p rows v brake = false by unfold wwOk; rw [hq]; rfl]
    clear ci hq
    go_enter Try.func34, Try.ntmps34
    (go_wp2_with fail; have hWV : Below wo.heap.size wo (wo.alloc (.cells #[.int .i64 m, .int .i64 p, .slice A n c] 29)) := (Below.refl _ _).alloc (Nat.le_refl _) _; have hV0 : wo.heap.size < (wo.alloc (.cells #[.int .i64 m, .int .i64 p, .slice A n c] 29)).heap.size := (by simp); have hv0 : (wo.alloc (.cells #[.int .i64 m, .int .i64 p, .slice A n c] 29)).cell? ⟨wo.heap.size, 0, none⟩ = some (.int .i64 m) := (by rw [cell_of_row _ _ _ _ _ _ (heap_alloc_new wo _)]; rfl); have hv1 : (wo.alloc (.cells #[.int .i64 m, .int .i64 p, .slice A n c] 29)).cell? ⟨wo.heap.size, 1, none⟩ = some (.int .i64 p) := (by rw [cell_of_row _ _ _ _ _ _ (heap_alloc_new wo _)]; rfl); have hv2 : (wo.alloc (.cells #[.int .i64 m, .int .i64 p, .slice A n c] 29)).cell? ⟨wo.heap.size, 2, none⟩ = some (.slice A n c) := (by rw [cell_of_row _ _ _ _ _ _ (heap_alloc_new wo _)]; rfl); have HV1 : Hid (wo.heap.size + 1 = (wo.alloc (.cells #[.int .i64 m, .int .i64 p, .slice A n c] 29)).heap.size) := (show _ = _ by simp); generalize wo.alloc (.cells #[.int .i64 m, .int .i64 p, .slice A n c] 29) = w at hWV hV0 HV1 hv0 hv1 hv2 ⊢; have hr := h.below hWV; have hB : Below w.heap.size w w := Below.refl _ _; have hwz : wo.heap.size ≤ w.heap.size := hWV.size)
    go_wp2_with (go_at_call 58; refine (CI.out _ hr).mono ?_; rintro e w' ⟨rfl, hb⟩; have hB : Below w.heap.size w w' := Below.thenn (by repeat (first | exact Below.refl _ _ | assumption | apply Below.drew | apply below_drewN | (refine Below.alloc ?_ (by first | omega | (simp; done) | (simp; omega)) _) | (refine Below.setCell ?_ (by first | omega | (simp; done) | (simp; omega)) _))) hb (by first | omega | (simp; done) | (simp; omega)); have hz : w.heap.size ≤ w'.heap.size := hB.size; (try (have hz1 : w.heap.size + 1 ≤ w'.heap.size := (by have h := hb.size; (try simp at h); omega))); obtain ⟨hc, hf⟩ := bcell hb; clear hb)
    go_ret2
    exact ⟨rfl, Below.thenn hWV hB hwz⟩
  have cw := fun w' => impl_within brake 0 ((n : Int) - 1) w'
  rcases hb : inr brake 0 ((n : Int) - 1) with _ | _
  all_goals rw [hb] at cw
  all_goals have CW := Lib.hid cw
  · rw [show wwV m p rows v brake = 0 by unfold wwV wwOk; rw [hl.out, hb]; simp, show wwOk m p rows v brake = false by unfold wwOk; rw [hl.out, hb]; simp]
    clear ci hq cw hb
    go_enter Try.func34, Try.ntmps34
    (go_wp2_with fail; have hWV : Below wo.heap.size wo (wo.alloc (.cells #[.int .i64 m, .int .i64 p, .slice A n c] 29)) := (Below.refl _ _).alloc (Nat.le_refl _) _; have hV0 : wo.heap.size < (wo.alloc (.cells #[.int .i64 m, .int .i64 p, .slice A n c] 29)).heap.size := (by simp); have hv0 : (wo.alloc (.cells #[.int .i64 m, .int .i64 p, .slice A n c] 29)).cell? ⟨wo.heap.size, 0, none⟩ = some (.int .i64 m) := (by rw [cell_of_row _ _ _ _ _ _ (heap_alloc_new wo _)]; rfl); have hv1 : (wo.alloc (.cells #[.int .i64 m, .int .i64 p, .slice A n c] 29)).cell? ⟨wo.heap.size, 1, none⟩ = some (.int .i64 p) := (by rw [cell_of_row _ _ _ _ _ _ (heap_alloc_new wo _)]; rfl); have hv2 : (wo.alloc (.cells #[.int .i64 m, .int .i64 p, .slice A n c] 29)).cell? ⟨wo.heap.size, 2, none⟩ = some (.slice A n c) := (by rw [cell_of_row _ _ _ _ _ _ (heap_alloc_new wo _)]; rfl); have HV1 : Hid (wo.heap.size + 1 = (wo.alloc (.cells #[.int .i64 m, .int .i64 p, .slice A n c] 29)).heap.size) := (show _ = _ by simp); generalize wo.alloc (.cells #[.int .i64 m, .int .i64 p, .slice A n c] 29) = w at hWV hV0 HV1 hv0 hv1 hv2 ⊢; have hr := h.below hWV; have hB : Below w.heap.size w w := Below.refl _ _; have hwz : wo.heap.size ≤ w.heap.size := hWV.size)
    go_wp2_with (first | (go_at_call 58; refine (CI.out _ hr).mono ?_; rintro e w' ⟨rfl, hb⟩; have hB : Below w.heap.size w w' := Below.thenn (by repeat (first | exact Below.refl _ _ | assumption | apply Below.drew | apply below_drewN | (refine Below.alloc ?_ (by first | omega | (simp; done) | (simp; omega)) _) | (refine Below.setCell ?_ (by first | omega | (simp; done) | (simp; omega)) _))) hb (by first | omega | (simp; done) | (simp; omega)); have hz : w.heap.size ≤ w'.heap.size := hB.size; (try (have hz1 : w.heap.size + 1 ≤ w'.heap.size := (by have h := hb.size; (try simp at h); omega))); obtain ⟨hc, hf⟩ := bcell hb; have hor := Nat.lt_of_lt_of_le hV0 hz; have a2 := (hB.cell (p := ⟨wo.heap.size, 2, none⟩) hV0).trans hv2; clear hb) | (go_at_call 51; refine (CW.out _).mono ?_; rintro e w' ⟨rfl, rfl⟩))
    go_ret2
    exact ⟨rfl, Below.thenn hWV hB hwz⟩
  obtain ⟨hok, v0, v1⟩ := asked_iff hq
  have hbb := (show 0 ≤ brake ∧ brake ≤ (n : Int) - 1 by simpa [inr] using hb)
  obtain ⟨j, rfl⟩ : ∃ j : Nat, brake = (j : Int) := ⟨brake.toNat, by omega⟩
  have hj : j < n := by omega
  obtain ⟨b, off, _, _, rfl, _⟩ := h.row2 hj
  rw [show wwV m p rows v j = dw (bsL m p (butR rows j) v) by rw [dw_bsL]; unfold wwV wwOk; rw [hq, hl.out, hb]; simp, show wwOk m p rows v j = brkK m p (butR rows j) v by unfold wwOk; rw [hq, hl.out, hb]; simp]
  have CD := Lib.hid (fun w' (h' : RdR w' 2 (some ⟨b, off, none⟩) n rows) => impl_without m p b off n c j rows w' h' hj hnc hcm hm)
  have CB := Lib.hid (fun (A1 : Option Addr) (c1 : Nat) w' (h' : RdR w' 2 A1 (butR rows j).length (butR rows j)) => impl_brakeWay m p A1 (butR rows j).length c1 (butR rows j) v w' h' (butR_ok hok) v0 v1)
  generalize dw (bsL m p (butR rows j) v) = z at CB ⊢
  generalize brkK m p (butR rows j) v = bb at CB ⊢
  clear ci hq cw hb hbb hok
  go_enter Try.func34, Try.ntmps34
  (go_wp2_with fail; have hWV : Below wo.heap.size wo (wo.alloc (.cells #[.int .i64 m, .int .i64 p, .slice (some ⟨b, off, none⟩) n c] 29)) := (Below.refl _ _).alloc (Nat.le_refl _) _; have hV0 : wo.heap.size < (wo.alloc (.cells #[.int .i64 m, .int .i64 p, .slice (some ⟨b, off, none⟩) n c] 29)).heap.size := (by simp); have hv0 : (wo.alloc (.cells #[.int .i64 m, .int .i64 p, .slice (some ⟨b, off, none⟩) n c] 29)).cell? ⟨wo.heap.size, 0, none⟩ = some (.int .i64 m) := (by rw [cell_of_row _ _ _ _ _ _ (heap_alloc_new wo _)]; rfl); have hv1 : (wo.alloc (.cells #[.int .i64 m, .int .i64 p, .slice (some ⟨b, off, none⟩) n c] 29)).cell? ⟨wo.heap.size, 1, none⟩ = some (.int .i64 p) := (by rw [cell_of_row _ _ _ _ _ _ (heap_alloc_new wo _)]; rfl); have hv2 : (wo.alloc (.cells #[.int .i64 m, .int .i64 p, .slice (some ⟨b, off, none⟩) n c] 29)).cell? ⟨wo.heap.size, 2, none⟩ = some (.slice (some ⟨b, off, none⟩) n c) := (by rw [cell_of_row _ _ _ _ _ _ (heap_alloc_new wo _)]; rfl); have HV1 : Hid (wo.heap.size + 1 = (wo.alloc (.cells #[.int .i64 m, .int .i64 p, .slice (some ⟨b, off, none⟩) n c] 29)).heap.size) := (show _ = _ by simp); generalize wo.alloc (.cells #[.int .i64 m, .int .i64 p, .slice (some ⟨b, off, none⟩) n c] 29) = w at hWV hV0 HV1 hv0 hv1 hv2 ⊢; have hr := h.below hWV; have hB : Below w.heap.size w w := Below.refl _ _; have hwz : wo.heap.size ≤ w.heap.size := hWV.size)
  go_wp2_with (first | (go_at_call 58; refine (CI.out _ hr).mono ?_; rintro e w' ⟨rfl, hb⟩; have hB : Below w.heap.size w w' := Below.thenn (by repeat (first | exact Below.refl _ _ | assumption | apply Below.drew | apply below_drewN | (refine Below.alloc ?_ (by first | omega | (simp; done) | (simp; omega)) _) | (refine Below.setCell ?_ (by first | omega | (simp; done) | (simp; omega)) _))) hb (by first | omega | (simp; done) | (simp; omega)); have hz : w.heap.size ≤ w'.heap.size := hB.size; (try (have hz1 : w.heap.size + 1 ≤ w'.heap.size := (by have h := hb.size; (try simp at h); omega))); obtain ⟨hc, hf⟩ := bcell hb; have hor := Nat.lt_of_lt_of_le hV0 hz; have a0 := (hB.cell (p := ⟨wo.heap.size, 0, none⟩) hV0).trans hv0; have a1 := (hB.cell (p := ⟨wo.heap.size, 1, none⟩) hV0).trans hv1; have a2 := (hB.cell (p := ⟨wo.heap.size, 2, none⟩) hV0).trans hv2; clear hb) | (go_at_call 51; refine (CW.out _).mono ?_; rintro e w' ⟨rfl, rfl⟩) | (go_at_call 64; refine (CD.out _ (hr.below hB)).mono ?_; rintro e w2 ⟨A2, c2, rfl, ho2, hb2⟩; have hB2 : Below w.heap.size w w2 := Below.thenn hB hb2 hz; have hr2 := ho2.rdR; clear hb2 ho2) | (go_at_call 59; refine (CB.out _ _ _ hr2).mono ?_; rintro e w3 ⟨rfl, hb3⟩; have hB3 : Below w.heap.size w w3 := Below.thenn hB2 hb3 hB2.size))
  go_ret2
  exact ⟨rfl, Below.thenn hWV hB3 hwz⟩
end Go.Proofs.Ythijklidjdhkdaa
