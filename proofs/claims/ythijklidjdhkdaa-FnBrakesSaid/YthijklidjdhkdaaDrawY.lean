/- Drives that are drawn: the walk. -/
import Derived.Test.YthijklidjdhkdaaDrawX
import Derived.Test.YthijklidjdhkdaaBlkN
import Derived.Deep.RegionWith
namespace Go.Proofs.Ythijklidjdhkdaa
open Go.RowKit
set_option linter.unusedVariables false
set_option linter.unusedSimpArgs false

theorem blk_past {w w' : World} {g : Nat} (hG : w.grownBy w' (some g)) : ∀ (b : Nat) (t : TypeId) (cs : Array Value), Blk w b t cs → b ≠ g → Blk w' b t cs := fun b t cs h hn => h.grown hG (fun e => by injection e with e; exact hn e)
set_option maxRecDepth 100000 in
set_option maxHeartbeats 16000000 in
theorem cur_drive (w : World) (g : Nat) (S : Src) (K : Nat) (h : Cur w g S K) (hK : K ≤ 700000) :
    Calls Try.prog 68 #[.pointer (some ⟨g, 0, none⟩)] w (DrewD w g S (K + 300)) := by
  have H := Lib.hid h
  have hg := h.lt
  clear h
  go_enter Try.func68, Try.ntmps68
  go_wp2_with fail
  (go_at_call 70; refine (cur_amongA _ _ (by simp) _ S (K) [1, 100, 1000, 5000, 20000, 100000] (fun r => True) _ _ (H.out.alloc _) (by omega) rfl rfl (by decide) (by decide) (by decide)).mono ?_; rintro e w1 ⟨l, lp, rfl, hC, hG⟩; have Cw1 := Lib.hid hC; have Gw1 := Lib.hid hG; have Zw1 := hG.size; clear hC hG)
  go_wp2_with fail
  (go_at_call 70; refine (cur_among w1 _ S (K + 2) [0, 0, 100, -100, 1000, 5000, -5000, 300] (fun r => True) _ _ (Cw1.out) (by omega) rfl rfl (by decide) (by decide) (by decide)).mono ?_; rintro e w2 ⟨s, sp, rfl, hC, hG⟩; have Cw2 := Lib.hid hC; have Gw2 := Lib.hid hG; have Zw2 := hG.size; clear hC hG)
  have X0 := Lib.hid (DS.start (l := l) (s := s) hg Cw2.out Gw1.out Gw2.out)
  go_wp2_with fail
  generalize hq : w.heap.size = q at *
  generalize hp : w2.heap.size + 1 = p at *
  generalize hwx : (w2.alloc (.cells #[] 56)).alloc (.cells #[.int .i64 l, .int .i64 s, .slice (some ⟨w2.heap.size, 0, none⟩) 0 0] 29) = wx at *
  have HQ := Lib.hid hq
  have HP := Lib.hid hp
  clear hq hp hwx
  (go_at_call 71; (with_reducible refine (cur_pick _ _ S (K + 2 + 2) (5) (X0.out.cur) (by omega) (by omega) (by omega)).mono ?_); rintro e w4 ⟨n0, ⟨n00, n01⟩, rfl, hC, hG⟩; have Cw4 := Lib.hid hC; have Gw4 := Lib.hid hG; have Zw4 := hG.size; clear hC hG)
  have X4 := Lib.hid (X0.out.call Cw4.out Gw4.out)
  obtain ⟨j0, rfl⟩ := Int.eq_ofNat_of_zero_le n00
  clear X0 Cw1 Cw2 Cw4 Gw1 Gw2 Gw4 H
  go_wp2_with fail
  go_loopg [4] 6 (fun gg n' wr => ∃ (k m : Nat) (A : Option Addr) (c : Nat) (rows : List (List Int)), k ≤ gg ∧ k ≤ 4 ∧ n' = .int .i64 k ∧ m + k ≤ 4 ∧ Hid (DS w wr g q p S (K + 10 + 4 * m) l s A m c rows))
  case atStart => exact ⟨j0, 0, _, _, _, by omega, by omega, rfl, by omega, X4.out.more (by omega)⟩
  case round =>
    obtain ⟨k, m, A, c, rows, hk1, hk2, rfl, hmk, HX⟩ := hrel
    obtain ⟨⟨c0, hc1, c2⟩, ⟨f0, f1, f2⟩, ⟨z0, z1, z2⟩, ⟨k0, k1, k2⟩, hne, hne', hpl, hql⟩ := HX.out.cells
    have HL := Lib.hid HX.out.own.len_
    rcases Nat.eq_zero_or_pos k with h0 | h0
    · subst h0
      go_wp2_with ((go_at_call 71; (with_reducible refine (cur_pick wr _ S (K + 10 + 4 * m) (32) (HX.out.cur) (by omega) (by omega) (by omega)).mono ?_); rintro e w6 ⟨r, ⟨r0, r1⟩, rfl, hC, hG⟩; have Cw6 := Lib.hid hC; have Gw6 := Lib.hid hG; have Zw6 := hG.size; clear hC hG); have X6 := Lib.hid (HX.out.call Cw6.out Gw6.out); (clear c0 hc1 c2 f0 f1 f2 z0 z1 z2 k0 k1 k2); obtain ⟨⟨c0, hc1, c2⟩, ⟨f0, f1, f2⟩, ⟨z0, z1, z2⟩, ⟨k0, k1, k2⟩, _, _, hpl6, hql6⟩ := X6.out.cells)
      · (go_at_call 70; refine (cur_among w6 _ S (K + 10 + 4 * m + 2) [0, 100001] (fun r => True) _ _ (Cw6.out) (by omega) rfl rfl (by decide) (by decide) (by decide)).mono ?_; rintro e w7 ⟨l', l'p, rfl, hC, hG⟩; have Cw7 := Lib.hid hC; have Gw7 := Lib.hid hG; have Zw7 := hG.size; clear hC hG)
        have X7 := Lib.hid (X6.out.call Cw7.out Gw7.out)
        (clear c0 hc1 c2 f0 f1 f2 z0 z1 z2 k0 k1 k2)
        obtain ⟨⟨c0, hc1, c2⟩, ⟨f0, f1, f2⟩, ⟨z0, z1, z2⟩, ⟨k0, k1, k2⟩, _, _, hpl7, hql7⟩ := X7.out.cells
        go_wp2_with fail
        (go_light; obtain ⟨e0, e1, e2⟩ := (X7.out.set1 l').finB; refine bodyPost_ret (v := .agg #[.int .i64 l', .int .i64 s, .slice A m c]) ?_ rfl ((X7.out.set1 l').fin (by omega) (by omega)); simp [results, Try.results68, go_sem, e0, e1, e2])
      · (go_at_call 70; refine (cur_among w6 _ S (K + 10 + 4 * m + 2) [-100001, 100001, 100000] (fun r => True) _ _ (Cw6.out) (by omega) rfl rfl (by decide) (by decide) (by decide)).mono ?_; rintro e w7 ⟨s', s'p, rfl, hC, hG⟩; have Cw7 := Lib.hid hC; have Gw7 := Lib.hid hG; have Zw7 := hG.size; clear hC hG)
        have X7 := Lib.hid (X6.out.call Cw7.out Gw7.out)
        (clear c0 hc1 c2 f0 f1 f2 z0 z1 z2 k0 k1 k2)
        obtain ⟨⟨c0, hc1, c2⟩, ⟨f0, f1, f2⟩, ⟨z0, z1, z2⟩, ⟨k0, k1, k2⟩, _, _, hpl7, hql7⟩ := X7.out.cells
        go_wp2_with fail
        (go_light; obtain ⟨e0, e1, e2⟩ := (X7.out.set2 s').finB; refine bodyPost_ret (v := .agg #[.int .i64 l, .int .i64 s', .slice A m c]) ?_ rfl ((X7.out.set2 s').fin (by omega) (by omega)); simp [results, Try.results68, go_sem, e0, e1, e2])
      · have hzw : w.heap.size ≤ wr.heap.size := HX.out.grown.size
        clear HX Cw6 Gw6 hpl hql
        have HY := X6
        clear X6
        go_region_law (first | (refine step_app_BrakeG (by rfl) (.tmp 48) (.tmp 56) (by rfl) w7 w.heap.size (.slice A m c) rows x y (by rfl) X7.out.own (by rfl) m HL.out (by omega) hz7 ?_; intro A8 c8 w8 ho8 hg8; have X8 := Lib.hid (X7.out.app ho8 hg8); (clear c0 hc1 c2 f0 f1 f2 z0 z1 z2 k0 k1 k2); obtain ⟨⟨c0, hc1, c2⟩, ⟨f0, f1, f2⟩, ⟨z0, z1, z2⟩, ⟨k0, k1, k2⟩, hpl8, hql8⟩ := X7.out.app_cells ho8 hg8; clear ho8 hg8) | (go_simp; (go_at_call 70; (with_reducible refine (cur_amongW _ _ S (K + 10 + 4 * m + 2) [-1, 100001] (fun r => True) _ 2 2 ?_ ?_ ?_ ?_ ?_ ?_ (fun _ _ => trivial)).mono ?_); (refine DS.cur (w := w) (q := q) (p := p) (l := l) (s := s) (A := A) (m := m) (c := c) (rows := rows) ?_); (repeat (first | (with_reducible exact HY.out) | (with_reducible apply DS.drew) | (with_reducible apply DS.alloc))); omega; (apply rd_blk; (repeat (first | ((with_reducible refine Blk.newE ?_); (focus (first | rfl | (simp; done)))) | (with_reducible apply Blk.drew') | (with_reducible apply Blk.alloc))); rfl; rfl); (intro b off e; injection e with e; injection e with e1 e2; omega); omega; omega; rintro e w3 ⟨x, _, rfl, hC, hG⟩; have X6 := Lib.hid (DS.call (show DS w _ g q p S (K + 10 + 4 * m + 2) l s A m c rows from (by repeat (first | (with_reducible exact HY.out) | (with_reducible apply DS.drew) | (with_reducible apply DS.alloc)))) hC hG); have T6 := Lib.hid (blk_past hG); have hz6 : w.heap.size ≤ w3.heap.size := X6.out.grown.size; clear hC hG c0 hc1 c2 f0 f1 f2 z0 z1 z2 k0 k1 k2; obtain ⟨⟨c0, hc1, c2⟩, ⟨f0, f1, f2⟩, ⟨z0, z1, z2⟩, ⟨k0, k1, k2⟩, _, _, hpl6, hql6⟩ := X6.out.cells)) | (go_simp; (go_at_call 70; (with_reducible refine (cur_amongW _ _ S (K + 10 + 4 * m + 2 + 2) [0, 11] (fun r => True) _ 2 2 ?_ ?_ ?_ ?_ ?_ ?_ (fun _ _ => trivial)).mono ?_); (refine DS.cur (w := w) (q := q) (p := p) (l := l) (s := s) (A := A) (m := m) (c := c) (rows := rows) ?_); (repeat (first | (with_reducible exact X6.out) | (with_reducible apply DS.drew) | (with_reducible apply DS.alloc))); omega; (first | (apply rd_blk; (repeat (first | ((with_reducible refine Blk.newE ?_); (focus (first | rfl | (simp; done)))) | (with_reducible apply Blk.drew') | (with_reducible apply Blk.alloc))); rfl; rfl) | (apply rd_blk; (apply T6.out); (repeat (first | ((with_reducible refine Blk.newE ?_); (focus (first | rfl | (simp; done)))) | (with_reducible apply Blk.drew') | (with_reducible apply Blk.alloc))); omega; rfl; rfl)); (intro b off e; injection e with e; injection e with e1 e2; omega); omega; omega; rintro e w7 ⟨y, _, rfl, hC, hG⟩; have X7 := Lib.hid (DS.call (show DS w _ g q p S (K + 10 + 4 * m + 2 + 2) l s A m c rows from (by repeat (first | (with_reducible exact X6.out) | (with_reducible apply DS.drew) | (with_reducible apply DS.alloc)))) hC hG); have hz7 : w.heap.size ≤ w7.heap.size := X7.out.grown.size; clear hC hG c0 hc1 c2 f0 f1 f2 z0 z1 z2 k0 k1 k2; obtain ⟨⟨c0, hc1, c2⟩, ⟨f0, f1, f2⟩, ⟨z0, z1, z2⟩, ⟨k0, k1, k2⟩, _, _, hpl7, hql7⟩ := X7.out.cells)))
        all_goals go_wp2_with fail
        all_goals (go_light; obtain ⟨e0, e1, e2⟩ := (X8.out).finB; refine bodyPost_ret (v := .agg #[.int .i64 l, .int .i64 s, .slice A8 (m + 1) c8]) ?_ rfl ((X8.out).fin (by omega) (by omega)); simp [results, Try.results68, go_sem, e0, e1, e2])
      · have e0 : (r == 0) = false := by assumption
        have e1 : (r == 1) = false := by assumption
        have e2 : (r == 2) = false := by assumption
        have e3 : (r == 3) = true := by assumption
        (try rw [e0]); (try rw [e1]); (try rw [e2]); (try rw [e3])
        have hm4 : m ≤ 4 := by omega
        (clear c0 hc1 c2 f0 f1 f2 z0 z1 z2 k0 k1 k2)
        clear HX HL Cw6 Gw6 hpl hql hpl6 hql6
        go_loopg [] 6 (fun gg wy => ∃ (m' : Nat) (A' : Option Addr) (c' : Nat) (rows' : List (List Int)), m' ≤ 5 ∧ 6 ≤ m' + gg ∧ Hid (DS w wy g q p S (K + 100 + 4 * m') l s A' m' c' rows'))
        case atStart => exact ⟨m, A, c, rows, by omega, by omega, X6.out.more (by omega)⟩
        case round =>
          clear X6
          obtain ⟨m, A, c, rows, hm1, hm2, HX⟩ := hrel
          obtain ⟨⟨c0, hc1, c2⟩, ⟨f0, f1, f2⟩, ⟨z0, z1, z2⟩, ⟨k0, k1, k2⟩, _, _, hpl, hql⟩ := HX.out.cells
          have HL := Lib.hid HX.out.own.len_
          go_wp2_with fail
          go_region_law (go_simp; (go_at_call 71; (with_reducible refine (cur_pick wr.drew _ S (K + 100 + 4 * m) (2) (HX.out.cur.drew) (by omega) (by omega) (by omega)).mono ?_); rintro e w6 ⟨b, ⟨b0, b1⟩, rfl, hC, hG⟩; have Cw6 := Lib.hid hC; have Gw6 := Lib.hid hG; have Zw6 := hG.size; clear hC hG); have X6 := Lib.hid (HX.out.drew.call Cw6.out Gw6.out); have hz6 : w.heap.size ≤ w6.heap.size := X6.out.grown.size; (clear c0 hc1 c2 f0 f1 f2 z0 z1 z2 k0 k1 k2); obtain ⟨⟨c0, hc1, c2⟩, ⟨f0, f1, f2⟩, ⟨z0, z1, z2⟩, ⟨k0, k1, k2⟩, _, _, hpl6, hql6⟩ := X6.out.cells)
          all_goals have u9 : IntKind.i64.wrap (4 + b) = 4 + b := IntWalk.i64_in _ (by omega)
          all_goals rw [u9]
          all_goals by_cases h5 : (m : Int) < 4 + b
          all_goals go_wp2_with (at_builtin; refine wp_app_BrakeG rfl (.tmp 69) (.tmp 71) rfl w6 w.heap.size (.slice A m c) rows 100 0 rfl X6.out.own rfl m HL.out (by omega) hz6 ?_; intro A8 c8 w8 ho8 hg8; have X8 := Lib.hid (X6.out.app ho8 hg8); (clear c0 hc1 c2 f0 f1 f2 z0 z1 z2 k0 k1 k2); obtain ⟨⟨c0, hc1, c2⟩, ⟨f0, f1, f2⟩, ⟨z0, z1, z2⟩, ⟨k0, k1, k2⟩, hpl8, hql8⟩ := X6.out.app_cells ho8 hg8; clear ho8 hg8)
          all_goals first | ((go_light; obtain ⟨e0, e1, e2⟩ := (X6.out).finB; refine bodyPost_ret (v := .agg #[.int .i64 l, .int .i64 s, .slice A m c]) ?_ rfl ((X6.out).fin (by omega) (by omega)); simp [results, Try.results68, go_sem, e0, e1, e2]); done) | skip
          all_goals go_roundg (6 - (m + 1))
          all_goals first | omega | exact ⟨m + 1, A8, c8, _, by omega, by omega, X8.out.more (by omega)⟩
      · (go_light; obtain ⟨e0, e1, e2⟩ := (X6.out).finB; refine bodyPost_ret (v := .agg #[.int .i64 l, .int .i64 s, .slice A m c]) ?_ rfl ((X6.out).fin (by omega) (by omega)); simp [results, Try.results68, go_sem, e0, e1, e2])
    · obtain ⟨j, rfl⟩ : ∃ j, k = j + 1 := ⟨k - 1, by omega⟩
      have hzw : w.heap.size ≤ wr.heap.size := HX.out.grown.size
      go_wp2_with fail
      go_region_law (first | (refine step_app_BrakeG (by rfl) (.tmp 20) (.tmp 28) (by rfl) w7 w.heap.size (.slice A m c) rows x y (by rfl) X7.out.own (by rfl) m HL.out (by omega) hz7 ?_; intro A8 c8 w8 ho8 hg8; have X8 := Lib.hid (X7.out.app ho8 hg8); clear c0 hc1 c2 f0 f1 f2 z0 z1 z2 k0 k1 k2; obtain ⟨⟨c0, hc1, c2⟩, ⟨f0, f1, f2⟩, ⟨z0, z1, z2⟩, ⟨k0, k1, k2⟩, hpl8, hql8⟩ := X7.out.app_cells ho8 hg8; clear ho8 hg8) | (go_simp; (go_at_call 70; (with_reducible refine (cur_amongW _ _ S (K + 10 + 4 * m) [0, 100, 500, 2000, 8000, 30000, 100000] (fun r => True) _ 7 7 ?_ ?_ ?_ ?_ ?_ ?_ (fun _ _ => trivial)).mono ?_); (refine DS.cur (w := w) (q := q) (p := p) (l := l) (s := s) (A := A) (m := m) (c := c) (rows := rows) ?_); (repeat (first | (with_reducible exact HX.out) | (with_reducible apply DS.drew) | (with_reducible apply DS.alloc))); omega; (apply rd_blk; (repeat (first | ((with_reducible refine Blk.newE ?_); (focus (first | rfl | (simp; done)))) | (with_reducible apply Blk.drew') | (with_reducible apply Blk.alloc))); rfl; rfl); (intro b off e; injection e with e; injection e with e1 e2; omega); omega; omega; rintro e w6 ⟨x, _, rfl, hC, hG⟩; have X6 := Lib.hid (DS.call (show DS w _ g q p S (K + 10 + 4 * m) l s A m c rows from (by repeat (first | (with_reducible exact HX.out) | (with_reducible apply DS.drew) | (with_reducible apply DS.alloc)))) hC hG); have T6 := Lib.hid (blk_past hG); have hz6 : w.heap.size ≤ w6.heap.size := X6.out.grown.size; clear hC hG c0 hc1 c2 f0 f1 f2 z0 z1 z2 k0 k1 k2; obtain ⟨⟨c0, hc1, c2⟩, ⟨f0, f1, f2⟩, ⟨z0, z1, z2⟩, ⟨k0, k1, k2⟩, _, _, hpl6, hql6⟩ := X6.out.cells)) | (go_simp; (go_at_call 70; (with_reducible refine (cur_amongW _ _ S (K + 10 + 4 * m + 2) [0, 0, 1, 2, 5, 10] (fun r => True) _ 6 6 ?_ ?_ ?_ ?_ ?_ ?_ (fun _ _ => trivial)).mono ?_); (refine DS.cur (w := w) (q := q) (p := p) (l := l) (s := s) (A := A) (m := m) (c := c) (rows := rows) ?_); (repeat (first | (with_reducible exact X6.out) | (with_reducible apply DS.drew) | (with_reducible apply DS.alloc))); omega; (first | (apply rd_blk; (repeat (first | ((with_reducible refine Blk.newE ?_); (focus (first | rfl | (simp; done)))) | (with_reducible apply Blk.drew') | (with_reducible apply Blk.alloc))); rfl; rfl) | (apply rd_blk; (apply T6.out); (repeat (first | ((with_reducible refine Blk.newE ?_); (focus (first | rfl | (simp; done)))) | (with_reducible apply Blk.drew') | (with_reducible apply Blk.alloc))); omega; rfl; rfl)); (intro b off e; injection e with e; injection e with e1 e2; omega); omega; omega; rintro e w7 ⟨y, _, rfl, hC, hG⟩; have X7 := Lib.hid (DS.call (show DS w _ g q p S (K + 10 + 4 * m + 2) l s A m c rows from (by repeat (first | (with_reducible exact X6.out) | (with_reducible apply DS.drew) | (with_reducible apply DS.alloc)))) hC hG); have hz7 : w.heap.size ≤ w7.heap.size := X7.out.grown.size; clear hC hG c0 hc1 c2 f0 f1 f2 z0 z1 z2 k0 k1 k2; obtain ⟨⟨c0, hc1, c2⟩, ⟨f0, f1, f2⟩, ⟨z0, z1, z2⟩, ⟨k0, k1, k2⟩, _, _, hpl7, hql7⟩ := X7.out.cells)))
      all_goals go_wp2_with fail
      all_goals go_roundg j
      all_goals first | omega | exact ⟨j, m + 1, A8, c8, _, by omega, by omega, by go_num, by omega, X8.out⟩
end Go.Proofs.Ythijklidjdhkdaa
