/- What the law on ropes draws: damages, a length, a window. -/
import Derived.Test.YtjfmicemnoglkaaDrwM
import Derived.Test.YtjfmicemnoglkaaDrwQ
namespace Go.Proofs.Ytjfmicemnoglkaa
open Go.RowKit
set_option linter.unusedVariables false
set_option linter.unusedSimpArgs false

theorem OwR.far5 {w : World} {B F q : Nat} {e : TypeId} {v : Value} {rows : List (List Int)} (h : OwR w B e F v rows) (hq : q < B) (x0 x1 x2 x3 x4 : Value) : OwR (((((w.setCell ⟨q, 0, none⟩ x0).setCell ⟨q, 1, none⟩ x1).setCell ⟨q, 2, none⟩ x2).setCell ⟨q, 3, none⟩ x3).setCell ⟨q, 4, none⟩ x4) B e F v rows :=
  h.gen (only_setCell (only_setCell (only_setCell (only_setCell (only_setCell (World.grownBy.refl w (some q)) (p := ⟨q, 0, none⟩) (.inl rfl) x0) (p := ⟨q, 1, none⟩) (.inl rfl) x1) (p := ⟨q, 2, none⟩) (.inl rfl) x2) (p := ⟨q, 3, none⟩) (.inl rfl) x3) (p := ⟨q, 4, none⟩) (.inl rfl) x4) hq
def GenKD (w : World) (e : Ending) (w' : World) : Prop := ∃ (x0 x1 x2 x3 x4 : Int) (A : Option Addr) (c : Nat) (rows : List (List Int)) (z : Int), e = .returned (.tuple #[.agg #[.int .i64 x0, .int .i64 x1, .int .i64 x2, .int .i64 x3, .int .i64 x4], .slice A rows.length c, .int .i64 z]) ∧ rows.length ≤ 20 ∧ OwR w' w.heap.size 92 3 (.slice A rows.length c) rows ∧ Below w.heap.size w w'
def GenKDD (w : World) (e : Ending) (w' : World) : Prop := ∃ (x0 x1 x2 x3 x4 : Int) (A : Option Addr) (c : Nat) (rows : List (List Int)) (z1 z2 : Int), e = .returned (.tuple #[.agg #[.int .i64 x0, .int .i64 x1, .int .i64 x2, .int .i64 x3, .int .i64 x4], .slice A rows.length c, .int .i64 z1, .int .i64 z2]) ∧ rows.length ≤ 20 ∧ OwR w' w.heap.size 92 3 (.slice A rows.length c) rows ∧ Below w.heap.size w w'
set_option maxRecDepth 100000 in
set_option maxHeartbeats 8000000 in
theorem draw_WorstWindow (w : World) (S : Src) (h : S.ok w) : Calls Try.prog 79 #[.slice S.A S.n S.c] w (GenKD w) := by
  have H := Lib.hid (gen_startK w S h)
  clear h
  go_enter Try.func79, Try.ntmps79
  go_wp2_with fail
  refine (cur_ropeKind _ _ S 0 7 H.out.1 (by omega)).mono ?_
  rintro e w1 ⟨x0, x1, x2, x3, x4, rfl, hC, hG⟩
  have hz1 := hG.size
  simp at hz1
  have X9 : Hid (PS ((w.alloc (.cells #[.int .i64 0, .int .i64 0, .int .i64 0, .int .i64 0, .int .i64 0] 85)).alloc (.cells #[.slice S.A S.n S.c, .int .i64 0, .int .u64 0] 106)) (w1.alloc (.cells #[.int .i64 x0, .int .i64 x1, .int .i64 x2, .int .i64 x3, .int .i64 x4] 85)) (w.heap.size + 1) w.heap.size w1.heap.size S 20 x0 x1 x2 x3 x4) :=
    Lib.hid ⟨hC.alloc _, only_alloc hG _, (H.out.2.1.grown hG (by intro e; injection e with e; omega)).alloc _, Blk.new _ _ _, by omega, by omega⟩
  clear hC hG
  go_upto_region 3 with fail
  have HB := Lib.hid H.out.2.2
  clear H
  generalize w1.alloc (.cells #[.int .i64 x0, .int .i64 x1, .int .i64 x2, .int .i64 x3, .int .i64 x4] 85) = wx at *
  generalize (w.alloc (.cells #[.int .i64 0, .int .i64 0, .int .i64 0, .int .i64 0, .int .i64 0] 85)).alloc (.cells #[.slice S.A S.n S.c, .int .i64 0, .int .u64 0] 106) = u0 at *
  generalize w1.heap.size = p at *
  generalize hg : w.heap.size + 1 = g at *
  have HGE := Lib.hid (show w.heap.size ≤ g by omega)
  obtain ⟨q, hq⟩ : ∃ q, q = w.heap.size := ⟨_, rfl⟩
  have HQ := Lib.hid hq
  rw [← hq] at X9 ⊢
  have hpq : p ≠ q := by omega
  have hqg : q < g := by omega
  clear hg hq hz1
  obtain ⟨c0, c1, c2, c3, c4⟩ := X9.out.cells
  have hgk := X9.out.cur.lt
  have hqk := X9.out.box.lt
  go_wp2_with fail
  refine (cur_damages wx g S 20 x0 x1 x2 x3 x4 X9.out.cur (by omega)).mono ?_
  rintro e v0 ⟨A, c, rows, rfl, hl, ho, hC, hG⟩
  have X0 : Hid (PS v0 v0 g q p S 220 x0 x1 x2 x3 x4) := Lib.hid (by have := X9.out.call hC hG; exact ⟨this.1, World.grownBy.refl _ _, this.2.2⟩)
  have HO := Lib.hid ho
  have HW := Lib.hid (below_genK HB.out (X9.out.call hC hG).grown HGE.out)
  have HGK := Lib.hid hgk
  have HQK := Lib.hid hqk
  have HWK : Hid (w.heap.size ≤ wx.heap.size) := Lib.hid (by have := HQ.out; omega)
  clear hC hG ho HB X9 hgk hqk c0 c1 c2 c3 c4
  have hgl := X0.out.cur.lt
  go_upto_region 4 with fail
  obtain ⟨c0, c1, c2, c3, c4⟩ := X0.out.cells
  go_region_held3 (fun w' => w'.cell? ⟨p, 0, none⟩ = some (.int .i64 x0) ∧ w'.cell? ⟨p, 1, none⟩ = some (.int .i64 x1) ∧ w'.cell? ⟨p, 2, none⟩ = some (.int .i64 x2) ∧ w'.cell? ⟨p, 3, none⟩ = some (.int .i64 x3) ∧ w'.cell? ⟨p, 4, none⟩ = some (.int .i64 x4)) (first | (with_reducible exact ⟨c0, c1, c2, c3, c4⟩) | ((refine PS.cells (w0 := v0) (g := g) (q := q) (p := p) (S := S) (K := 220) ?_); (repeat (first | (with_reducible exact X0.out) | (with_reducible apply PS.drew) | (with_reducible apply PS.alloc))); done) | ((refine PS.cells (w0 := v0) (g := g) (q := q) (p := p) (S := S) (K := 220 + 4) ?_); (repeat (first | (with_reducible exact X5.out) | (with_reducible apply PS.drew) | (with_reducible apply PS.alloc))); done) | exact (((((X5.out.2.2.2.1.far hpq _).far hpq _).far hpq _).far hpq _).far hpq _).cells5) (first | ((go_at_call 137; (with_reducible refine (cur_length3 _ _ S (220) ?_ (by omega)).mono ?_); (refine PS.cur (w0 := v0) (q := q) (p := p) (x0 := x0) (x1 := x1) (x2 := x2) (x3 := x3) (x4 := x4) ?_); (repeat (first | (with_reducible exact X0.out) | (with_reducible apply PS.drew) | (with_reducible apply PS.alloc))); rintro e w5 ⟨z, _, rfl, hC, hG⟩; have X5 := Lib.hid (PS.call (show PS v0 _ g q p S (220) x0 x1 x2 x3 x4 from (by (repeat (first | (with_reducible exact X0.out) | (with_reducible apply PS.drew) | (with_reducible apply PS.alloc))))) hC hG); clear hC hG; have hw5 := X5.out.cur.lt; clear c0 c1 c2 c3 c4; obtain ⟨c0, c1, c2, c3, c4⟩ := X5.out.cells; obtain ⟨k0, k1, k2, k3, k4⟩ := X5.out.box.cells5; have f0 := X5.out.box.frozen 0; have f1 := X5.out.box.frozen 1; have f2 := X5.out.box.frozen 2; have f3 := X5.out.box.frozen 3; have f4 := X5.out.box.frozen 4)))
  all_goals go_wp2_with fail
  all_goals go_light
  all_goals obtain ⟨p1, p2⟩ := box_put5 (x0 := .int .i64 x0) (x1 := .int .i64 x1) (x2 := .int .i64 x2) (x3 := .int .i64 x3) (x4 := .int .i64 x4) (below_genK HW.out X5.out.grown HGE.out) (Nat.le_of_eq HQ.out.symm) X5.out.box
  all_goals obtain ⟨e0, e1, e2, e3, e4⟩ := p2.cells5
  all_goals have HF := (((HO.out.gen X5.out.grown HGK.out).far5 HQK.out (.int .i64 x0) (.int .i64 x1) (.int .i64 x2) (.int .i64 x3) (.int .i64 x4)).base HWK.out)
  all_goals refine bodyPost_ret (v := .tuple #[.agg #[.int .i64 x0, .int .i64 x1, .int .i64 x2, .int .i64 x3, .int .i64 x4], .slice A rows.length c, .int .i64 z]) ?_ rfl ⟨x0, x1, x2, x3, x4, A, c, rows, z, rfl, hl, HF, p1⟩
  all_goals simp [results, Try.results79, go_sem, e0, e1, e2, e3, e4]
set_option maxRecDepth 100000 in
set_option maxHeartbeats 8000000 in
theorem draw_BrokenWires (w : World) (S : Src) (h : S.ok w) : Calls Try.prog 83 #[.slice S.A S.n S.c] w (GenKDD w) := by
  have H := Lib.hid (gen_startK w S h)
  clear h
  go_enter Try.func83, Try.ntmps83
  go_wp2_with fail
  refine (cur_ropeKind _ _ S 0 7 H.out.1 (by omega)).mono ?_
  rintro e w1 ⟨x0, x1, x2, x3, x4, rfl, hC, hG⟩
  have hz1 := hG.size
  simp at hz1
  have X9 : Hid (PS ((w.alloc (.cells #[.int .i64 0, .int .i64 0, .int .i64 0, .int .i64 0, .int .i64 0] 85)).alloc (.cells #[.slice S.A S.n S.c, .int .i64 0, .int .u64 0] 106)) (w1.alloc (.cells #[.int .i64 x0, .int .i64 x1, .int .i64 x2, .int .i64 x3, .int .i64 x4] 85)) (w.heap.size + 1) w.heap.size w1.heap.size S 20 x0 x1 x2 x3 x4) :=
    Lib.hid ⟨hC.alloc _, only_alloc hG _, (H.out.2.1.grown hG (by intro e; injection e with e; omega)).alloc _, Blk.new _ _ _, by omega, by omega⟩
  clear hC hG
  go_upto_region 3 with fail
  have HB := Lib.hid H.out.2.2
  clear H
  generalize w1.alloc (.cells #[.int .i64 x0, .int .i64 x1, .int .i64 x2, .int .i64 x3, .int .i64 x4] 85) = wx at *
  generalize (w.alloc (.cells #[.int .i64 0, .int .i64 0, .int .i64 0, .int .i64 0, .int .i64 0] 85)).alloc (.cells #[.slice S.A S.n S.c, .int .i64 0, .int .u64 0] 106) = u0 at *
  generalize w1.heap.size = p at *
  generalize hg : w.heap.size + 1 = g at *
  have HGE := Lib.hid (show w.heap.size ≤ g by omega)
  obtain ⟨q, hq⟩ : ∃ q, q = w.heap.size := ⟨_, rfl⟩
  have HQ := Lib.hid hq
  rw [← hq] at X9 ⊢
  have hpq : p ≠ q := by omega
  have hqg : q < g := by omega
  clear hg hq hz1
  obtain ⟨c0, c1, c2, c3, c4⟩ := X9.out.cells
  have hgk := X9.out.cur.lt
  have hqk := X9.out.box.lt
  go_wp2_with fail
  refine (cur_damages wx g S 20 x0 x1 x2 x3 x4 X9.out.cur (by omega)).mono ?_
  rintro e v0 ⟨A, c, rows, rfl, hl, ho, hC, hG⟩
  have X0 : Hid (PS v0 v0 g q p S 220 x0 x1 x2 x3 x4) := Lib.hid (by have := X9.out.call hC hG; exact ⟨this.1, World.grownBy.refl _ _, this.2.2⟩)
  have HO := Lib.hid ho
  have HW := Lib.hid (below_genK HB.out (X9.out.call hC hG).grown HGE.out)
  have HGK := Lib.hid hgk
  have HQK := Lib.hid hqk
  have HWK : Hid (w.heap.size ≤ wx.heap.size) := Lib.hid (by have := HQ.out; omega)
  clear hC hG ho HB X9 hgk hqk c0 c1 c2 c3 c4
  have hgl := X0.out.cur.lt
  go_upto_region 4 with fail
  obtain ⟨c0, c1, c2, c3, c4⟩ := X0.out.cells
  go_region_held3 (fun w' => w'.cell? ⟨p, 0, none⟩ = some (.int .i64 x0) ∧ w'.cell? ⟨p, 1, none⟩ = some (.int .i64 x1) ∧ w'.cell? ⟨p, 2, none⟩ = some (.int .i64 x2) ∧ w'.cell? ⟨p, 3, none⟩ = some (.int .i64 x3) ∧ w'.cell? ⟨p, 4, none⟩ = some (.int .i64 x4)) (first | (with_reducible exact ⟨c0, c1, c2, c3, c4⟩) | ((refine PS.cells (w0 := v0) (g := g) (q := q) (p := p) (S := S) (K := 220) ?_); (repeat (first | (with_reducible exact X0.out) | (with_reducible apply PS.drew) | (with_reducible apply PS.alloc))); done) | ((refine PS.cells (w0 := v0) (g := g) (q := q) (p := p) (S := S) (K := 220 + 2) ?_); (repeat (first | (with_reducible exact X3.out) | (with_reducible apply PS.drew) | (with_reducible apply PS.alloc))); done) | ((refine PS.cells (w0 := v0) (g := g) (q := q) (p := p) (S := S) (K := 220 + 2 + 2) ?_); (repeat (first | (with_reducible exact X4.out) | (with_reducible apply PS.drew) | (with_reducible apply PS.alloc))); done) | ((refine PS.cells (w0 := v0) (g := g) (q := q) (p := p) (S := S) (K := 220 + 2 + 2 + 4) ?_); (repeat (first | (with_reducible exact X5.out) | (with_reducible apply PS.drew) | (with_reducible apply PS.alloc))); done) | exact (((((X5.out.2.2.2.1.far hpq _).far hpq _).far hpq _).far hpq _).far hpq _).cells5) (first | ((go_at_call 125; (with_reducible refine (cur_pick _ _ S (220) 24 ?_ (by omega) (by omega) (by omega)).mono ?_); (refine PS.cur (w0 := v0) (q := q) (p := p) (x0 := x0) (x1 := x1) (x2 := x2) (x3 := x3) (x4 := x4) ?_); (repeat (first | (with_reducible exact X0.out) | (with_reducible apply PS.drew) | (with_reducible apply PS.alloc))); rintro e w3 ⟨r, ⟨r0, r1⟩, rfl, hC, hG⟩; have X3 := Lib.hid (PS.call (show PS v0 _ g q p S (220) x0 x1 x2 x3 x4 from (by (repeat (first | (with_reducible exact X0.out) | (with_reducible apply PS.drew) | (with_reducible apply PS.alloc))))) hC hG); have T3 := Lib.hid (blk_past hG); clear hC hG; obtain ⟨rj, rfl⟩ := Int.eq_ofNat_of_zero_le r0; have r2 : (5 : Int) + (rj : Int) / 11 ≤ 7 := (by omega); have r3 : (0 : Int) ≤ (5 : Int) + (rj : Int) / 11 := (by omega); have r4 : ((5 : Int) + (rj : Int) / 11).toNat = 5 + rj / 11 := (by omega); have r5 : 5 + rj / 11 ≤ 7 := (by omega); have r6 : IntKind.i64.wrap ((rj : Int) / 11) = (rj : Int) / 11 := IntWalk.i64_in _ (by omega); have r7 : IntKind.i64.wrap (5 + (rj : Int) / 11) = 5 + (rj : Int) / 11 := IntWalk.i64_in _ (by omega); have hw3 := X3.out.cur.lt; clear c0 c1 c2 c3 c4; obtain ⟨c0, c1, c2, c3, c4⟩ := X3.out.cells)) | ((go_at_call 96; (with_reducible refine (cur_amongW _ _ S (220 + 2) ([0, 4, 9, 60, 3000, -1, 3001].take (5 + rj / 11)) (fun r => True) _ _ _ ?_ ?_ ?_ ?_ ?_ ?_ (fun _ _ => trivial)).mono ?_); (refine PS.cur (w0 := v0) (q := q) (p := p) (x0 := x0) (x1 := x1) (x2 := x2) (x3 := x3) (x4 := x4) ?_); (repeat (first | (with_reducible exact X3.out) | (with_reducible apply PS.drew) | (with_reducible apply PS.alloc))); omega; (refine rd_blk8 (n := 7) (cs := #[.int .i64 0, .int .i64 4, .int .i64 9, .int .i64 60, .int .i64 3000, .int .i64 (-1), .int .i64 3001]) ?_ rfl rfl (by omega)); (repeat (first | ((with_reducible refine Blk.newE ?_); (focus (first | rfl | (simp; done)))) | (with_reducible apply Blk.drew') | (with_reducible apply Blk.alloc) | ((with_reducible refine T3.out _ _ _ ?_ ?_); (focus (first | omega | (simp; omega)))))); (intro b off e; injection e with e; injection e with e1 e2; first | omega | (simp at e1; omega)); omega; omega; rintro e w4 ⟨a, _, rfl, hC, hG⟩; have X4 := Lib.hid (PS.call (show PS v0 _ g q p S (220 + 2) x0 x1 x2 x3 x4 from (by (repeat (first | (with_reducible exact X3.out) | (with_reducible apply PS.drew) | (with_reducible apply PS.alloc))))) hC hG); clear hC hG; have hw4 := X4.out.cur.lt; clear c0 c1 c2 c3 c4; obtain ⟨c0, c1, c2, c3, c4⟩ := X4.out.cells; skip)) | ((go_at_call 137; (with_reducible refine (cur_length3 _ _ S (220 + 2 + 2) ?_ (by omega)).mono ?_); (refine PS.cur (w0 := v0) (q := q) (p := p) (x0 := x0) (x1 := x1) (x2 := x2) (x3 := x3) (x4 := x4) ?_); (repeat (first | (with_reducible exact X4.out) | (with_reducible apply PS.drew) | (with_reducible apply PS.alloc))); rintro e w5 ⟨z, _, rfl, hC, hG⟩; have X5 := Lib.hid (PS.call (show PS v0 _ g q p S (220 + 2 + 2) x0 x1 x2 x3 x4 from (by (repeat (first | (with_reducible exact X4.out) | (with_reducible apply PS.drew) | (with_reducible apply PS.alloc))))) hC hG); clear hC hG; have hw5 := X5.out.cur.lt; clear c0 c1 c2 c3 c4; obtain ⟨c0, c1, c2, c3, c4⟩ := X5.out.cells; obtain ⟨k0, k1, k2, k3, k4⟩ := X5.out.box.cells5; have f0 := X5.out.box.frozen 0; have f1 := X5.out.box.frozen 1; have f2 := X5.out.box.frozen 2; have f3 := X5.out.box.frozen 3; have f4 := X5.out.box.frozen 4)))
  all_goals go_wp2_with fail
  all_goals go_light
  all_goals obtain ⟨p1, p2⟩ := box_put5 (x0 := .int .i64 x0) (x1 := .int .i64 x1) (x2 := .int .i64 x2) (x3 := .int .i64 x3) (x4 := .int .i64 x4) (below_genK HW.out X5.out.grown HGE.out) (Nat.le_of_eq HQ.out.symm) X5.out.box
  all_goals obtain ⟨e0, e1, e2, e3, e4⟩ := p2.cells5
  all_goals have HF := (((HO.out.gen X5.out.grown HGK.out).far5 HQK.out (.int .i64 x0) (.int .i64 x1) (.int .i64 x2) (.int .i64 x3) (.int .i64 x4)).base HWK.out)
  all_goals refine bodyPost_ret (v := .tuple #[.agg #[.int .i64 x0, .int .i64 x1, .int .i64 x2, .int .i64 x3, .int .i64 x4], .slice A rows.length c, .int .i64 a, .int .i64 z]) ?_ rfl ⟨x0, x1, x2, x3, x4, A, c, rows, a, z, rfl, hl, HF, p1⟩
  all_goals simp [results, Try.results83, go_sem, e0, e1, e2, e3, e4]
end Go.Proofs.Ytjfmicemnoglkaa
