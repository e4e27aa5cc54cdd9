/- What the law on ropes draws: weights, lightest kinds. -/
import Derived.Test.YtjfmicemnoglkaaDrwL
import Derived.Test.YtjfmicemnoglkaaBlkN
import Derived.Deep.RegionLaw
import Derived.Deep.RegionHeld3
namespace Go.Proofs.Ytjfmicemnoglkaa
open Go.RowKit
set_option linter.unusedVariables false
set_option linter.unusedSimpArgs false

theorem rd_blk8 {w : World} {q n k : Nat} {cs : Array Value} {ys : List Int} (h : Blk w q 3 cs) (hcs : cs = (IV ys).toArray) (hn : ys.length = n) (hk : k ≤ n) : Rd w 1 (some ⟨q, 0, none⟩) k (IV (ys.take k)) := by
  have h2 := (rd_blk h hcs hn).take hk
  simpa [List.map_take] using h2
theorem blk_past {w w' : World} {g : Nat} (hG : w.grownBy w' (some g)) : ∀ (b : Nat) (t : TypeId) (cs : Array Value), b ≠ g → Blk w b t cs → Blk w' b t cs := fun b t cs hn h => h.grown hG (fun e => by injection e with e; exact hn e)
/-- The state of a draw: g the generator, q the result's box, p the kind's box. -/
def PS (w0 wr : World) (g q p : Nat) (S : Src) (K : Nat) (x0 x1 x2 x3 x4 : Int) : Prop :=
  Cur wr g S K ∧ w0.grownBy wr (some g) ∧ Blk wr q 85 #[.int .i64 0, .int .i64 0, .int .i64 0, .int .i64 0, .int .i64 0] ∧ Blk wr p 85 #[.int .i64 x0, .int .i64 x1, .int .i64 x2, .int .i64 x3, .int .i64 x4] ∧ q ≠ g ∧ p ≠ g
section
variable {w0 wr w' : World} {g q p : Nat} {S : Src} {K : Nat} {x0 x1 x2 x3 x4 : Int}
theorem PS.cur (h : PS w0 wr g q p S K x0 x1 x2 x3 x4) : Cur wr g S K := h.1
theorem PS.grown (h : PS w0 wr g q p S K x0 x1 x2 x3 x4) : w0.grownBy wr (some g) := h.2.1
theorem PS.call {K' : Nat} (h : PS w0 wr g q p S K x0 x1 x2 x3 x4) (hC : Cur w' g S K') (hG : wr.grownBy w' (some g)) : PS w0 w' g q p S K' x0 x1 x2 x3 x4 := by
  obtain ⟨h1, h2, h3, h4, h6, h7⟩ := h
  exact ⟨hC, only_trans h2 hG, h3.grown hG (by intro e; injection e with e; omega), h4.grown hG (by intro e; injection e with e; omega), h6, h7⟩
theorem PS.alloc (h : PS w0 wr g q p S K x0 x1 x2 x3 x4) (o : Obj) : PS w0 (wr.alloc o) g q p S K x0 x1 x2 x3 x4 := h.call (h.1.alloc o) (only_alloc (World.grownBy.refl wr _) o)
theorem PS.drew (h : PS w0 wr g q p S K x0 x1 x2 x3 x4) : PS w0 wr.drew g q p S K x0 x1 x2 x3 x4 := h.call h.1.drew (only_drew (World.grownBy.refl wr _))
theorem PS.cells (h : PS w0 wr g q p S K x0 x1 x2 x3 x4) : wr.cell? ⟨p, 0, none⟩ = some (.int .i64 x0) ∧ wr.cell? ⟨p, 1, none⟩ = some (.int .i64 x1) ∧ wr.cell? ⟨p, 2, none⟩ = some (.int .i64 x2) ∧ wr.cell? ⟨p, 3, none⟩ = some (.int .i64 x3) ∧ wr.cell? ⟨p, 4, none⟩ = some (.int .i64 x4) := h.2.2.2.1.cells5
theorem PS.box (h : PS w0 wr g q p S K x0 x1 x2 x3 x4) : Blk wr q 85 #[.int .i64 0, .int .i64 0, .int .i64 0, .int .i64 0, .int .i64 0] := h.2.2.1
end
theorem gen_startK (w : World) (S : Src) (h : S.ok w) :
    Cur ((w.alloc (.cells #[.int .i64 0, .int .i64 0, .int .i64 0, .int .i64 0, .int .i64 0] 85)).alloc (.cells #[.slice S.A S.n S.c, .int .i64 0, .int .u64 0] 106)) (w.heap.size + 1) S 0 ∧
    Blk ((w.alloc (.cells #[.int .i64 0, .int .i64 0, .int .i64 0, .int .i64 0, .int .i64 0] 85)).alloc (.cells #[.slice S.A S.n S.c, .int .i64 0, .int .u64 0] 106)) w.heap.size 85 #[.int .i64 0, .int .i64 0, .int .i64 0, .int .i64 0, .int .i64 0] ∧
    Below w.heap.size w ((w.alloc (.cells #[.int .i64 0, .int .i64 0, .int .i64 0, .int .i64 0, .int .i64 0] 85)).alloc (.cells #[.slice S.A S.n S.c, .int .i64 0, .int .u64 0] 106)) := by
  have e1 : (w.alloc (.cells #[.int .i64 0, .int .i64 0, .int .i64 0, .int .i64 0, .int .i64 0] 85)).heap.size = w.heap.size + 1 := by simp
  have hb1 : Below w.heap.size w (w.alloc (.cells #[.int .i64 0, .int .i64 0, .int .i64 0, .int .i64 0, .int .i64 0] 85)) := (Below.refl _ _).alloc (Nat.le_refl _) _
  have h1 := Cur.new (h.below hb1)
  rw [e1] at h1
  exact ⟨h1, (Blk.new w _ _).alloc _, hb1.alloc (by simp) _⟩
theorem box_put5 {W w : World} {q : Nat} {t : TypeId} {a0 a1 a2 a3 a4 x0 x1 x2 x3 x4 : Value} (hB : Below W.heap.size W w) (hq : W.heap.size ≤ q) (hb : Blk w q t #[a0, a1, a2, a3, a4]) :
    Below W.heap.size W (((((w.setCell ⟨q, 0, none⟩ x0).setCell ⟨q, 1, none⟩ x1).setCell ⟨q, 2, none⟩ x2).setCell ⟨q, 3, none⟩ x3).setCell ⟨q, 4, none⟩ x4) ∧ Blk (((((w.setCell ⟨q, 0, none⟩ x0).setCell ⟨q, 1, none⟩ x1).setCell ⟨q, 2, none⟩ x2).setCell ⟨q, 3, none⟩ x3).setCell ⟨q, 4, none⟩ x4) q t #[x0, x1, x2, x3, x4] := by
  refine ⟨((((hB.setCell (p := ⟨q, 0, none⟩) hq _).setCell (p := ⟨q, 1, none⟩) hq _).setCell (p := ⟨q, 2, none⟩) hq _).setCell (p := ⟨q, 3, none⟩) hq _).setCell (p := ⟨q, 4, none⟩) hq _, ?_⟩
  simpa using ((((hb.set_ 0 x0).set_ 1 x1).set_ 2 x2).set_ 3 x3).set_ 4 x4
theorem below_genK {w w1 w' : World} {g : Nat} (hB : Below w.heap.size w w1) (hG : w1.grownBy w' (some g)) (hg : w.heap.size ≤ g) : Below w.heap.size w w' := hB.grown hG hB.size (fun k hk => by injection hk with hk; omega)
def GenKW (w : World) (e : Ending) (w' : World) : Prop := ∃ x0 x1 x2 x3 x4 m : Int, e = .returned (.tuple #[.agg #[.int .i64 x0, .int .i64 x1, .int .i64 x2, .int .i64 x3, .int .i64 x4], .int .i64 m]) ∧ Below w.heap.size w w'
set_option maxRecDepth 100000 in
set_option maxHeartbeats 8000000 in
theorem draw_RopeWeight (w : World) (S : Src) (h : S.ok w) : Calls Try.prog 88 #[.slice S.A S.n S.c] w (GenKW w) := by
  have H := Lib.hid (gen_startK w S h)
  clear h
  go_enter Try.func88, Try.ntmps88
  go_wp2_with fail
  refine (cur_ropeKind _ _ S 0 7 H.out.1 (by omega)).mono ?_
  rintro e w1 ⟨x0, x1, x2, x3, x4, rfl, hC, hG⟩
  have hz1 := hG.size
  simp at hz1
  have X0 : Hid (PS ((w.alloc (.cells #[.int .i64 0, .int .i64 0, .int .i64 0, .int .i64 0, .int .i64 0] 85)).alloc (.cells #[.slice S.A S.n S.c, .int .i64 0, .int .u64 0] 106)) (w1.alloc (.cells #[.int .i64 x0, .int .i64 x1, .int .i64 x2, .int .i64 x3, .int .i64 x4] 85)) (w.heap.size + 1) w.heap.size w1.heap.size S 20 x0 x1 x2 x3 x4) :=
    Lib.hid ⟨hC.alloc _, only_alloc hG _, (H.out.2.1.grown hG (by intro e; injection e with e; omega)).alloc _, Blk.new _ _ _, by omega, by omega⟩
  clear hC hG
  go_upto_region 3 with fail
  have HB := Lib.hid H.out.2.2
  clear H
  generalize w1.alloc (.cells #[.int .i64 x0, .int .i64 x1, .int .i64 x2, .int .i64 x3, .int .i64 x4] 85) = wx at *
  generalize (w.alloc (.cells #[.int .i64 0, .int .i64 0, .int .i64 0, .int .i64 0, .int .i64 0] 85)).alloc (.cells #[.slice S.A S.n S.c, .int .i64 0, .int .u64 0] 106) = v0 at *
  generalize w1.heap.size = p at *
  have hgl := X0.out.cur.lt
  generalize hg : w.heap.size + 1 = g at *
  have HGE := Lib.hid (show w.heap.size ≤ g by omega)
  obtain ⟨q, hq⟩ : ∃ q, q = w.heap.size := ⟨_, rfl⟩
  have HQ := Lib.hid hq
  rw [← hq] at X0 ⊢
  have hpq : p ≠ q := by omega
  have hqg : q < g := by omega
  clear hg hq hz1
  obtain ⟨c0, c1, c2, c3, c4⟩ := X0.out.cells
  go_region_held3 (fun w' => w'.cell? ⟨p, 0, none⟩ = some (.int .i64 x0) ∧ w'.cell? ⟨p, 1, none⟩ = some (.int .i64 x1) ∧ w'.cell? ⟨p, 2, none⟩ = some (.int .i64 x2) ∧ w'.cell? ⟨p, 3, none⟩ = some (.int .i64 x3) ∧ w'.cell? ⟨p, 4, none⟩ = some (.int .i64 x4)) (first | (with_reducible exact ⟨c0, c1, c2, c3, c4⟩) | ((refine PS.cells (w0 := v0) (g := g) (q := q) (p := p) (S := S) (K := 20) ?_); (repeat (first | (with_reducible exact X0.out) | (with_reducible apply PS.drew) | (with_reducible apply PS.alloc))); done) | ((refine PS.cells (w0 := v0) (g := g) (q := q) (p := p) (S := S) (K := 20 + 2) ?_); (repeat (first | (with_reducible exact X3.out) | (with_reducible apply PS.drew) | (with_reducible apply PS.alloc))); done) | ((refine PS.cells (w0 := v0) (g := g) (q := q) (p := p) (S := S) (K := 20 + 2 + 2) ?_); (repeat (first | (with_reducible exact X4.out) | (with_reducible apply PS.drew) | (with_reducible apply PS.alloc))); done) | exact (((((X4.out.2.2.2.1.far hpq _).far hpq _).far hpq _).far hpq _).far hpq _).cells5) (first | ((go_at_call 125; (with_reducible refine (cur_pick _ _ S (20) 24 ?_ (by omega) (by omega) (by omega)).mono ?_); (refine PS.cur (w0 := v0) (q := q) (p := p) (x0 := x0) (x1 := x1) (x2 := x2) (x3 := x3) (x4 := x4) ?_); (repeat (first | (with_reducible exact X0.out) | (with_reducible apply PS.drew) | (with_reducible apply PS.alloc))); rintro e w3 ⟨r, ⟨r0, r1⟩, rfl, hC, hG⟩; have X3 := Lib.hid (PS.call (show PS v0 _ g q p S (20) x0 x1 x2 x3 x4 from (by (repeat (first | (with_reducible exact X0.out) | (with_reducible apply PS.drew) | (with_reducible apply PS.alloc))))) hC hG); have T3 := Lib.hid (blk_past hG); clear hC hG; obtain ⟨rj, rfl⟩ := Int.eq_ofNat_of_zero_le r0; have r2 : (5 : Int) + (rj : Int) / 11 ≤ 7 := (by omega); have r3 : (0 : Int) ≤ (5 : Int) + (rj : Int) / 11 := (by omega); have r4 : ((5 : Int) + (rj : Int) / 11).toNat = 5 + rj / 11 := (by omega); have r5 : 5 + rj / 11 ≤ 7 := (by omega); have r6 : IntKind.i64.wrap ((rj : Int) / 11) = (rj : Int) / 11 := IntWalk.i64_in _ (by omega); have r7 : IntKind.i64.wrap (5 + (rj : Int) / 11) = 5 + (rj : Int) / 11 := IntWalk.i64_in _ (by omega); have hw3 := X3.out.cur.lt; clear c0 c1 c2 c3 c4; obtain ⟨c0, c1, c2, c3, c4⟩ := X3.out.cells)) | ((go_at_call 96; (with_reducible refine (cur_amongW _ _ S (20 + 2) ([0, 1, 3, 1000, 20000, -1, 20001].take (5 + rj / 11)) (fun r => True) _ _ _ ?_ ?_ ?_ ?_ ?_ ?_ (fun _ _ => trivial)).mono ?_); (refine PS.cur (w0 := v0) (q := q) (p := p) (x0 := x0) (x1 := x1) (x2 := x2) (x3 := x3) (x4 := x4) ?_); (repeat (first | (with_reducible exact X3.out) | (with_reducible apply PS.drew) | (with_reducible apply PS.alloc))); omega; (refine rd_blk8 (n := 7) (cs := #[.int .i64 0, .int .i64 1, .int .i64 3, .int .i64 1000, .int .i64 20000, .int .i64 (-1), .int .i64 20001]) ?_ rfl rfl (by omega)); (repeat (first | ((with_reducible refine Blk.newE ?_); (focus (first | rfl | (simp; done)))) | (with_reducible apply Blk.drew') | (with_reducible apply Blk.alloc) | ((with_reducible refine T3.out _ _ _ ?_ ?_); (focus (first | omega | (simp; omega)))))); (intro b off e; injection e with e; injection e with e1 e2; first | omega | (simp at e1; omega)); omega; omega; rintro e w4 ⟨a, _, rfl, hC, hG⟩; have X4 := Lib.hid (PS.call (show PS v0 _ g q p S (20 + 2) x0 x1 x2 x3 x4 from (by (repeat (first | (with_reducible exact X3.out) | (with_reducible apply PS.drew) | (with_reducible apply PS.alloc))))) hC hG); clear hC hG; have hw4 := X4.out.cur.lt; clear c0 c1 c2 c3 c4; obtain ⟨c0, c1, c2, c3, c4⟩ := X4.out.cells; (obtain ⟨k0, k1, k2, k3, k4⟩ := X4.out.box.cells5; have f0 := X4.out.box.frozen 0; have f1 := X4.out.box.frozen 1; have f2 := X4.out.box.frozen 2; have f3 := X4.out.box.frozen 3; have f4 := X4.out.box.frozen 4))))
  all_goals go_wp2_with fail
  all_goals go_light
  all_goals obtain ⟨p1, p2⟩ := box_put5 (x0 := .int .i64 x0) (x1 := .int .i64 x1) (x2 := .int .i64 x2) (x3 := .int .i64 x3) (x4 := .int .i64 x4) (below_genK HB.out X4.out.grown HGE.out) (Nat.le_of_eq HQ.out.symm) X4.out.box
  all_goals obtain ⟨e0, e1, e2, e3, e4⟩ := p2.cells5
  all_goals refine bodyPost_ret (v := .tuple #[.agg #[.int .i64 x0, .int .i64 x1, .int .i64 x2, .int .i64 x3, .int .i64 x4], .int .i64 a]) ?_ rfl ⟨x0, x1, x2, x3, x4, a, rfl, p1⟩
  all_goals simp [results, Try.results88, go_sem, e0, e1, e2, e3, e4]
def GenKsI (w : World) (e : Ending) (w' : World) : Prop := ∃ A c rows, ∃ a : Int, e = .returned (.tuple #[.slice A rows.length c, .int .i64 a]) ∧ rows.length ≤ 20 ∧ OwR w' w.heap.size 85 5 (.slice A rows.length c) rows ∧ Below w.heap.size w w'
set_option maxRecDepth 100000 in
set_option maxHeartbeats 4000000 in
theorem draw_LightestKind (w : World) (S : Src) (h : S.ok w) : Calls Try.prog 85 #[.slice S.A S.n S.c] w (GenKsI w) := by
  have H := Lib.hid (Cur.new h)
  have HB : Hid (Below w.heap.size w (w.alloc (.cells #[.slice S.A S.n S.c, .int .i64 0, .int .u64 0] 106))) := Lib.hid ((Below.refl _ _).alloc (Nat.le_refl _) _)
  have HS := Lib.hid (h.below HB.out)
  have hgs : (w.alloc (.cells #[.slice S.A S.n S.c, .int .i64 0, .int .u64 0] 106)).heap.size = w.heap.size + 1 := by simp
  have HGS := Lib.hid hgs
  clear h hgs
  go_enter Try.func85, Try.ntmps85
  go_wp2_with fail
  refine (draw_AreRopeKinds _ S HS.out).mono ?_
  rintro e w1 ⟨A, c, rows, rfl, hl, ho, hb⟩
  have C1 := Lib.hid (H.out.below hb)
  have HG1 := Lib.hid (only_of_below hb (some w.heap.size))
  have HO := Lib.hid ho
  have hg : w.heap.size < w1.heap.size := by have := hb.size; have := HGS.out; omega
  clear ho hb
  go_wp2_with ((go_at_call 125; (with_reducible refine (cur_pick _ _ S (0) (24) (C1.out.alloc _) (by omega) (by omega) (by omega)).mono ?_); rintro e w2 ⟨r, ⟨r0, r1⟩, rfl, hC, hG⟩; have Cw2 := Lib.hid hC; have Gw2 := Lib.hid hG; have Zw2 := hG.size; clear hC hG); obtain ⟨j, rfl⟩ := Int.eq_ofNat_of_zero_le r0)
  refine (cur_amongW w2 _ S (0 + 2) ([1, 800, 801, 5000, 0, 5001].take (4 + j / 11)) (fun r => True) _ _ _ Cw2.out (by omega) (rd_cut (n := 6) Gw2.out hg rfl rfl (by omega)) (by intro b off e; injection e with e; injection e with e1 e2; omega) (by omega) (by omega) (fun y hy => trivial)).mono ?_
  rintro e w3 ⟨a, _, rfl, hC, hG⟩
  have HG3 := Lib.hid (only_trans (only_trans (only_alloc (World.grownBy.refl w1 _) _) Gw2.out) hG)
  clear hC hG
  go_wp2_with fail
  go_ret2
  have hlt : w.heap.size < (w.alloc (.cells #[.slice S.A S.n S.c, .int .i64 0, .int .u64 0] 106)).heap.size := by have := HGS.out; omega
  exact ⟨A, c, rows, a, rfl, hl, (HO.out.gen HG3.out hlt).base (by omega), below_genK HB.out (only_trans HG1.out HG3.out) (Nat.le_refl _)⟩
end Go.Proofs.Ytjfmicemnoglkaa
