/- A ticket, a day and a way that are drawn. -/
import Derived.Test.YtobcgcdjoogfnaaDrawV
namespace Go.Proofs.Ytobcgcdjoogfnaa
open Go.RowKit
set_option linter.unusedVariables false
set_option linter.unusedSimpArgs false

theorem gen_start5 (w : World) (S : Src) (h : S.ok w) :
    Cur ((w.alloc (.cells #[.int .i64 0, .int .i64 0, .int .i64 0, .int .i64 0, .int .i64 0] 25)).alloc (.cells #[.slice S.A S.n S.c, .int .i64 0, .int .u64 0] 98)) (w.heap.size + 1) S 0 ∧
    Blk ((w.alloc (.cells #[.int .i64 0, .int .i64 0, .int .i64 0, .int .i64 0, .int .i64 0] 25)).alloc (.cells #[.slice S.A S.n S.c, .int .i64 0, .int .u64 0] 98)) w.heap.size 25 #[.int .i64 0, .int .i64 0, .int .i64 0, .int .i64 0, .int .i64 0] ∧
    Below w.heap.size w ((w.alloc (.cells #[.int .i64 0, .int .i64 0, .int .i64 0, .int .i64 0, .int .i64 0] 25)).alloc (.cells #[.slice S.A S.n S.c, .int .i64 0, .int .u64 0] 98)) := by
  have e1 : (w.alloc (.cells #[.int .i64 0, .int .i64 0, .int .i64 0, .int .i64 0, .int .i64 0] 25)).heap.size = w.heap.size + 1 := by simp
  have hb1 : Below w.heap.size w (w.alloc (.cells #[.int .i64 0, .int .i64 0, .int .i64 0, .int .i64 0, .int .i64 0] 25)) := (Below.refl _ _).alloc (Nat.le_refl _) _
  have h1 := Cur.new (h.below hb1)
  rw [e1] at h1
  exact ⟨h1, (Blk.new w _ _).alloc _, hb1.alloc (by simp) _⟩
theorem below_gen2 {w w1 w' : World} {g : Nat} (hB : Below w.heap.size w w1) (hG : w1.grownBy w' (some g)) (hg : w.heap.size ≤ g) : Below w.heap.size w w' := hB.grown hG hB.size (fun k hk => by injection hk with hk; omega)
theorem Blk.frozen5 {w : World} {g : Nat} {t : TypeId} {cs : Array Value} (h : Blk w g t cs) : w.frozen? ⟨g, 0, none⟩ = false ∧ w.frozen? ⟨g, 1, none⟩ = false ∧ w.frozen? ⟨g, 2, none⟩ = false ∧ w.frozen? ⟨g, 3, none⟩ = false ∧ w.frozen? ⟨g, 4, none⟩ = false := ⟨h.frozen 0, h.frozen 1, h.frozen 2, h.frozen 3, h.frozen 4⟩
theorem box_put5 {W w : World} {q : Nat} {t : TypeId} {a0 a1 a2 a3 a4 x0 x1 x2 x3 x4 : Value} (hB : Below W.heap.size W w) (hq : W.heap.size ≤ q) (hb : Blk w q t #[a0, a1, a2, a3, a4]) :
    Below W.heap.size W (((((w.setCell ⟨q, 0, none⟩ x0).setCell ⟨q, 1, none⟩ x1).setCell ⟨q, 2, none⟩ x2).setCell ⟨q, 3, none⟩ x3).setCell ⟨q, 4, none⟩ x4) ∧
    Blk (((((w.setCell ⟨q, 0, none⟩ x0).setCell ⟨q, 1, none⟩ x1).setCell ⟨q, 2, none⟩ x2).setCell ⟨q, 3, none⟩ x3).setCell ⟨q, 4, none⟩ x4) q t #[x0, x1, x2, x3, x4] := by
  refine ⟨((((hB.setCell (p := ⟨q, 0, none⟩) hq _).setCell (p := ⟨q, 1, none⟩) hq _).setCell (p := ⟨q, 2, none⟩) hq _).setCell (p := ⟨q, 3, none⟩) hq _).setCell (p := ⟨q, 4, none⟩) hq _, ?_⟩
  simpa using ((((hb.set_ 0 x0).set_ 1 x1).set_ 2 x2).set_ 3 x3).set_ 4 x4
set_option maxHeartbeats 1000000 in
theorem draw_CanRide (w : World) (S : Src) (h : S.ok w) : Calls Try.prog 55 #[.slice S.A S.n S.c] w (GenTIB w) := by
  have H := Lib.hid (gen_start5 w S h)
  clear h
  go_enter Try.func55, Try.ntmps55
  go_wp2_with fail
  refine (cur_ticket _ _ S 0 _ H.out.1 (by omega)).mono ?_
  rintro e w1 ⟨x0, x1, x2, x3, x4, rfl, hC, hG⟩
  have HC := Lib.hid hC
  have HG := Lib.hid hG
  clear hC hG
  go_wp2_with (first | (go_at_call 79; refine (cur_day11 w1 _ S 100 HC.out (by omega)).mono ?_; rintro e w2 ⟨r, rp, rfl, hC, hG⟩; have Cw2 := Lib.hid hC; have Gw2 := Lib.hid hG; have Zw2 := hG.size; clear hC hG) | ((go_at_call 81; (with_reducible refine (cur_one w2 _ S (100 + 4) (2) (Cw2.out) (by omega) (by omega) (by omega)).mono ?_); rintro e w3 ⟨t, rfl, hC, hG⟩; have Cw3 := Lib.hid hC; have Gw3 := Lib.hid hG; have Zw3 := hG.size; clear hC hG); have G3 := Lib.hid (only_trans HG.out (only_trans Gw2.out Gw3.out)); have QB := Lib.hid (H.out.2.1.grown G3.out (by intro e; injection e with e; omega)); obtain ⟨k0, k1, k2, k3, k4⟩ := QB.out.cells5; obtain ⟨f0, f1, f2, f3, f4⟩ := QB.out.frozen5))
  go_light
  obtain ⟨p1, p2⟩ := box_put5 (x0 := .int .i64 x0) (x1 := .int .i64 x1) (x2 := .int .i64 x2) (x3 := .int .i64 x3) (x4 := .int .i64 x4) (below_gen2 H.out.2.2 G3.out (Nat.le_succ _)) (Nat.le_refl _) QB.out
  obtain ⟨e0, e1, e2, e3, e4⟩ := p2.cells5
  refine bodyPost_ret (v := .tuple #[.agg #[.int .i64 x0, .int .i64 x1, .int .i64 x2, .int .i64 x3, .int .i64 x4], .int .i64 r, .bool t]) ?_ rfl ⟨x0, x1, x2, x3, x4, r, t, rfl, p1⟩
  simp [results, Try.results55, go_sem, e0, e1, e2, e3, e4]
end Go.Proofs.Ytobcgcdjoogfnaa
