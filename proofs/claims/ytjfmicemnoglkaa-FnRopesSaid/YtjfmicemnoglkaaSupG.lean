/- Load cases, and what the laws on tensions draw. -/
import Derived.Test.YtjfmicemnoglkaaSupF
namespace Go.Proofs.Ytjfmicemnoglkaa
open Go.RowKit
set_option linter.unusedVariables false
set_option linter.unusedSimpArgs false

def DrewT3 (w : World) (g : Nat) (S : Src) (K : Nat) (e : Ending) (w' : World) : Prop :=
  ∃ x y z : Int, e = .returned (.agg #[.int .i64 x, .int .i64 y, .int .i64 z]) ∧ Cur w' g S K ∧ w.grownBy w' (some g)
theorem Blk.cells3 {w : World} {g : Nat} {t : TypeId} {a b c : Value} (h : Blk w g t #[a, b, c]) : w.cell? ⟨g, 0, none⟩ = some a ∧ w.cell? ⟨g, 1, none⟩ = some b ∧ w.cell? ⟨g, 2, none⟩ = some c := ⟨by simpa using h.cell 0, by simpa using h.cell 1, by simpa using h.cell 2⟩
theorem Blk.put3 {w : World} {g : Nat} {t : TypeId} {a b c x y z : Value} (h : Blk w g t #[a, b, c]) : Blk (((w.setCell ⟨g, 0, none⟩ x).setCell ⟨g, 1, none⟩ y).setCell ⟨g, 2, none⟩ z) g t #[x, y, z] := by simpa using ((h.set_ 0 x).set_ 1 y).set_ 2 z
set_option maxHeartbeats 1000000 in
theorem cur_loadCase (w : World) (g : Nat) (S : Src) (K : Nat) (h : Cur w g S K) (hK : K ≤ 700000) : Calls Try.prog 132 #[.pointer (some ⟨g, 0, none⟩)] w (DrewT3 w g S (K + 10)) := by
  have H := Lib.hid h
  have hg := h.lt
  clear h
  go_enter Try.func132, Try.ntmps132
  go_wp2_with fail
  (go_at_call 96; refine (cur_amongA _ _ (by simp) _ S (K) [1, 20, 50, 100, 300, 1000, 0, 1001, 60] (fun r => True) _ _ (H.out.alloc _) (by omega) rfl rfl (by decide) (by decide) (by decide)).mono ?_; rintro e w1 ⟨x, xp, rfl, hC, hG⟩; have Cw1 := Lib.hid hC; have Gw1 := Lib.hid hG; have Zw1 := hG.size; clear hC hG)
  go_wp2_with fail
  (go_at_call 96; refine (cur_among w1 _ S (K + 2) [1, 100, 5000, 20000, 100000, 1000000, 0, 1000001, 40000, 300000] (fun r => True) _ _ (Cw1.out) (by omega) rfl rfl (by decide) (by decide) (by decide)).mono ?_; rintro e w2 ⟨y, yp, rfl, hC, hG⟩; have Cw2 := Lib.hid hC; have Gw2 := Lib.hid hG; have Zw2 := hG.size; clear hC hG)
  go_wp2_with fail
  (go_at_call 96; refine (cur_among w2 _ S (K + 2 + 2) [0, 0, 10, 100, 500, 1000, -1, 1001, 200] (fun r => True) _ _ (Cw2.out) (by omega) rfl rfl (by decide) (by decide) (by decide)).mono ?_; rintro e w3 ⟨z, zp, rfl, hC, hG⟩; have Cw3 := Lib.hid hC; have Gw3 := Lib.hid hG; have Zw3 := hG.size; clear hC hG)
  have hne : ∀ {g : Nat}, g < w.heap.size → some w.heap.size ≠ some g := fun h e => by injection e with e; omega
  have T := Lib.hid ((((Blk.new w 70 #[.int .i64 0, .int .i64 0, .int .i64 0]).grown Gw1.out (hne hg)).grown Gw2.out (hne hg)).grown Gw3.out (hne hg))
  have z1 := Gw1.out.size
  have z2 := Gw2.out.size
  have z3 := Gw3.out.size
  simp at z1
  obtain ⟨c0, c1, c2⟩ := T.out.cells3
  have f0 := T.out.frozen 0
  have f1 := T.out.frozen 1
  have f2 := T.out.frozen 2
  have P := Lib.hid (T.out.put3 (x := .int .i64 x) (y := .int .i64 y) (z := .int .i64 z))
  have CC := Lib.hid (Cw3.out.far3 (b := w.heap.size) (i := 0) (j := 1) (k := 2) hg (.int .i64 x) (.int .i64 y) (.int .i64 z))
  have GG := Lib.hid (only_set3 (b := w.heap.size) (i := 0) (j := 1) (k := 2) (only_trans (only_trans (only_trans (only_alloc (World.grownBy.refl w _) _) Gw1.out) Gw2.out) Gw3.out) (Nat.le_refl _) (.int .i64 x) (.int .i64 y) (.int .i64 z))
  clear hne
  go_wp2_with fail
  go_light
  obtain ⟨e0, e1, e2⟩ := P.out.cells3
  refine bodyPost_ret (v := .agg #[.int .i64 x, .int .i64 y, .int .i64 z]) ?_ rfl ⟨x, y, z, rfl, CC.out.more (by omega), GG.out⟩
  simp [results, Try.results132, go_sem, e0, e1, e2]
theorem gen_start3 (w : World) (S : Src) (t : TypeId) (h : S.ok w) :
    Cur ((w.alloc (.cells #[.int .i64 0, .int .i64 0, .int .i64 0] t)).alloc (.cells #[.slice S.A S.n S.c, .int .i64 0, .int .u64 0] 106)) (w.heap.size + 1) S 0 ∧
    Blk ((w.alloc (.cells #[.int .i64 0, .int .i64 0, .int .i64 0] t)).alloc (.cells #[.slice S.A S.n S.c, .int .i64 0, .int .u64 0] 106)) w.heap.size t #[.int .i64 0, .int .i64 0, .int .i64 0] ∧
    Below w.heap.size w ((w.alloc (.cells #[.int .i64 0, .int .i64 0, .int .i64 0] t)).alloc (.cells #[.slice S.A S.n S.c, .int .i64 0, .int .u64 0] 106)) := by
  have e1 : (w.alloc (.cells #[.int .i64 0, .int .i64 0, .int .i64 0] t)).heap.size = w.heap.size + 1 := by simp
  have hb1 : Below w.heap.size w (w.alloc (.cells #[.int .i64 0, .int .i64 0, .int .i64 0] t)) := (Below.refl _ _).alloc (Nat.le_refl _) _
  have h1 := Cur.new (h.below hb1)
  rw [e1] at h1
  exact ⟨h1, (Blk.new w _ _).alloc _, hb1.alloc (by simp) _⟩
theorem box_put3 {W w : World} {q : Nat} {t : TypeId} {a0 a1 a2 x0 x1 x2 : Value} (hB : Below W.heap.size W w) (hq : W.heap.size ≤ q) (hb : Blk w q t #[a0, a1, a2]) :
    Below W.heap.size W (((w.setCell ⟨q, 0, none⟩ x0).setCell ⟨q, 1, none⟩ x1).setCell ⟨q, 2, none⟩ x2) ∧ Blk (((w.setCell ⟨q, 0, none⟩ x0).setCell ⟨q, 1, none⟩ x1).setCell ⟨q, 2, none⟩ x2) q t #[x0, x1, x2] :=
  ⟨((hB.setCell (p := ⟨q, 0, none⟩) hq _).setCell (p := ⟨q, 1, none⟩) hq _).setCell (p := ⟨q, 2, none⟩) hq _, hb.put3⟩
theorem OwL.far3 {w : World} {B q i j k : Nat} {v : Value} {rows : List (List Int)} (h : OwL w B v rows) (hq : q < B) (x y z : Value) : OwL (((w.setCell ⟨q, i, none⟩ x).setCell ⟨q, j, none⟩ y).setCell ⟨q, k, none⟩ z) B v rows :=
  h.gen (only_setCell (only_setCell (only_setCell (World.grownBy.refl w (some q)) (p := ⟨q, i, none⟩) (.inl rfl) x) (p := ⟨q, j, none⟩) (.inl rfl) y) (p := ⟨q, k, none⟩) (.inl rfl) z) hq
def GenLC (w : World) (e : Ending) (w' : World) : Prop := ∃ A c rows, ∃ x y z : Int, e = .returned (.tuple #[.slice A rows.length c, .agg #[.int .i64 x, .int .i64 y, .int .i64 z]]) ∧ rows.length ≤ 10 ∧ OwL w' w.heap.size (.slice A rows.length c) rows ∧ Below w.heap.size w w'
set_option maxHeartbeats 1000000 in
theorem draw_UpTensions (w : World) (S : Src) (h : S.ok w) : Calls Try.prog 63 #[.slice S.A S.n S.c] w (GenLC w) := by
  have H := Lib.hid (gen_start3 w S 70 h)
  clear h
  go_enter Try.func63, Try.ntmps63
  (go_wp2_with fail; refine (cur_line _ _ S 0 H.out.1 (by omega)).mono ?_; rintro e w1 ⟨A, c, rows, rfl, hl, ho, hC, hG⟩; have HO := Lib.hid ho; have HC := Lib.hid hC; have HG := Lib.hid hG; clear ho hC hG)
  go_wp2_with fail
  refine (cur_loadCase w1 _ S 300 HC.out (by omega)).mono ?_
  rintro e w2 ⟨x, y, z, rfl, hC, hG⟩
  have Gw2 := Lib.hid hG
  clear hC hG
  have HO3 := Lib.hid (HO.out.gen Gw2.out (by simp))
  have G3 := Lib.hid (only_trans HG.out Gw2.out)
  have QB := Lib.hid (H.out.2.1.grown G3.out (by intro e; injection e with e; omega))
  obtain ⟨k0, k1, k2⟩ := QB.out.cells3
  have f0 := QB.out.frozen 0
  have f1 := QB.out.frozen 1
  have f2 := QB.out.frozen 2
  go_wp2_with fail
  go_light
  obtain ⟨p1, p2⟩ := box_put3 (x0 := .int .i64 x) (x1 := .int .i64 y) (x2 := .int .i64 z) (below_gen2 H.out.2.2 G3.out (Nat.le_succ _)) (Nat.le_refl _) QB.out
  obtain ⟨e0, e1, e2⟩ := p2.cells3
  refine bodyPost_ret (v := .tuple #[.slice A rows.length c, .agg #[.int .i64 x, .int .i64 y, .int .i64 z]]) ?_ rfl ⟨A, c, rows, x, y, z, rfl, hl, (HO3.out.far3 (by simp; omega) _ _ _).base (by simp; omega), p1⟩
  simp [results, Try.results63, go_sem, e0, e1, e2]
set_option maxHeartbeats 1000000 in
theorem draw_DriveForce (w : World) (S : Src) (h : S.ok w) : Calls Try.prog 52 #[.slice S.A S.n S.c] w (GenLC w) := by
  have hb1 : Below w.heap.size w (w.alloc (.cells #[.int .i64 0, .int .i64 0, .int .i64 0] 70)) := (Below.refl _ _).alloc (Nat.le_refl _) _
  have H := Lib.hid (draw_UpTensions (w.alloc (.cells #[.int .i64 0, .int .i64 0, .int .i64 0] 70)) S (h.below hb1))
  have HB := Lib.hid hb1
  have T := Lib.hid (Blk.new w 70 #[.int .i64 0, .int .i64 0, .int .i64 0])
  clear h hb1
  go_enter Try.func52, Try.ntmps52
  go_wp2_with fail
  refine H.out.mono ?_
  rintro e w1 ⟨A, c, rows, x, y, z, rfl, hl, ho, hb⟩
  have HO := Lib.hid ho
  have B1 := Lib.hid (Below.thenn HB.out hb HB.out.size)
  have Q := Lib.hid (T.out.below hb T.out.lt)
  have hz := hb.size
  simp at hz
  clear ho hb
  obtain ⟨k0, k1, k2⟩ := Q.out.cells3
  have f0 := Q.out.frozen 0
  have f1 := Q.out.frozen 1
  have f2 := Q.out.frozen 2
  go_wp2_with fail
  go_light
  obtain ⟨p1, p2⟩ := box_put3 (x0 := .int .i64 x) (x1 := .int .i64 y) (x2 := .int .i64 z) B1.out (Nat.le_refl _) Q.out
  obtain ⟨e0, e1, e2⟩ := p2.cells3
  refine bodyPost_ret (v := .tuple #[.slice A rows.length c, .agg #[.int .i64 x, .int .i64 y, .int .i64 z]]) ?_ rfl ⟨A, c, rows, x, y, z, rfl, hl, (HO.out.far3 (by simp) _ _ _).base (by simp), p1⟩
  simp [results, Try.results52, go_sem, e0, e1, e2]
set_option maxHeartbeats 1000000 in
theorem draw_LeastCounter (w : World) (S : Src) (h : S.ok w) : Calls Try.prog 61 #[.slice S.A S.n S.c] w (GenLC w) := by
  have hb1 : Below w.heap.size w (w.alloc (.cells #[.int .i64 0, .int .i64 0, .int .i64 0] 70)) := (Below.refl _ _).alloc (Nat.le_refl _) _
  have H := Lib.hid (draw_UpTensions (w.alloc (.cells #[.int .i64 0, .int .i64 0, .int .i64 0] 70)) S (h.below hb1))
  have HB := Lib.hid hb1
  have T := Lib.hid (Blk.new w 70 #[.int .i64 0, .int .i64 0, .int .i64 0])
  clear h hb1
  go_enter Try.func61, Try.ntmps61
  go_wp2_with fail
  refine H.out.mono ?_
  rintro e w1 ⟨A, c, rows, x, y, z, rfl, hl, ho, hb⟩
  have HO := Lib.hid ho
  have B1 := Lib.hid (Below.thenn HB.out hb HB.out.size)
  have Q := Lib.hid (T.out.below hb T.out.lt)
  have hz := hb.size
  simp at hz
  clear ho hb
  obtain ⟨k0, k1, k2⟩ := Q.out.cells3
  have f0 := Q.out.frozen 0
  have f1 := Q.out.frozen 1
  have f2 := Q.out.frozen 2
  go_wp2_with fail
  go_light
  obtain ⟨p1, p2⟩ := box_put3 (x0 := .int .i64 x) (x1 := .int .i64 y) (x2 := .int .i64 z) B1.out (Nat.le_refl _) Q.out
  obtain ⟨e0, e1, e2⟩ := p2.cells3
  refine bodyPost_ret (v := .tuple #[.slice A rows.length c, .agg #[.int .i64 x, .int .i64 y, .int .i64 z]]) ?_ rfl ⟨A, c, rows, x, y, z, rfl, hl, (HO.out.far3 (by simp) _ _ _).base (by simp), p1⟩
  simp [results, Try.results61, go_sem, e0, e1, e2]
set_option maxHeartbeats 1000000 in
theorem draw_DownTensions (w : World) (S : Src) (h : S.ok w) : Calls Try.prog 65 #[.slice S.A S.n S.c] w (GenLC w) := by
  have hb1 : Below w.heap.size w (w.alloc (.cells #[.int .i64 0, .int .i64 0, .int .i64 0] 70)) := (Below.refl _ _).alloc (Nat.le_refl _) _
  have H := Lib.hid (draw_UpTensions (w.alloc (.cells #[.int .i64 0, .int .i64 0, .int .i64 0] 70)) S (h.below hb1))
  have HB := Lib.hid hb1
  have T := Lib.hid (Blk.new w 70 #[.int .i64 0, .int .i64 0, .int .i64 0])
  clear h hb1
  go_enter Try.func65, Try.ntmps65
  go_wp2_with fail
  refine H.out.mono ?_
  rintro e w1 ⟨A, c, rows, x, y, z, rfl, hl, ho, hb⟩
  have HO := Lib.hid ho
  have B1 := Lib.hid (Below.thenn HB.out hb HB.out.size)
  have Q := Lib.hid (T.out.below hb T.out.lt)
  have hz := hb.size
  simp at hz
  clear ho hb
  obtain ⟨k0, k1, k2⟩ := Q.out.cells3
  have f0 := Q.out.frozen 0
  have f1 := Q.out.frozen 1
  have f2 := Q.out.frozen 2
  go_wp2_with fail
  go_light
  obtain ⟨p1, p2⟩ := box_put3 (x0 := .int .i64 x) (x1 := .int .i64 y) (x2 := .int .i64 z) B1.out (Nat.le_refl _) Q.out
  obtain ⟨e0, e1, e2⟩ := p2.cells3
  refine bodyPost_ret (v := .tuple #[.slice A rows.length c, .agg #[.int .i64 x, .int .i64 y, .int .i64 z]]) ?_ rfl ⟨A, c, rows, x, y, z, rfl, hl, (HO.out.far3 (by simp) _ _ _).base (by simp), p1⟩
  simp [results, Try.results65, go_sem, e0, e1, e2]
end Go.Proofs.Ytjfmicemnoglkaa
