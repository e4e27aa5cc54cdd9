/- What the law on sags draws. -/
import Derived.Test.YtjfmicemnoglkaaSupE
namespace Go.Proofs.Ytjfmicemnoglkaa
open Go.RowKit
set_option linter.unusedVariables false
set_option linter.unusedSimpArgs false

theorem gen_start2 (w : World) (S : Src) (t : TypeId) (h : S.ok w) :
    Cur ((w.alloc (.cells #[.int .i64 0, .int .i64 0] t)).alloc (.cells #[.slice S.A S.n S.c, .int .i64 0, .int .u64 0] 106)) (w.heap.size + 1) S 0 ∧
    Blk ((w.alloc (.cells #[.int .i64 0, .int .i64 0] t)).alloc (.cells #[.slice S.A S.n S.c, .int .i64 0, .int .u64 0] 106)) w.heap.size t #[.int .i64 0, .int .i64 0] ∧
    Below w.heap.size w ((w.alloc (.cells #[.int .i64 0, .int .i64 0] t)).alloc (.cells #[.slice S.A S.n S.c, .int .i64 0, .int .u64 0] 106)) := by
  have e1 : (w.alloc (.cells #[.int .i64 0, .int .i64 0] t)).heap.size = w.heap.size + 1 := by simp
  have hb1 : Below w.heap.size w (w.alloc (.cells #[.int .i64 0, .int .i64 0] t)) := (Below.refl _ _).alloc (Nat.le_refl _) _
  have h1 := Cur.new (h.below hb1)
  rw [e1] at h1
  exact ⟨h1, (Blk.new w _ _).alloc _, hb1.alloc (by simp) _⟩
theorem below_gen2 {w w1 w' : World} {g : Nat} (hB : Below w.heap.size w w1) (hG : w1.grownBy w' (some g)) (hg : w.heap.size ≤ g) : Below w.heap.size w w' := hB.grown hG hB.size (fun k hk => by injection hk with hk; omega)
/-- The rope is stored into the result's box. -/
theorem box_put2 {W w : World} {q : Nat} {t : TypeId} {a0 a1 x0 x1 : Value} (hB : Below W.heap.size W w) (hq : W.heap.size ≤ q) (hb : Blk w q t #[a0, a1]) :
    Below W.heap.size W ((w.setCell ⟨q, 0, none⟩ x0).setCell ⟨q, 1, none⟩ x1) ∧ Blk ((w.setCell ⟨q, 0, none⟩ x0).setCell ⟨q, 1, none⟩ x1) q t #[x0, x1] :=
  ⟨(hB.setCell (p := ⟨q, 0, none⟩) hq _).setCell (p := ⟨q, 1, none⟩) hq _, hb.put2⟩
theorem OwL.far2 {w : World} {B q i j : Nat} {v : Value} {rows : List (List Int)} (h : OwL w B v rows) (hq : q < B) (x y : Value) : OwL ((w.setCell ⟨q, i, none⟩ x).setCell ⟨q, j, none⟩ y) B v rows :=
  h.gen (only_setCell (only_setCell (World.grownBy.refl w (some q)) (p := ⟨q, i, none⟩) (.inl rfl) x) (p := ⟨q, j, none⟩) (.inl rfl) y) hq
def GenLRI (w : World) (e : Ending) (w' : World) : Prop := ∃ A c rows, ∃ x p a : Int, e = .returned (.tuple #[.slice A rows.length c, .agg #[.int .i64 x, .int .i64 p], .int .i64 a]) ∧ rows.length ≤ 10 ∧ OwL w' w.heap.size (.slice A rows.length c) rows ∧ Below w.heap.size w w'
def GenLRII (w : World) (e : Ending) (w' : World) : Prop := ∃ A c rows, ∃ x p a b : Int, e = .returned (.tuple #[.slice A rows.length c, .agg #[.int .i64 x, .int .i64 p], .int .i64 a, .int .i64 b]) ∧ rows.length ≤ 10 ∧ OwL w' w.heap.size (.slice A rows.length c) rows ∧ Below w.heap.size w w'
def GenLR (w : World) (e : Ending) (w' : World) : Prop := ∃ A c rows, ∃ x p : Int, e = .returned (.tuple #[.slice A rows.length c, .agg #[.int .i64 x, .int .i64 p]]) ∧ rows.length ≤ 10 ∧ OwL w' w.heap.size (.slice A rows.length c) rows ∧ Below w.heap.size w w'
def GenLIII (w : World) (e : Ending) (w' : World) : Prop := ∃ A c rows, ∃ a b d : Int, e = .returned (.tuple #[.slice A rows.length c, .int .i64 a, .int .i64 b, .int .i64 d]) ∧ rows.length ≤ 10 ∧ OwL w' w.heap.size (.slice A rows.length c) rows ∧ Below w.heap.size w w'
set_option maxHeartbeats 1000000 in
theorem draw_SagAt (w : World) (S : Src) (h : S.ok w) : Calls Try.prog 20 #[.slice S.A S.n S.c] w (GenLRI w) := by
  have H := Lib.hid (gen_start2 w S 26 h)
  clear h
  go_enter Try.func20, Try.ntmps20
  (go_wp2_with fail; refine (cur_line _ _ S 0 H.out.1 (by omega)).mono ?_; rintro e w1 ⟨A, c, rows, rfl, hl, ho, hC, hG⟩; have HO := Lib.hid ho; have HC := Lib.hid hC; have HG := Lib.hid hG; clear ho hC hG)
  go_wp2_with fail
  (go_at_call 94; refine (cur_rope w1 _ S (300) HC.out (by omega)).mono ?_; rintro e w2 ⟨x, p, rfl, hC, hG⟩; have Cw2 := Lib.hid hC; have Gw2 := Lib.hid hG; have Zw2 := hG.size; clear hC hG)
  have HO2 := Lib.hid (HO.out.gen Gw2.out (by simp))
  go_wp2_with fail
  (go_at_call 95; refine (cur_placeOf w2 _ S (300 + 10) _ _ _ _ _ Cw2.out (by omega) HO2.out (by first | omega | (simp; omega) | simp) (by omega)).mono ?_; rintro e w3 ⟨a, _, rfl, hC, hG⟩; have Cw3 := Lib.hid hC; have Gw3 := Lib.hid hG; have Zw3 := hG.size; clear hC hG)
  have HO3 := Lib.hid (HO2.out.gen Gw3.out (by simp))
  have G3 := Lib.hid (only_trans HG.out (only_trans Gw2.out Gw3.out))
  have QB := Lib.hid (H.out.2.1.grown G3.out (by intro e; injection e with e; omega))
  obtain ⟨k0, k1⟩ := QB.out.cells2
  have f0 := QB.out.frozen 0
  have f1 := QB.out.frozen 1
  go_wp2_with fail
  go_light
  obtain ⟨p1, p2⟩ := box_put2 (x0 := .int .i64 x) (x1 := .int .i64 p) (below_gen2 H.out.2.2 G3.out (Nat.le_succ _)) (Nat.le_refl _) QB.out
  obtain ⟨e0, e1⟩ := p2.cells2
  refine bodyPost_ret (v := .tuple #[.slice A rows.length c, .agg #[.int .i64 x, .int .i64 p], .int .i64 a]) ?_ rfl ⟨A, c, rows, x, p, a, rfl, hl, (HO3.out.far2 (by simp; omega) _ _).base (by simp; omega), p1⟩
  simp [results, Try.results20, go_sem, e0, e1]
set_option maxHeartbeats 1000000 in
theorem draw_LoadedSag (w : World) (S : Src) (h : S.ok w) : Calls Try.prog 10 #[.slice S.A S.n S.c] w (GenLRII w) := by
  have H := Lib.hid (gen_start2 w S 26 h)
  clear h
  go_enter Try.func10, Try.ntmps10
  (go_wp2_with fail; refine (cur_line _ _ S 0 H.out.1 (by omega)).mono ?_; rintro e w1 ⟨A, c, rows, rfl, hl, ho, hC, hG⟩; have HO := Lib.hid ho; have HC := Lib.hid hC; have HG := Lib.hid hG; clear ho hC hG)
  go_wp2_with fail
  (go_at_call 94; refine (cur_rope w1 _ S (300) HC.out (by omega)).mono ?_; rintro e w2 ⟨x, p, rfl, hC, hG⟩; have Cw2 := Lib.hid hC; have Gw2 := Lib.hid hG; have Zw2 := hG.size; clear hC hG)
  have HO2 := Lib.hid (HO.out.gen Gw2.out (by simp))
  go_wp2_with fail
  (go_at_call 95; refine (cur_placeOf w2 _ S (300 + 10) _ _ _ _ _ Cw2.out (by omega) HO2.out (by first | omega | (simp; omega) | simp) (by omega)).mono ?_; rintro e w3 ⟨a, _, rfl, hC, hG⟩; have Cw3 := Lib.hid hC; have Gw3 := Lib.hid hG; have Zw3 := hG.size; clear hC hG)
  go_wp2_with fail
  (go_at_call 96; refine (cur_among w3 _ S (300 + 10 + 10) [0, 100, 8000, 20000, 20001, -1] (fun r => True) _ _ (Cw3.out) (by omega) rfl rfl (by decide) (by decide) (by decide)).mono ?_; rintro e w4 ⟨b, bp, rfl, hC, hG⟩; have Cw4 := Lib.hid hC; have Gw4 := Lib.hid hG; have Zw4 := hG.size; clear hC hG)
  have HO3 := Lib.hid ((HO2.out.gen Gw3.out (by simp)).gen Gw4.out (by simp))
  have G3 := Lib.hid (only_trans HG.out (only_trans Gw2.out (only_trans Gw3.out Gw4.out)))
  have QB := Lib.hid (H.out.2.1.grown G3.out (by intro e; injection e with e; omega))
  obtain ⟨k0, k1⟩ := QB.out.cells2
  have f0 := QB.out.frozen 0
  have f1 := QB.out.frozen 1
  go_wp2_with fail
  go_light
  obtain ⟨p1, p2⟩ := box_put2 (x0 := .int .i64 x) (x1 := .int .i64 p) (below_gen2 H.out.2.2 G3.out (Nat.le_succ _)) (Nat.le_refl _) QB.out
  obtain ⟨e0, e1⟩ := p2.cells2
  refine bodyPost_ret (v := .tuple #[.slice A rows.length c, .agg #[.int .i64 x, .int .i64 p], .int .i64 a, .int .i64 b]) ?_ rfl ⟨A, c, rows, x, p, a, b, rfl, hl, (HO3.out.far2 (by simp; omega) _ _).base (by simp; omega), p1⟩
  simp [results, Try.results10, go_sem, e0, e1]
set_option maxHeartbeats 1000000 in
theorem draw_GreatestSag (w : World) (S : Src) (h : S.ok w) : Calls Try.prog 22 #[.slice S.A S.n S.c] w (GenLR w) := by
  have H := Lib.hid (gen_start2 w S 26 h)
  clear h
  go_enter Try.func22, Try.ntmps22
  (go_wp2_with fail; refine (cur_line _ _ S 0 H.out.1 (by omega)).mono ?_; rintro e w1 ⟨A, c, rows, rfl, hl, ho, hC, hG⟩; have HO := Lib.hid ho; have HC := Lib.hid hC; have HG := Lib.hid hG; clear ho hC hG)
  go_wp2_with fail
  (go_at_call 94; refine (cur_rope w1 _ S (300) HC.out (by omega)).mono ?_; rintro e w2 ⟨x, p, rfl, hC, hG⟩; have Cw2 := Lib.hid hC; have Gw2 := Lib.hid hG; have Zw2 := hG.size; clear hC hG)
  have HO3 := Lib.hid (HO.out.gen Gw2.out (by simp))
  have G3 := Lib.hid (only_trans HG.out Gw2.out)
  have QB := Lib.hid (H.out.2.1.grown G3.out (by intro e; injection e with e; omega))
  obtain ⟨k0, k1⟩ := QB.out.cells2
  have f0 := QB.out.frozen 0
  have f1 := QB.out.frozen 1
  go_wp2_with fail
  go_light
  obtain ⟨p1, p2⟩ := box_put2 (x0 := .int .i64 x) (x1 := .int .i64 p) (below_gen2 H.out.2.2 G3.out (Nat.le_succ _)) (Nat.le_refl _) QB.out
  obtain ⟨e0, e1⟩ := p2.cells2
  refine bodyPost_ret (v := .tuple #[.slice A rows.length c, .agg #[.int .i64 x, .int .i64 p]]) ?_ rfl ⟨A, c, rows, x, p, rfl, hl, (HO3.out.far2 (by simp; omega) _ _).base (by simp; omega), p1⟩
  simp [results, Try.results22, go_sem, e0, e1]
set_option maxHeartbeats 1000000 in
theorem draw_PullFor (w : World) (S : Src) (h : S.ok w) : Calls Try.prog 17 #[.slice S.A S.n S.c] w (GenLIII w) := by
  have H := Lib.hid (Cur.new h)
  clear h
  go_enter Try.func17, Try.ntmps17
  (go_wp2_with fail; refine (cur_line _ _ S 0 H.out (by omega)).mono ?_; rintro e w1 ⟨A, c, rows, rfl, hl, ho, hC, hG⟩; have HO := Lib.hid ho; have HC := Lib.hid hC; have HG := Lib.hid hG; clear ho hC hG)
  go_wp2_with fail
  (go_at_call 96; refine (cur_among w1 _ S (300) [1, 20, 50, 200, 0, 201] (fun r => True) _ _ (HC.out) (by omega) rfl rfl (by decide) (by decide) (by decide)).mono ?_; rintro e w2 ⟨x, xp, rfl, hC, hG⟩; have Cw2 := Lib.hid hC; have Gw2 := Lib.hid hG; have Zw2 := hG.size; clear hC hG)
  have HO2 := Lib.hid (HO.out.gen Gw2.out (by simp))
  go_wp2_with fail
  (go_at_call 95; refine (cur_placeOf w2 _ S (300 + 2) _ _ _ _ _ Cw2.out (by omega) HO2.out (by first | omega | (simp; omega) | simp) (by omega)).mono ?_; rintro e w3 ⟨a, _, rfl, hC, hG⟩; have Cw3 := Lib.hid hC; have Gw3 := Lib.hid hG; have Zw3 := hG.size; clear hC hG)
  go_wp2_with fail
  (go_at_call 96; refine (cur_among w3 _ S (300 + 2 + 10) [0, 1, 2, 5, 20, 100, 101, -1] (fun r => True) _ _ (Cw3.out) (by omega) rfl rfl (by decide) (by decide) (by decide)).mono ?_; rintro e w4 ⟨b, bp, rfl, hC, hG⟩; have Cw4 := Lib.hid hC; have Gw4 := Lib.hid hG; have Zw4 := hG.size; clear hC hG)
  have HO3 := Lib.hid ((HO2.out.gen Gw3.out (by simp)).gen Gw4.out (by simp))
  have G3 := Lib.hid (only_trans HG.out (only_trans Gw2.out (only_trans Gw3.out Gw4.out)))
  go_wp2_with fail
  go_light
  refine bodyPost_ret (v := .tuple #[.slice A rows.length c, .int .i64 x, .int .i64 a, .int .i64 b]) ?_ rfl ⟨A, c, rows, x, a, b, rfl, hl, HO3.out.base (by simp), below_gen G3.out⟩
  simp [results, Try.results17, go_sem]
end Go.Proofs.Ytjfmicemnoglkaa
