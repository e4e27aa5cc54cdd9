/- What the law on prices draws. -/
import Derived.Test.YtobcgcdjoogfnaaPriA
import Derived.Test.YtobcgcdjoogfnaaDrawW
import Derived.Test.YtobcgcdjoogfnaaBlkN
import Derived.Deep.RegionLaw
namespace Go.Proofs.Ytobcgcdjoogfnaa
open Go.RowKit
set_option linter.unusedVariables false
set_option linter.unusedSimpArgs false

theorem rd_blk8 {w : World} {q n k : Nat} {cs : Array Value} {ys : List Int} (h : Blk w q 3 cs) (hcs : cs = (IV ys).toArray) (hn : ys.length = n) (hk : k ≤ n) : Rd w 1 (some ⟨q, 0, none⟩) k (IV (ys.take k)) := by
  have h2 := (rd_blk h hcs hn).take hk
  simpa [List.map_take] using h2
theorem blk_past {w w' : World} {g : Nat} (hG : w.grownBy w' (some g)) : ∀ (b : Nat) (t : TypeId) (cs : Array Value), b ≠ g → Blk w b t cs → Blk w' b t cs := fun b t cs hn h => h.grown hG (fun e => by injection e with e; exact hn e)
/-- The state of a draw: g the generator, q the result's box, p the prices' box. -/
def PS (w0 wr : World) (g q p : Nat) (S : Src) (K : Nat) (x0 x1 x2 x3 : Int) : Prop :=
  Cur wr g S K ∧ w0.grownBy wr (some g) ∧ Blk wr q 39 #[.int .i64 0, .int .i64 0, .int .i64 0, .int .i64 0] ∧ Blk wr p 39 #[.int .i64 x0, .int .i64 x1, .int .i64 x2, .int .i64 x3] ∧ q ≠ g ∧ p ≠ g
section
variable {w0 wr w' : World} {g q p : Nat} {S : Src} {K : Nat} {x0 x1 x2 x3 : Int}
theorem PS.cur (h : PS w0 wr g q p S K x0 x1 x2 x3) : Cur wr g S K := h.1
theorem PS.grown (h : PS w0 wr g q p S K x0 x1 x2 x3) : w0.grownBy wr (some g) := h.2.1
theorem PS.call {K' : Nat} (h : PS w0 wr g q p S K x0 x1 x2 x3) (hC : Cur w' g S K') (hG : wr.grownBy w' (some g)) : PS w0 w' g q p S K' x0 x1 x2 x3 := by
  obtain ⟨h1, h2, h3, h4, h6, h7⟩ := h
  exact ⟨hC, only_trans h2 hG, h3.grown hG (by intro e; injection e with e; omega), h4.grown hG (by intro e; injection e with e; omega), h6, h7⟩
theorem PS.alloc (h : PS w0 wr g q p S K x0 x1 x2 x3) (o : Obj) : PS w0 (wr.alloc o) g q p S K x0 x1 x2 x3 := h.call (h.1.alloc o) (only_alloc (World.grownBy.refl wr _) o)
theorem PS.drew (h : PS w0 wr g q p S K x0 x1 x2 x3) : PS w0 wr.drew g q p S K x0 x1 x2 x3 := h.call h.1.drew (only_drew (World.grownBy.refl wr _))
theorem PS.cells (h : PS w0 wr g q p S K x0 x1 x2 x3) : wr.cell? ⟨p, 0, none⟩ = some (.int .i64 x0) ∧ wr.cell? ⟨p, 1, none⟩ = some (.int .i64 x1) ∧ wr.cell? ⟨p, 2, none⟩ = some (.int .i64 x2) ∧ wr.cell? ⟨p, 3, none⟩ = some (.int .i64 x3) := h.2.2.2.1.cells4
theorem PS.box (h : PS w0 wr g q p S K x0 x1 x2 x3) : Blk wr q 39 #[.int .i64 0, .int .i64 0, .int .i64 0, .int .i64 0] := h.2.2.1
end
theorem gen_start4 (w : World) (S : Src) (h : S.ok w) :
    Cur ((w.alloc (.cells #[.int .i64 0, .int .i64 0, .int .i64 0, .int .i64 0] 39)).alloc (.cells #[.slice S.A S.n S.c, .int .i64 0, .int .u64 0] 98)) (w.heap.size + 1) S 0 ∧
    Blk ((w.alloc (.cells #[.int .i64 0, .int .i64 0, .int .i64 0, .int .i64 0] 39)).alloc (.cells #[.slice S.A S.n S.c, .int .i64 0, .int .u64 0] 98)) w.heap.size 39 #[.int .i64 0, .int .i64 0, .int .i64 0, .int .i64 0] ∧
    Below w.heap.size w ((w.alloc (.cells #[.int .i64 0, .int .i64 0, .int .i64 0, .int .i64 0] 39)).alloc (.cells #[.slice S.A S.n S.c, .int .i64 0, .int .u64 0] 98)) := by
  have e1 : (w.alloc (.cells #[.int .i64 0, .int .i64 0, .int .i64 0, .int .i64 0] 39)).heap.size = w.heap.size + 1 := by simp
  have hb1 : Below w.heap.size w (w.alloc (.cells #[.int .i64 0, .int .i64 0, .int .i64 0, .int .i64 0] 39)) := (Below.refl _ _).alloc (Nat.le_refl _) _
  have h1 := Cur.new (h.below hb1)
  rw [e1] at h1
  exact ⟨h1, (Blk.new w _ _).alloc _, hb1.alloc (by simp) _⟩
theorem box_put4 {W w : World} {q : Nat} {t : TypeId} {a0 a1 a2 a3 x0 x1 x2 x3 : Value} (hB : Below W.heap.size W w) (hq : W.heap.size ≤ q) (hb : Blk w q t #[a0, a1, a2, a3]) :
    Below W.heap.size W ((((w.setCell ⟨q, 0, none⟩ x0).setCell ⟨q, 1, none⟩ x1).setCell ⟨q, 2, none⟩ x2).setCell ⟨q, 3, none⟩ x3) ∧
    Blk ((((w.setCell ⟨q, 0, none⟩ x0).setCell ⟨q, 1, none⟩ x1).setCell ⟨q, 2, none⟩ x2).setCell ⟨q, 3, none⟩ x3) q t #[x0, x1, x2, x3] := by
  refine ⟨(((hB.setCell (p := ⟨q, 0, none⟩) hq _).setCell (p := ⟨q, 1, none⟩) hq _).setCell (p := ⟨q, 2, none⟩) hq _).setCell (p := ⟨q, 3, none⟩) hq _, ?_⟩
  simpa using (((hb.set_ 0 x0).set_ 1 x1).set_ 2 x2).set_ 3 x3
theorem OwR.far4 {w : World} {B F q : Nat} {e : TypeId} {v : Value} {rows : List (List Int)} (h : OwR w B e F v rows) (hq : q < B) (a b c d : Value) : OwR ((((w.setCell ⟨q, 0, none⟩ a).setCell ⟨q, 1, none⟩ b).setCell ⟨q, 2, none⟩ c).setCell ⟨q, 3, none⟩ d) B e F v rows :=
  h.gen (only_setCell (only_setCell (only_setCell (only_setCell (World.grownBy.refl w (some q)) (p := ⟨q, 0, none⟩) (.inl rfl) a) (p := ⟨q, 1, none⟩) (.inl rfl) b) (p := ⟨q, 2, none⟩) (.inl rfl) c) (p := ⟨q, 3, none⟩) (.inl rfl) d) hq
def GenP (w : World) (e : Ending) (w' : World) : Prop := ∃ x0 x1 x2 x3 a b : Int, e = .returned (.tuple #[.agg #[.int .i64 x0, .int .i64 x1, .int .i64 x2, .int .i64 x3], .int .i64 a, .int .i64 b]) ∧ Below w.heap.size w w'
def GenPR (w : World) (m : Nat) (e : Ending) (w' : World) : Prop := ∃ x0 x1 x2 x3 : Int, ∃ A c rows, ∃ a : Int, e = .returned (.tuple #[.agg #[.int .i64 x0, .int .i64 x1, .int .i64 x2, .int .i64 x3], .slice A rows.length c, .int .i64 a]) ∧ rows.length ≤ m ∧ OwR w' w.heap.size 25 5 (.slice A rows.length c) rows ∧ Below w.heap.size w w'
def GenR (w : World) (m : Nat) (e : Ending) (w' : World) : Prop := ∃ A c rows, e = .returned (.slice A rows.length c) ∧ rows.length ≤ m ∧ OwR w' w.heap.size 25 5 (.slice A rows.length c) rows ∧ Below w.heap.size w w'
set_option maxHeartbeats 1000000 in
theorem draw_AreTickets (w : World) (S : Src) (h : S.ok w) : Calls Try.prog 80 #[.slice S.A S.n S.c] w (GenR w 20) := by
  have H := Lib.hid (Cur.new h)
  go_enter Try.func80, Try.ntmps80
  go_wp2_with fail
  refine (cur_tickets _ _ S 0 H.out (by omega)).mono ?_
  rintro e w1 ⟨A, c, rows, rfl, hl, ho, hC, hG⟩
  have HO := Lib.hid ho
  have HG := Lib.hid hG
  clear ho hC hG
  go_wp2_with fail
  go_ret
  exact ⟨A, c, rows, rfl, hl, HO.out.base (by simp), below_gen HG.out⟩
theorem draw_StillUp (w : World) (S : Src) (h : S.ok w) : Calls Try.prog 49 #[.slice S.A S.n S.c] w (GenR w 20) := by
  have H := Lib.hid (draw_AreTickets w S h)
  clear h
  go_enter Try.func49, Try.ntmps49
  go_wp2_with fail
  refine H.out.mono ?_
  rintro e w1 ⟨A, c, rows, rfl, hl, ho, hb⟩
  go_wp2_with fail
  go_ret
  exact ⟨A, c, rows, rfl, hl, ho, hb⟩
set_option maxRecDepth 100000 in
set_option maxHeartbeats 4000000 in
theorem draw_SalesOn (w : World) (S : Src) (h : S.ok w) : Calls Try.prog 48 #[.slice S.A S.n S.c] w (GenPR w 20) := by
  have H := Lib.hid (gen_start4 w S h)
  clear h
  go_enter Try.func48, Try.ntmps48
  go_wp2_with fail
  refine (cur_prices _ _ S 0 H.out.1 (by omega)).mono ?_
  rintro e w1 ⟨x0, x1, x2, x3, rfl, hC, hG⟩
  have hz1 := hG.size
  simp at hz1
  have X0 : Hid (PS ((w.alloc (.cells #[.int .i64 0, .int .i64 0, .int .i64 0, .int .i64 0] 39)).alloc (.cells #[.slice S.A S.n S.c, .int .i64 0, .int .u64 0] 98)) (w1.alloc (.cells #[.int .i64 x0, .int .i64 x1, .int .i64 x2, .int .i64 x3] 39)) (w.heap.size + 1) w.heap.size w1.heap.size S 20 x0 x1 x2 x3) :=
    Lib.hid ⟨hC.alloc _, only_alloc hG _, (H.out.2.1.grown hG (by intro e; injection e with e; omega)).alloc _, Blk.new _ _ _, by omega, by omega⟩
  clear hC hG
  go_wp2_with fail
  have HB := Lib.hid H.out.2.2
  have hpw : w1.heap.size ≠ w.heap.size := by omega
  clear H
  generalize w1.alloc (.cells #[.int .i64 x0, .int .i64 x1, .int .i64 x2, .int .i64 x3] 39) = wx at *
  generalize (w.alloc (.cells #[.int .i64 0, .int .i64 0, .int .i64 0, .int .i64 0] 39)).alloc (.cells #[.slice S.A S.n S.c, .int .i64 0, .int .u64 0] 98) = v0 at *
  generalize w1.heap.size = p at *
  refine (cur_tickets wx _ S 20 X0.out.cur (by omega)).mono ?_
  rintro e w2 ⟨A, c, rows, rfl, hl, ho, hC, hG⟩
  have X2 := Lib.hid (X0.out.call hC hG)
  have HO := Lib.hid ho
  have hsz := X0.out.box.lt
  have hsz2 := X0.out.cur.lt
  clear hC hG ho
  obtain ⟨c0, c1, c2, c3⟩ := X2.out.cells
  go_wp2_with fail
  go_region_held3 (fun w' => w'.cell? ⟨p, 0, none⟩ = some (.int .i64 x0) ∧ w'.cell? ⟨p, 1, none⟩ = some (.int .i64 x1) ∧ w'.cell? ⟨p, 2, none⟩ = some (.int .i64 x2) ∧ w'.cell? ⟨p, 3, none⟩ = some (.int .i64 x3)) (first | exact ⟨c0, c1, c2, c3⟩ | exact ((((X3.out.2.2.2.1.far hpw _).far hpw _).far hpw _).far hpw _).cells4) ((go_at_call 79; refine (cur_day11 _ _ S (20 + 3000) ?_ (by omega)).mono ?_; (refine PS.cur (w0 := v0) (q := w.heap.size) (p := p) (x0 := x0) (x1 := x1) (x2 := x2) (x3 := x3) ?_); (repeat (first | (with_reducible exact X2.out) | (with_reducible apply PS.drew) | (with_reducible apply PS.alloc))); rintro e w3 ⟨a, _, rfl, hC, hG⟩; have X3 := Lib.hid (PS.call (show PS v0 _ (w.heap.size + 1) w.heap.size p S (20 + 3000) x0 x1 x2 x3 from (by (repeat (first | (with_reducible exact X2.out) | (with_reducible apply PS.drew) | (with_reducible apply PS.alloc))))) hC hG); have HO3 : Hid (OwR w3 wx.heap.size 25 5 (.slice A rows.length c) rows) := Lib.hid (by first | exact OwR.gen HO.out hG hsz2 | exact OwR.gen (w := w2.drew) HO.out hG hsz2); clear hC hG c0 c1 c2 c3; obtain ⟨c0, c1, c2, c3⟩ := X3.out.cells; obtain ⟨k0, k1, k2, k3⟩ := X3.out.box.cells4; have f0 := X3.out.box.frozen 0; have f1 := X3.out.box.frozen 1; have f2 := X3.out.box.frozen 2; have f3 := X3.out.box.frozen 3))
  all_goals go_wp2_with fail
  all_goals go_light
  all_goals obtain ⟨p1, p2⟩ := box_put4 (x0 := .int .i64 x0) (x1 := .int .i64 x1) (x2 := .int .i64 x2) (x3 := .int .i64 x3) (below_gen2 HB.out X3.out.grown (Nat.le_succ _)) (Nat.le_refl _) X3.out.box
  all_goals obtain ⟨e0, e1, e2, e3⟩ := p2.cells4
  all_goals refine bodyPost_ret (v := .tuple #[.agg #[.int .i64 x0, .int .i64 x1, .int .i64 x2, .int .i64 x3], .slice A rows.length c, .int .i64 a]) ?_ rfl ⟨x0, x1, x2, x3, A, c, rows, a, rfl, hl, (HO3.out.far4 hsz _ _ _ _).base (by omega), p1⟩
  all_goals simp [results, Try.results48, go_sem, e0, e1, e2, e3]
set_option maxRecDepth 100000 in
set_option maxHeartbeats 8000000 in
theorem draw_CheapestFor (w : World) (S : Src) (h : S.ok w) : Calls Try.prog 46 #[.slice S.A S.n S.c] w (GenP w) := by
  have H := Lib.hid (gen_start4 w S h)
  clear h
  go_enter Try.func46, Try.ntmps46
  go_wp2_with fail
  refine (cur_prices _ _ S 0 H.out.1 (by omega)).mono ?_
  rintro e w1 ⟨x0, x1, x2, x3, rfl, hC, hG⟩
  have hz1 := hG.size
  simp at hz1
  have X0 : Hid (PS ((w.alloc (.cells #[.int .i64 0, .int .i64 0, .int .i64 0, .int .i64 0] 39)).alloc (.cells #[.slice S.A S.n S.c, .int .i64 0, .int .u64 0] 98)) (w1.alloc (.cells #[.int .i64 x0, .int .i64 x1, .int .i64 x2, .int .i64 x3] 39)) (w.heap.size + 1) w.heap.size w1.heap.size S 20 x0 x1 x2 x3) :=
    Lib.hid ⟨hC.alloc _, only_alloc hG _, (H.out.2.1.grown hG (by intro e; injection e with e; omega)).alloc _, Blk.new _ _ _, by omega, by omega⟩
  clear hC hG
  go_upto_region 3 with fail
  have HB := Lib.hid H.out.2.2
  clear H
  generalize w1.alloc (.cells #[.int .i64 x0, .int .i64 x1, .int .i64 x2, .int .i64 x3] 39) = wx at *
  generalize (w.alloc (.cells #[.int .i64 0, .int .i64 0, .int .i64 0, .int .i64 0] 39)).alloc (.cells #[.slice S.A S.n S.c, .int .i64 0, .int .u64 0] 98) = v0 at *
  generalize w1.heap.size = p at *
  have hgl := X0.out.cur.lt
  generalize hg : w.heap.size + 1 = g at *
  have HGE := Lib.hid (show w.heap.size ≤ g by omega)
  have hqq : w.heap.size = w.heap.size := rfl
  have hqg : w.heap.size < g := by omega
  obtain ⟨q, hq⟩ : ∃ q, q = w.heap.size := ⟨_, rfl⟩
  have HQ := Lib.hid hq
  rw [← hq] at X0 hqg ⊢
  have hpq : p ≠ q := by omega
  clear hg hq hqq hz1
  obtain ⟨c0, c1, c2, c3⟩ := X0.out.cells
  go_region_held3 (fun w' => w'.cell? ⟨p, 0, none⟩ = some (.int .i64 x0) ∧ w'.cell? ⟨p, 1, none⟩ = some (.int .i64 x1) ∧ w'.cell? ⟨p, 2, none⟩ = some (.int .i64 x2) ∧ w'.cell? ⟨p, 3, none⟩ = some (.int .i64 x3)) (first | exact ⟨c0, c1, c2, c3⟩ | ((refine PS.cells (w0 := v0) (g := g) (q := q) (p := p) (S := S) (K := 20) ?_); (repeat (first | (with_reducible exact X0.out) | (with_reducible apply PS.drew) | (with_reducible apply PS.alloc))); done) | ((refine PS.cells (w0 := v0) (g := g) (q := q) (p := p) (S := S) (K := 20 + 2) ?_); (repeat (first | (with_reducible exact X3.out) | (with_reducible apply PS.drew) | (with_reducible apply PS.alloc))); done) | ((refine PS.cells (w0 := v0) (g := g) (q := q) (p := p) (S := S) (K := 20 + 2 + 2) ?_); (repeat (first | (with_reducible exact X4.out) | (with_reducible apply PS.drew) | (with_reducible apply PS.alloc))); done) | ((refine PS.cells (w0 := v0) (g := g) (q := q) (p := p) (S := S) (K := 20 + 2 + 2 + 2) ?_); (repeat (first | (with_reducible exact X5.out) | (with_reducible apply PS.drew) | (with_reducible apply PS.alloc))); done) | ((refine PS.cells (w0 := v0) (g := g) (q := q) (p := p) (S := S) (K := 20 + 2 + 2 + 2 + 2) ?_); (repeat (first | (with_reducible exact X6.out) | (with_reducible apply PS.drew) | (with_reducible apply PS.alloc))); done) | exact ((((X6.out.2.2.2.1.far hpq _).far hpq _).far hpq _).far hpq _).cells4) (first | ((go_at_call 77; (with_reducible refine (cur_pick _ _ S (20) 24 ?_ (by omega) (by omega) (by omega)).mono ?_); (refine PS.cur (w0 := v0) (q := q) (p := p) (x0 := x0) (x1 := x1) (x2 := x2) (x3 := x3) ?_); (repeat (first | (with_reducible exact X0.out) | (with_reducible apply PS.drew) | (with_reducible apply PS.alloc))); rintro e w3 ⟨r, ⟨r0, r1⟩, rfl, hC, hG⟩; have X3 := Lib.hid (PS.call (show PS v0 _ g q p S (20) x0 x1 x2 x3 from (by (repeat (first | (with_reducible exact X0.out) | (with_reducible apply PS.drew) | (with_reducible apply PS.alloc))))) hC hG); have T3 := Lib.hid (blk_past hG); clear hC hG; obtain ⟨rj, rfl⟩ := Int.eq_ofNat_of_zero_le r0; have r2 : (6 : Int) + (rj : Int) / 11 ≤ 8 := (by omega); have r3 : (0 : Int) ≤ (6 : Int) + (rj : Int) / 11 := (by omega); have r4 : ((6 : Int) + (rj : Int) / 11).toNat = 6 + rj / 11 := (by omega); have r5 : 6 + rj / 11 ≤ 8 := (by omega); have r6 : IntKind.i64.wrap ((rj : Int) / 11) = (rj : Int) / 11 := IntWalk.i64_in _ (by omega); have r7 : IntKind.i64.wrap (6 + (rj : Int) / 11) = 6 + (rj : Int) / 11 := IntWalk.i64_in _ (by omega); have hw3 := X3.out.cur.lt; clear c0 c1 c2 c3; obtain ⟨c0, c1, c2, c3⟩ := X3.out.cells)) | ((go_at_call 76; (with_reducible refine (cur_amongW _ _ S (20 + 2) ([0, 1, 2, 5, 11, 20, -1, 21].take (6 + rj / 11)) (fun r => True) _ _ _ ?_ ?_ ?_ ?_ ?_ ?_ (fun _ _ => trivial)).mono ?_); (refine PS.cur (w0 := v0) (q := q) (p := p) (x0 := x0) (x1 := x1) (x2 := x2) (x3 := x3) ?_); (repeat (first | (with_reducible exact X3.out) | (with_reducible apply PS.drew) | (with_reducible apply PS.alloc))); omega; (refine rd_blk8 (n := 8) (cs := #[.int .i64 0, .int .i64 1, .int .i64 2, .int .i64 5, .int .i64 11, .int .i64 20, .int .i64 (-1), .int .i64 21]) ?_ rfl rfl (by omega)); (repeat (first | ((with_reducible refine Blk.newE ?_); (focus (first | rfl | (simp; done)))) | (with_reducible apply Blk.drew') | (with_reducible apply Blk.alloc) | ((with_reducible refine T5.out _ _ _ ?_ ?_); (focus (first | omega | (simp; omega)))) | ((with_reducible refine T4.out _ _ _ ?_ ?_); (focus (first | omega | (simp; omega)))) | ((with_reducible refine T3.out _ _ _ ?_ ?_); (focus (first | omega | (simp; omega)))))); (intro b off e; injection e with e; injection e with e1 e2; first | omega | (simp at e1; omega)); omega; omega; rintro e w4 ⟨a, _, rfl, hC, hG⟩; have X4 := Lib.hid (PS.call (show PS v0 _ g q p S (20 + 2) x0 x1 x2 x3 from (by (repeat (first | (with_reducible exact X3.out) | (with_reducible apply PS.drew) | (with_reducible apply PS.alloc))))) hC hG); have T4 := Lib.hid (blk_past hG); clear hC hG; have hw4 := X4.out.cur.lt; clear c0 c1 c2 c3; obtain ⟨c0, c1, c2, c3⟩ := X4.out.cells; skip)) | ((go_at_call 77; (with_reducible refine (cur_pick _ _ S (20 + 2 + 2) 24 ?_ (by omega) (by omega) (by omega)).mono ?_); (refine PS.cur (w0 := v0) (q := q) (p := p) (x0 := x0) (x1 := x1) (x2 := x2) (x3 := x3) ?_); (repeat (first | (with_reducible exact X4.out) | (with_reducible apply PS.drew) | (with_reducible apply PS.alloc))); rintro e w5 ⟨s, ⟨s0, s1⟩, rfl, hC, hG⟩; have X5 := Lib.hid (PS.call (show PS v0 _ g q p S (20 + 2 + 2) x0 x1 x2 x3 from (by (repeat (first | (with_reducible exact X4.out) | (with_reducible apply PS.drew) | (with_reducible apply PS.alloc))))) hC hG); have T5 := Lib.hid (blk_past hG); clear hC hG; obtain ⟨sj, rfl⟩ := Int.eq_ofNat_of_zero_le s0; have s2 : (6 : Int) + (sj : Int) / 11 ≤ 8 := (by omega); have s3 : (0 : Int) ≤ (6 : Int) + (sj : Int) / 11 := (by omega); have s4 : ((6 : Int) + (sj : Int) / 11).toNat = 6 + sj / 11 := (by omega); have s5 : 6 + sj / 11 ≤ 8 := (by omega); have s6 : IntKind.i64.wrap ((sj : Int) / 11) = (sj : Int) / 11 := IntWalk.i64_in _ (by omega); have s7 : IntKind.i64.wrap (6 + (sj : Int) / 11) = 6 + (sj : Int) / 11 := IntWalk.i64_in _ (by omega); have hw5 := X5.out.cur.lt; clear c0 c1 c2 c3; obtain ⟨c0, c1, c2, c3⟩ := X5.out.cells)) | ((go_at_call 76; (with_reducible refine (cur_amongW _ _ S (20 + 2 + 2 + 2) ([0, 1, 2, 4, 10, 20, -1, 21].take (6 + sj / 11)) (fun r => True) _ _ _ ?_ ?_ ?_ ?_ ?_ ?_ (fun _ _ => trivial)).mono ?_); (refine PS.cur (w0 := v0) (q := q) (p := p) (x0 := x0) (x1 := x1) (x2 := x2) (x3 := x3) ?_); (repeat (first | (with_reducible exact X5.out) | (with_reducible apply PS.drew) | (with_reducible apply PS.alloc))); omega; (refine rd_blk8 (n := 8) (cs := #[.int .i64 0, .int .i64 1, .int .i64 2, .int .i64 4, .int .i64 10, .int .i64 20, .int .i64 (-1), .int .i64 21]) ?_ rfl rfl (by omega)); (repeat (first | ((with_reducible refine Blk.newE ?_); (focus (first | rfl | (simp; done)))) | (with_reducible apply Blk.drew') | (with_reducible apply Blk.alloc) | ((with_reducible refine T5.out _ _ _ ?_ ?_); (focus (first | omega | (simp; omega)))) | ((with_reducible refine T4.out _ _ _ ?_ ?_); (focus (first | omega | (simp; omega)))) | ((with_reducible refine T3.out _ _ _ ?_ ?_); (focus (first | omega | (simp; omega)))))); (intro b off e; injection e with e; injection e with e1 e2; first | omega | (simp at e1; omega)); omega; omega; rintro e w6 ⟨b, _, rfl, hC, hG⟩; have X6 := Lib.hid (PS.call (show PS v0 _ g q p S (20 + 2 + 2 + 2) x0 x1 x2 x3 from (by (repeat (first | (with_reducible exact X5.out) | (with_reducible apply PS.drew) | (with_reducible apply PS.alloc))))) hC hG); have T6 := Lib.hid (blk_past hG); clear hC hG; have hw6 := X6.out.cur.lt; clear c0 c1 c2 c3; obtain ⟨c0, c1, c2, c3⟩ := X6.out.cells; (obtain ⟨k0, k1, k2, k3⟩ := X6.out.box.cells4; have f0 := X6.out.box.frozen 0; have f1 := X6.out.box.frozen 1; have f2 := X6.out.box.frozen 2; have f3 := X6.out.box.frozen 3))))
  all_goals go_wp2_with fail
  all_goals go_light
  all_goals obtain ⟨p1, p2⟩ := box_put4 (x0 := .int .i64 x0) (x1 := .int .i64 x1) (x2 := .int .i64 x2) (x3 := .int .i64 x3) (below_gen2 HB.out X6.out.grown HGE.out) (Nat.le_of_eq HQ.out.symm) X6.out.box
  all_goals obtain ⟨e0, e1, e2, e3⟩ := p2.cells4
  all_goals refine bodyPost_ret (v := .tuple #[.agg #[.int .i64 x0, .int .i64 x1, .int .i64 x2, .int .i64 x3], .int .i64 a, .int .i64 b]) ?_ rfl ⟨x0, x1, x2, x3, a, b, rfl, p1⟩
  all_goals simp [results, Try.results46, go_sem, e0, e1, e2, e3]
end Go.Proofs.Ytobcgcdjoogfnaa
