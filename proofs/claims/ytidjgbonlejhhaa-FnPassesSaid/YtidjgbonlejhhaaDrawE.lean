/- What the generator draws for the laws on circles. -/
import Derived.Test.YtidjgbonlejhhaaDrawD
namespace Go.Proofs.Ytidjgbonlejhhaa
open Go.RowKit
set_option linter.unusedVariables false
set_option linter.unusedSimpArgs false

def GenC (w : World) (e : Ending) (w' : World) : Prop := ∃ l s A c zs, e = .returned (.agg #[.int .i64 l, .int .i64 s, .slice A zs.length c]) ∧ zs.length ≤ 20 ∧ Ow w' w.heap.size (.slice A zs.length c) zs ∧ Below w.heap.size w w'
def GenCI (w : World) (e : Ending) (w' : World) : Prop := ∃ l s A c zs, ∃ a : Int, e = .returned (.tuple #[.agg #[.int .i64 l, .int .i64 s, .slice A zs.length c], .int .i64 a]) ∧ zs.length ≤ 20 ∧ Ow w' w.heap.size (.slice A zs.length c) zs ∧ Below w.heap.size w w'
def GenCII (w : World) (e : Ending) (w' : World) : Prop := ∃ l s A c zs, ∃ a b : Int, e = .returned (.tuple #[.agg #[.int .i64 l, .int .i64 s, .slice A zs.length c], .int .i64 a, .int .i64 b]) ∧ zs.length ≤ 20 ∧ Ow w' w.heap.size (.slice A zs.length c) zs ∧ Below w.heap.size w w'
/-- A circle in a box of zeros. -/
abbrev put3 (w : World) (q : Nat) (l s : Int) (v : Value) : World := ((w.setCell ⟨q, 0, none⟩ (.int .i64 l)).setCell ⟨q, 1, none⟩ (.int .i64 s)).setCell ⟨q, 2, none⟩ v
theorem gen_put {W w : World} {q B : Nat} {cs : Array Value} {v : Value} {zs : List Int} {l s : Int} (hB : Below W.heap.size W w) (hq : W.heap.size ≤ q) (hb : Blk w q 27 cs) (hc : cs.size = 3) (ho : Ow w B v zs) (hBo : W.heap.size ≤ B) :
    Below W.heap.size W (put3 w q l s v) ∧ Ow (put3 w q l s v) W.heap.size v zs ∧ (put3 w q l s v).cell? ⟨q, 0, none⟩ = some (.int .i64 l) ∧ (put3 w q l s v).cell? ⟨q, 1, none⟩ = some (.int .i64 s) ∧ (put3 w q l s v).cell? ⟨q, 2, none⟩ = some v := by
  have h3 := ((hb.set_ 0 (.int .i64 l)).set_ 1 (.int .i64 s)).set_ 2 v
  refine ⟨Below.set3 hB hq _ _ _, (((ho.boxed hb 0 _).boxed (hb.set_ 0 _) 1 _).boxed ((hb.set_ 0 _).set_ 1 _) 2 _).base hBo, ?_, ?_, ?_⟩
  · rw [h3.cell 0]; simp [hc]
  · rw [h3.cell 1]; simp [hc]
  · rw [h3.cell 2]; simp [hc]
abbrev zeroC : Array Value := #[.int .i64 0, .int .i64 0, .slice none 0 0]
/-- A box of zeros and a generator. -/
theorem gen_start (w : World) (S : Src) (h : S.ok w) :
    Cur ((w.alloc (.cells #[.int .i64 0, .int .i64 0, .slice none 0 0] 27)).alloc (.cells #[.slice S.A S.n S.c, .int .i64 0, .int .u64 0] 73)) (w.heap.size + 1) S 0 ∧
    Blk ((w.alloc (.cells #[.int .i64 0, .int .i64 0, .slice none 0 0] 27)).alloc (.cells #[.slice S.A S.n S.c, .int .i64 0, .int .u64 0] 73)) w.heap.size 27 #[.int .i64 0, .int .i64 0, .slice none 0 0] ∧
    Below w.heap.size w ((w.alloc (.cells #[.int .i64 0, .int .i64 0, .slice none 0 0] 27)).alloc (.cells #[.slice S.A S.n S.c, .int .i64 0, .int .u64 0] 73)) ∧
    w.heap.size + 2 = ((w.alloc (.cells #[.int .i64 0, .int .i64 0, .slice none 0 0] 27)).alloc (.cells #[.slice S.A S.n S.c, .int .i64 0, .int .u64 0] 73)).heap.size := by
  have e1 : (w.alloc (.cells #[.int .i64 0, .int .i64 0, .slice none 0 0] 27)).heap.size = w.heap.size + 1 := by simp
  have hb1 : Below w.heap.size w (w.alloc (.cells #[.int .i64 0, .int .i64 0, .slice none 0 0] 27)) := (Below.refl _ _).alloc (Nat.le_refl _) _
  have h1 := Cur.new (h.below hb1)
  rw [e1] at h1
  exact ⟨h1, (Blk.new w _ _).alloc _, hb1.alloc (by simp) _, by simp⟩
theorem below_gen2 {w w1 w' : World} {g : Nat} (hB : Below w.heap.size w w1) (hG : w1.grownBy w' (some g)) (hg : w.heap.size ≤ g) : Below w.heap.size w w' := hB.grown hG hB.size (fun k hk => by injection hk with hk; omega)

set_option maxHeartbeats 1000000 in
theorem draw_IsCircle (w : World) (S : Src) (h : S.ok w) : Calls Try.prog 70 #[.slice S.A S.n S.c] w (GenC w) := by
  have H := Lib.hid (gen_start w S h)
  clear h
  go_enter Try.func70, Try.ntmps70
  go_wp2_with fail
  refine (cur_circle _ _ S 0 H.out.1 (by omega)).mono ?_
  rintro e w1 ⟨l, s, A, c, zs, rfl, hl, hl0, hl1, ho, hC, hG⟩
  have hB1 := H.out.2.1.grown hG (by intro e; injection e with e; omega)
  have hP := gen_put (l := l) (s := s) (below_gen2 H.out.2.2.1 hG (by omega)) (Nat.le_refl _) hB1 rfl ho H.out.2.2.1.size
  have HP := Lib.hid hP
  have k0 := hB1.cell 0
  have k1 := hB1.cell 1
  have k2 := hB1.cell 2
  have f0 := hB1.frozen 0
  have f1 := hB1.frozen 1
  have f2 := hB1.frozen 2
  simp at k0 k1 k2
  clear hP ho hC hG hB1
  go_wp2_with fail
  go_light
  obtain ⟨p1, p2, e0, e1, e2⟩ := HP.out
  refine bodyPost_ret (v := .agg #[.int .i64 l, .int .i64 s, .slice A zs.length c]) ?_ rfl ⟨l, s, A, c, zs, rfl, hl, p2, p1⟩
  simp [results, Try.results70, go_sem, e0, e1, e2]
set_option maxHeartbeats 1000000 in
theorem draw_RoundTime (w : World) (S : Src) (h : S.ok w) : Calls Try.prog 45 #[.slice S.A S.n S.c] w (GenC w) := by
  have hb0 : Below w.heap.size w (w.alloc (.cells #[.int .i64 0, .int .i64 0, .slice none 0 0] 27)) := (Below.refl _ _).alloc (Nat.le_refl _) _
  have H := Lib.hid (h.below hb0)
  have hbk := Blk.new w 27 #[.int .i64 0, .int .i64 0, .slice none 0 0]
  have HBK := Lib.hid hbk
  have HB0 := Lib.hid hb0
  clear h hb0 hbk
  go_enter Try.func45, Try.ntmps45
  go_wp2_with fail
  refine (draw_IsCircle _ S H.out).mono ?_
  rintro e w1 ⟨l, s, A, c, zs, rfl, hl, ho, hB⟩
  have hB1 := HBK.out.below hB HBK.out.lt
  have hP := gen_put (l := l) (s := s) (Below.thenn HB0.out hB HB0.out.size) (Nat.le_refl _) hB1 rfl ho HB0.out.size
  have HP := Lib.hid hP
  have k0 := hB1.cell 0
  have k1 := hB1.cell 1
  have k2 := hB1.cell 2
  have f0 := hB1.frozen 0
  have f1 := hB1.frozen 1
  have f2 := hB1.frozen 2
  simp at k0 k1 k2
  clear hP ho hB hB1
  go_wp2_with fail
  go_light
  obtain ⟨p1, p2, e0, e1, e2⟩ := HP.out
  refine bodyPost_ret (v := .agg #[.int .i64 l, .int .i64 s, .slice A zs.length c]) ?_ rfl ⟨l, s, A, c, zs, rfl, hl, p2, p1⟩
  simp [results, Try.results45, go_sem, e0, e1, e2]
set_option maxHeartbeats 1000000 in
theorem draw_PlacesAt (w : World) (S : Src) (h : S.ok w) : Calls Try.prog 43 #[.slice S.A S.n S.c] w (GenCI w) := by
  have H := Lib.hid (gen_start w S h)
  clear h
  go_enter Try.func43, Try.ntmps43
  go_wp2_with fail
  refine (cur_circle _ _ S 0 H.out.1 (by omega)).mono ?_
  rintro e w1 ⟨l, s, A, c, zs, rfl, hl, hl0, hl1, ho, hC, hG⟩
  have HC := Lib.hid hC
  have HB1 := Lib.hid (H.out.2.1.grown hG (by intro e; injection e with e; omega))
  have HBB := Lib.hid (below_gen2 H.out.2.2.1 hG (by omega))
  have HO := Lib.hid ho
  have hz2 := H.out.2.2.2
  clear ho hC hG
  have HZ := Lib.hid hz2
  clear hz2
  go_wp2_with fail
  refine (cur_seconds _ _ S 300 HC.out (by omega)).mono ?_
  rintro e w2 ⟨r, hr, rfl, hC, hG⟩
  have hB1 := HB1.out.grown hG (by intro e; injection e with e; omega)
  have hP := gen_put (l := l) (s := s) (below_gen2 HBB.out hG (by omega)) (Nat.le_refl _) hB1 rfl (HO.out.gen hG (by have := HZ.out; omega)) (by have := HZ.out; omega)
  have HP := Lib.hid hP
  have k0 := hB1.cell 0
  have k1 := hB1.cell 1
  have k2 := hB1.cell 2
  have f0 := hB1.frozen 0
  have f1 := hB1.frozen 1
  have f2 := hB1.frozen 2
  simp at k0 k1 k2
  clear hP hC hG hB1
  go_wp2_with fail
  go_light
  obtain ⟨p1, p2, e0, e1, e2⟩ := HP.out
  refine bodyPost_ret (v := .tuple #[.agg #[.int .i64 l, .int .i64 s, .slice A zs.length c], .int .i64 r]) ?_ rfl ⟨l, s, A, c, zs, r, rfl, hl, p2, p1⟩
  simp [results, Try.results43, go_sem, e0, e1, e2]
/-- The state of 'DrawPassesBy' behind the circle. -/
def PS (W wx : World) (g q p B : Nat) (S : Src) (K : Nat) (l s : Int) (v : Value) (zs : List Int) : Prop :=
  Cur wx g S K ∧ Below W.heap.size W wx ∧ Blk wx q 27 #[.int .i64 0, .int .i64 0, .slice none 0 0] ∧ Blk wx p 27 #[.int .i64 l, .int .i64 s, v] ∧ Ow wx B v zs ∧ g < B ∧ W.heap.size ≤ B ∧ W.heap.size ≤ q ∧ W.heap.size ≤ g ∧ q ≠ g ∧ p ≠ g
theorem PS.call {W wx w' : World} {g q p B : Nat} {S : Src} {K K' : Nat} {l s : Int} {v : Value} {zs : List Int} (h : PS W wx g q p B S K l s v zs) (hC : Cur w' g S K') (hG : wx.grownBy w' (some g)) : PS W w' g q p B S K' l s v zs := by
  obtain ⟨h1, h2, h3, h4, h5, h6, h7, h8, h9, ha, hb⟩ := h
  exact ⟨hC, below_gen2 h2 hG h9, h3.grown hG (by intro e; injection e with e; exact ha e), h4.grown hG (by intro e; injection e with e; exact hb e), h5.gen hG h6, h6, h7, h8, h9, ha, hb⟩
theorem PS.drew {W wx : World} {g q p B : Nat} {S : Src} {K : Nat} {l s : Int} {v : Value} {zs : List Int} (h : PS W wx g q p B S K l s v zs) : PS W wx.drew g q p B S K l s v zs := h.call h.1.drew (only_drew (World.grownBy.refl wx _))
theorem PS.cur {W wx : World} {g q p B : Nat} {S : Src} {K : Nat} {l s : Int} {v : Value} {zs : List Int} (h : PS W wx g q p B S K l s v zs) : Cur wx g S K := h.1
theorem PS.put {W wx : World} {g q p B : Nat} {S : Src} {K : Nat} {l s : Int} {v : Value} {zs : List Int} (h : PS W wx g q p B S K l s v zs) :
    Below W.heap.size W (put3 wx q l s v) ∧ Ow (put3 wx q l s v) W.heap.size v zs ∧ (put3 wx q l s v).cell? ⟨q, 0, none⟩ = some (.int .i64 l) ∧ (put3 wx q l s v).cell? ⟨q, 1, none⟩ = some (.int .i64 s) ∧ (put3 wx q l s v).cell? ⟨q, 2, none⟩ = some v := by
  obtain ⟨h1, h2, h3, h4, h5, h6, h7, h8, h9, ha, hb⟩ := h
  exact gen_put h2 h8 h3 rfl h5 h7
theorem PS.cells {W wx : World} {g q p B : Nat} {S : Src} {K : Nat} {l s : Int} {v : Value} {zs : List Int} (h : PS W wx g q p B S K l s v zs) :
    (wx.cell? ⟨p, 0, none⟩ = some (.int .i64 l) ∧ wx.cell? ⟨p, 1, none⟩ = some (.int .i64 s) ∧ wx.cell? ⟨p, 2, none⟩ = some v) ∧
    (wx.cell? ⟨q, 0, none⟩ = some (.int .i64 0) ∧ wx.cell? ⟨q, 1, none⟩ = some (.int .i64 0) ∧ wx.cell? ⟨q, 2, none⟩ = some (.slice none 0 0)) ∧ (wx.frozen? ⟨q, 0, none⟩ = false ∧ wx.frozen? ⟨q, 1, none⟩ = false ∧ wx.frozen? ⟨q, 2, none⟩ = false) := by
  obtain ⟨h1, h2, h3, h4, h5, h6, h7, h8, h9, ha, hb⟩ := h
  exact ⟨⟨by simpa using h4.cell 0, by simpa using h4.cell 1, by simpa using h4.cell 2⟩, ⟨by simpa using h3.cell 0, by simpa using h3.cell 1, by simpa using h3.cell 2⟩, ⟨h3.frozen 0, h3.frozen 1, h3.frozen 2⟩⟩
set_option maxHeartbeats 4000000 in
theorem draw_PassesBy (w : World) (S : Src) (h : S.ok w) : Calls Try.prog 42 #[.slice S.A S.n S.c] w (GenCII w) := by
  have H := Lib.hid (gen_start w S h)
  clear h
  go_enter Try.func42, Try.ntmps42
  go_wp2_with fail
  refine (cur_circle _ _ S 0 H.out.1 (by omega)).mono ?_
  rintro e w1 ⟨l, s, A, c, zs, rfl, hl, hl0, hl1, ho, hC, hG⟩
  have X1 : Hid (PS w (w1.alloc (.cells #[.int .i64 l, .int .i64 s, .slice A zs.length c] 27)) (w.heap.size + 1) w.heap.size w1.heap.size ((w.alloc (.cells #[.int .i64 0, .int .i64 0, .slice none 0 0] 27)).alloc (.cells #[.slice S.A S.n S.c, .int .i64 0, .int .u64 0] 73)).heap.size S 300 l s (.slice A zs.length c) zs) := by
    have hz := hG.size
    have hz2 := H.out.2.2.2
    have hz3 := H.out.2.2.1.size
    exact ⟨hC.alloc _, (below_gen2 H.out.2.2.1 hG (by omega)).alloc (by omega) _, (H.out.2.1.grown hG (by intro e; injection e with e; omega)).alloc _, Blk.new _ _ _, ho.alloc _, by omega, by omega, Nat.le_refl _, by omega, by omega, by omega⟩
  clear ho hC hG
  go_wp2_with fail
  have hq := rfl (a := w.heap.size)
  have hmx : max 1 l = l := by omega
  have u1 : IntKind.i64.wrap (l + 1) = l + 1 := IntWalk.i64_in _ (by omega)
  generalize w1.alloc (.cells #[.int .i64 l, .int .i64 s, .slice A zs.length c] 27) = wx at *
  obtain ⟨⟨c0, hc1, c2⟩, ⟨k0, k1, k2⟩, ⟨f0, f1, f2⟩⟩ := X1.out.cells
  have X2 := Lib.hid X1.out.drew
  go_region_with (first | (go_at_call 59; refine (spec_l1Most _ _ _).mono ?_; rintro e w' ⟨rfl, rfl⟩) | ((go_at_call 68; (with_reducible refine (cur_pick _ _ S (300) (l + 1) (X2.out.cur) (by omega) (by omega) (by omega)).mono ?_); rintro e w3 ⟨r, ⟨r0, r1⟩, rfl, hC, hG⟩; have Cw3 := Lib.hid hC; have Gw3 := Lib.hid hG; have Zw3 := hG.size; clear hC hG); have X3 := Lib.hid (X2.out.call Cw3.out Gw3.out); clear c0 hc1 c2 k0 k1 k2 f0 f1 f2; obtain ⟨⟨c0, hc1, c2⟩, ⟨k0, k1, k2⟩, ⟨f0, f1, f2⟩⟩ := X3.out.cells) | ((go_at_call 68; (with_reducible refine (cur_pick w3 _ S (300 + 2) (9) (Cw3.out) (by omega) (by omega) (by omega)).mono ?_); rintro e w4 ⟨r2, ⟨r20, r21⟩, rfl, hC, hG⟩; have Cw4 := Lib.hid hC; have Gw4 := Lib.hid hG; have Zw4 := hG.size; clear hC hG); have X4 := Lib.hid (X3.out.call Cw4.out Gw4.out); clear c0 hc1 c2 k0 k1 k2 f0 f1 f2; obtain ⟨⟨c0, hc1, c2⟩, ⟨k0, k1, k2⟩, ⟨f0, f1, f2⟩⟩ := X4.out.cells) | ((go_at_call 69; refine (cur_seconds w4 _ S (300 + 2 + 2) Cw4.out (by omega)).mono ?_; rintro e w5 ⟨t, tp, rfl, hC, hG⟩; have Cw5 := Lib.hid hC; have Gw5 := Lib.hid hG; have Zw5 := hG.size; clear hC hG); have X5 := Lib.hid (X4.out.call Cw5.out Gw5.out); clear c0 hc1 c2 k0 k1 k2 f0 f1 f2; obtain ⟨⟨c0, hc1, c2⟩, ⟨k0, k1, k2⟩, ⟨f0, f1, f2⟩⟩ := X5.out.cells))
  all_goals go_wp2_with fail
  all_goals go_light
  all_goals obtain ⟨p1, p2, e0, e1, e2⟩ := X5.out.put
  all_goals refine bodyPost_ret (v := .tuple #[.agg #[.int .i64 l, .int .i64 s, .slice A zs.length c], .int .i64 (IntKind.i64.wrap (r - IntKind.i64.wrap (r2.tdiv 8))), .int .i64 t]) ?_ rfl ⟨l, s, A, c, zs, _, _, rfl, hl, p2, p1⟩
  all_goals simp [results, Try.results42, go_sem, e0, e1, e2]
set_option maxHeartbeats 1000000 in
theorem draw_NextPass (w : World) (S : Src) (h : S.ok w) : Calls Try.prog 41 #[.slice S.A S.n S.c] w (GenCII w) := by
  have hb0 : Below w.heap.size w (w.alloc (.cells #[.int .i64 0, .int .i64 0, .slice none 0 0] 27)) := (Below.refl _ _).alloc (Nat.le_refl _) _
  have H := Lib.hid (h.below hb0)
  have hbk := Blk.new w 27 #[.int .i64 0, .int .i64 0, .slice none 0 0]
  have HBK := Lib.hid hbk
  have HB0 := Lib.hid hb0
  clear h hb0 hbk
  go_enter Try.func41, Try.ntmps41
  go_wp2_with fail
  refine (draw_PassesBy _ S H.out).mono ?_
  rintro e w1 ⟨l, s, A, c, zs, a, b, rfl, hl, ho, hB⟩
  have hB1 := HBK.out.below hB HBK.out.lt
  have hP := gen_put (l := l) (s := s) (Below.thenn HB0.out hB HB0.out.size) (Nat.le_refl _) hB1 rfl ho HB0.out.size
  have HP := Lib.hid hP
  have k0 := hB1.cell 0
  have k1 := hB1.cell 1
  have k2 := hB1.cell 2
  have f0 := hB1.frozen 0
  have f1 := hB1.frozen 1
  have f2 := hB1.frozen 2
  simp at k0 k1 k2
  clear hP ho hB hB1
  go_wp2_with fail
  go_light
  obtain ⟨p1, p2, e0, e1, e2⟩ := HP.out
  refine bodyPost_ret (v := .tuple #[.agg #[.int .i64 l, .int .i64 s, .slice A zs.length c], .int .i64 a, .int .i64 b]) ?_ rfl ⟨l, s, A, c, zs, a, b, rfl, hl, p2, p1⟩
  simp [results, Try.results41, go_sem, e0, e1, e2]
end Go.Proofs.Ytidjgbonlejhhaa
