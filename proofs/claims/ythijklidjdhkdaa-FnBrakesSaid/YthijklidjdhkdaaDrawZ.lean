/- What the generator draws for the laws on brakes. -/
import Derived.Test.YthijklidjdhkdaaDrawY
namespace Go.Proofs.Ythijklidjdhkdaa
open Go.RowKit
set_option linter.unusedVariables false
set_option linter.unusedSimpArgs false

theorem cur_speed (w : World) (g : Nat) (S : Src) (K : Nat) (h : Cur w g S K) (hK : K ≤ 900000) :
    Calls Try.prog 69 #[.pointer (some ⟨g, 0, none⟩)] w (Drew w g S (K + 2) fun r => -1 ≤ r ∧ r ≤ 101) := by
  have H := Lib.hid h
  clear h
  go_enter Try.func69, Try.ntmps69
  go_wp2_with (go_at_call 70; refine (cur_among w _ S (K) [0, 0, 3, 10, 25, 50, 77, 100, 101, -1] (fun r => -1 ≤ r ∧ r ≤ 101) _ _ (H.out) (by omega) rfl rfl (by decide) (by decide) (by decide)).mono ?_; rintro e w1 ⟨r, rp, rfl, hC, hG⟩; have Cw1 := Lib.hid hC; have Gw1 := Lib.hid hG; have Zw1 := hG.size; clear hC hG)
  go_ret
  exact Drew.mk rp rfl Cw1.out Gw1.out
/-- A drive in a box of zeros. -/
abbrev put3 (w : World) (q : Nat) (l s : Int) (v : Value) : World := ((w.setCell ⟨q, 0, none⟩ (.int .i64 l)).setCell ⟨q, 1, none⟩ (.int .i64 s)).setCell ⟨q, 2, none⟩ v
theorem below_set3 {B g : Nat} {w w' : World} (h : Below B w w') (hg : B ≤ g) (b0 b1 b2 : Value) : Below B w (((w'.setCell ⟨g, 0, none⟩ b0).setCell ⟨g, 1, none⟩ b1).setCell ⟨g, 2, none⟩ b2) :=
  ((h.setCell hg b0).setCell hg b1).setCell hg b2
theorem gen_put {W w : World} {q B : Nat} {cs : Array Value} {v : Value} {rows : List (List Int)} {l s : Int} (hB : Below W.heap.size W w) (hq : W.heap.size ≤ q) (hb : Blk w q 29 cs) (hc : cs.size = 3) (ho : OwR w B 56 2 v rows) (hBo : W.heap.size ≤ B) :
    Below W.heap.size W (put3 w q l s v) ∧ OwR (put3 w q l s v) W.heap.size 56 2 v rows ∧ (put3 w q l s v).cell? ⟨q, 0, none⟩ = some (.int .i64 l) ∧ (put3 w q l s v).cell? ⟨q, 1, none⟩ = some (.int .i64 s) ∧ (put3 w q l s v).cell? ⟨q, 2, none⟩ = some v := by
  have h3 := ((hb.set_ 0 (.int .i64 l)).set_ 1 (.int .i64 s)).set_ 2 v
  refine ⟨below_set3 hB hq _ _ _, (((ho.boxed (by decide) hb 0 _).boxed (by decide) (hb.set_ 0 _) 1 _).boxed (by decide) ((hb.set_ 0 _).set_ 1 _) 2 _).base hBo, ?_, ?_, ?_⟩
  · rw [h3.cell 0]; simp [hc]
  · rw [h3.cell 1]; simp [hc]
  · rw [h3.cell 2]; simp [hc]
/-- A box of zeros and a generator. -/
theorem gen_start (w : World) (S : Src) (h : S.ok w) :
    Cur ((w.alloc (.cells #[.int .i64 0, .int .i64 0, .slice none 0 0] 29)).alloc (.cells #[.slice S.A S.n S.c, .int .i64 0, .int .u64 0] 79)) (w.heap.size + 1) S 0 ∧
    Blk ((w.alloc (.cells #[.int .i64 0, .int .i64 0, .slice none 0 0] 29)).alloc (.cells #[.slice S.A S.n S.c, .int .i64 0, .int .u64 0] 79)) w.heap.size 29 #[.int .i64 0, .int .i64 0, .slice none 0 0] ∧
    Below w.heap.size w ((w.alloc (.cells #[.int .i64 0, .int .i64 0, .slice none 0 0] 29)).alloc (.cells #[.slice S.A S.n S.c, .int .i64 0, .int .u64 0] 79)) ∧
    w.heap.size + 2 = ((w.alloc (.cells #[.int .i64 0, .int .i64 0, .slice none 0 0] 29)).alloc (.cells #[.slice S.A S.n S.c, .int .i64 0, .int .u64 0] 79)).heap.size := by
  have e1 : (w.alloc (.cells #[.int .i64 0, .int .i64 0, .slice none 0 0] 29)).heap.size = w.heap.size + 1 := by simp
  have hb1 : Below w.heap.size w (w.alloc (.cells #[.int .i64 0, .int .i64 0, .slice none 0 0] 29)) := (Below.refl _ _).alloc (Nat.le_refl _) _
  have h1 := Cur.new (h.below hb1)
  rw [e1] at h1
  exact ⟨h1, (Blk.new w _ _).alloc _, hb1.alloc (by simp) _, by simp⟩
theorem below_gen2 {w w1 w' : World} {g : Nat} (hB : Below w.heap.size w w1) (hG : w1.grownBy w' (some g)) (hg : w.heap.size ≤ g) : Below w.heap.size w w' := hB.grown hG hB.size (fun k hk => by injection hk with hk; omega)
/-- The state behind the drive: q the result's box. -/
def GS (W wx : World) (g q B : Nat) (S : Src) (K : Nat) (v : Value) (rows : List (List Int)) : Prop :=
  Cur wx g S K ∧ Below W.heap.size W wx ∧ Blk wx q 29 #[.int .i64 0, .int .i64 0, .slice none 0 0] ∧ OwR wx B 56 2 v rows ∧ g < B ∧ W.heap.size ≤ B ∧ W.heap.size ≤ q ∧ W.heap.size ≤ g ∧ q ≠ g
section
variable {W wx w' : World} {g q B : Nat} {S : Src} {K K' : Nat} {v : Value} {rows : List (List Int)}
theorem GS.call (h : GS W wx g q B S K v rows) (hC : Cur w' g S K') (hG : wx.grownBy w' (some g)) : GS W w' g q B S K' v rows := by
  obtain ⟨h1, h2, h3, h5, h6, h7, h8, h9, ha⟩ := h
  exact ⟨hC, below_gen2 h2 hG h9, h3.grown hG (by intro e; injection e with e; exact ha e), h5.gen hG h6, h6, h7, h8, h9, ha⟩
theorem GS.cur (h : GS W wx g q B S K v rows) : Cur wx g S K := h.1
theorem GS.drew (h : GS W wx g q B S K v rows) : GS W wx.drew g q B S K v rows := h.call h.1.drew (only_drew (World.grownBy.refl wx _))
theorem GS.start {w0 : World} {K0 : Nat} (hC : Cur w0 g S K0) (hB : Below W.heap.size W w0) (hq : Blk w0 q 29 #[.int .i64 0, .int .i64 0, .slice none 0 0]) (hqW : W.heap.size ≤ q) (hgW : W.heap.size ≤ g) (hne : q ≠ g)
    (ho : OwR wx w0.heap.size 56 2 v rows) (hC' : Cur wx g S K) (hG : w0.grownBy wx (some g)) : GS W wx g q w0.heap.size S K v rows :=
  ⟨hC', below_gen2 hB hG hgW, hq.grown hG (by intro e; injection e with e; exact hne e), ho, hC.lt, hB.size, hqW, hgW, hne⟩
theorem GS.cells (h : GS W wx g q B S K v rows) : (wx.cell? ⟨q, 0, none⟩ = some (.int .i64 0) ∧ wx.cell? ⟨q, 1, none⟩ = some (.int .i64 0) ∧ wx.cell? ⟨q, 2, none⟩ = some (.slice none 0 0)) ∧ (wx.frozen? ⟨q, 0, none⟩ = false ∧ wx.frozen? ⟨q, 1, none⟩ = false ∧ wx.frozen? ⟨q, 2, none⟩ = false) := by
  obtain ⟨h1, h2, h3, _⟩ := h
  exact ⟨⟨by simpa using h3.cell 0, by simpa using h3.cell 1, by simpa using h3.cell 2⟩, ⟨h3.frozen 0, h3.frozen 1, h3.frozen 2⟩⟩
theorem GS.put {l s : Int} (h : GS W wx g q B S K v rows) :
    Below W.heap.size W (put3 wx q l s v) ∧ OwR (put3 wx q l s v) W.heap.size 56 2 v rows ∧ (put3 wx q l s v).cell? ⟨q, 0, none⟩ = some (.int .i64 l) ∧ (put3 wx q l s v).cell? ⟨q, 1, none⟩ = some (.int .i64 s) ∧ (put3 wx q l s v).cell? ⟨q, 2, none⟩ = some v := by
  obtain ⟨h1, h2, h3, h5, h6, h7, h8, h9, ha⟩ := h
  exact gen_put h2 h8 h3 rfl h5 h7
end
/-- A drive and numbers that were drawn. -/
def GenD (w : World) (e : Ending) (w' : World) : Prop := ∃ l s A c rows, e = .returned (.agg #[.int .i64 l, .int .i64 s, .slice A rows.length c]) ∧ rows.length ≤ 20 ∧ OwR w' w.heap.size 56 2 (.slice A rows.length c) rows ∧ Below w.heap.size w w'
def GenDI (w : World) (e : Ending) (w' : World) : Prop := ∃ l s A c rows, ∃ a : Int, e = .returned (.tuple #[.agg #[.int .i64 l, .int .i64 s, .slice A rows.length c], .int .i64 a]) ∧ rows.length ≤ 20 ∧ OwR w' w.heap.size 56 2 (.slice A rows.length c) rows ∧ Below w.heap.size w w'
def GenDII (w : World) (e : Ending) (w' : World) : Prop := ∃ l s A c rows, ∃ a b : Int, e = .returned (.tuple #[.agg #[.int .i64 l, .int .i64 s, .slice A rows.length c], .int .i64 a, .int .i64 b]) ∧ rows.length ≤ 20 ∧ OwR w' w.heap.size 56 2 (.slice A rows.length c) rows ∧ Below w.heap.size w w'
def GenDIII (w : World) (e : Ending) (w' : World) : Prop := ∃ l s A c rows, ∃ a b d : Int, e = .returned (.tuple #[.agg #[.int .i64 l, .int .i64 s, .slice A rows.length c], .int .i64 a, .int .i64 b, .int .i64 d]) ∧ rows.length ≤ 20 ∧ OwR w' w.heap.size 56 2 (.slice A rows.length c) rows ∧ Below w.heap.size w w'
set_option maxHeartbeats 2000000 in
theorem draw_IsDrive (w : World) (S : Src) (h : S.ok w) : Calls Try.prog 72 #[.slice S.A S.n S.c] w (GenD w) := by
  have H := Lib.hid (gen_start w S h)
  clear h
  go_enter Try.func72, Try.ntmps72
  go_wp2_with fail
  refine (cur_drive _ _ S 0 H.out.1 (by omega)).mono ?_
  rintro e w1 ⟨l, s, A, c, rows, rfl, hl, ho, hC, hG⟩
  have X1 := Lib.hid (GS.start H.out.1 H.out.2.2.1 H.out.2.1 (Nat.le_refl _) (Nat.le_succ _) (by omega) ho hC hG)
  clear ho hC hG
  obtain ⟨⟨k0, k1, k2⟩, ⟨f0, f1, f2⟩⟩ := X1.out.cells
  have XX := X1
  clear X1
  go_wp2_with fail
  go_light
  obtain ⟨p1, p2, e0, e1, e2⟩ := XX.out.put (l := l) (s := s)
  refine bodyPost_ret (v := .agg #[.int .i64 l, .int .i64 s, .slice A rows.length c]) ?_ rfl ⟨l, s, A, c, rows, rfl, hl, p2, p1⟩
  simp [results, Try.results72, go_sem, e0, e1, e2]
set_option maxHeartbeats 1000000 in
theorem draw_HoldsStill (w : World) (S : Src) (h : S.ok w) : Calls Try.prog 47 #[.slice S.A S.n S.c] w (GenD w) := by
  have hb0 : Below w.heap.size w (w.alloc (.cells #[.int .i64 0, .int .i64 0, .slice none 0 0] 29)) := (Below.refl _ _).alloc (Nat.le_refl _) _
  have H := Lib.hid (h.below hb0)
  have hbk := Blk.new w 29 #[.int .i64 0, .int .i64 0, .slice none 0 0]
  have HBK := Lib.hid hbk
  have HB0 := Lib.hid hb0
  clear h hb0 hbk
  go_enter Try.func47, Try.ntmps47
  go_wp2_with fail
  refine (draw_IsDrive _ S H.out).mono ?_
  rintro e w1 ⟨l, s, A, c, rows, rfl, hl, ho, hB⟩
  have hB1 := HBK.out.below hB HBK.out.lt
  have hP := gen_put (l := l) (s := s) (Below.thenn HB0.out hB HB0.out.size) (Nat.le_refl _) hB1 rfl ho HB0.out.size
  have HP := Lib.hid hP
  have k0 := hB1.cell 0
  have k1 := hB1.cell 1
  have k2 := hB1.cell 2
  have f0 := hB1.frozen 0
  have f1 := hB1.frozen 1
  have f2 := hB1.frozen 2
  simp at k0 k1 k2
  clear hP ho hB hB1
  go_wp2_with fail
  go_light
  obtain ⟨p1, p2, e0, e1, e2⟩ := HP.out
  refine bodyPost_ret (v := .agg #[.int .i64 l, .int .i64 s, .slice A rows.length c]) ?_ rfl ⟨l, s, A, c, rows, rfl, hl, p2, p1⟩
  simp [results, Try.results47, go_sem, e0, e1, e2]
set_option maxHeartbeats 2000000 in
theorem draw_SafeSpeed (w : World) (S : Src) (h : S.ok w) : Calls Try.prog 44 #[.slice S.A S.n S.c] w (GenDI w) := by
  have H := Lib.hid (gen_start w S h)
  clear h
  go_enter Try.func44, Try.ntmps44
  go_wp2_with fail
  refine (cur_drive _ _ S 0 H.out.1 (by omega)).mono ?_
  rintro e w1 ⟨l, s, A, c, rows, rfl, hl, ho, hC, hG⟩
  have X1 := Lib.hid (GS.start H.out.1 H.out.2.2.1 H.out.2.1 (Nat.le_refl _) (Nat.le_succ _) (by omega) ho hC hG)
  clear ho hC hG
  obtain ⟨⟨k0, k1, k2⟩, ⟨f0, f1, f2⟩⟩ := X1.out.cells
  go_wp2_with fail
  (go_at_call 70; refine (cur_among w1 _ S (0 + 300) [0, 50, 200, 1000, 5000, -1] (fun r => True) _ _ (X1.out.cur) (by omega) rfl rfl (by decide) (by decide) (by decide)).mono ?_; rintro e w2 ⟨r2, r2p, rfl, hC, hG⟩; have Cw2 := Lib.hid hC; have Gw2 := Lib.hid hG; have Zw2 := hG.size; clear hC hG)
  have X2 := Lib.hid (X1.out.call Cw2.out Gw2.out)
  clear k0 k1 k2 f0 f1 f2
  obtain ⟨⟨k0, k1, k2⟩, ⟨f0, f1, f2⟩⟩ := X2.out.cells
  have XX := X2
  clear X2
  go_wp2_with fail
  go_light
  obtain ⟨p1, p2, e0, e1, e2⟩ := XX.out.put (l := l) (s := s)
  refine bodyPost_ret (v := .tuple #[.agg #[.int .i64 l, .int .i64 s, .slice A rows.length c], .int .i64 (r2)]) ?_ rfl ⟨l, s, A, c, rows, _, rfl, hl, p2, p1⟩
  simp [results, Try.results44, go_sem, e0, e1, e2]
set_option maxHeartbeats 2000000 in
theorem draw_BrakeSpeeds (w : World) (S : Src) (h : S.ok w) : Calls Try.prog 43 #[.slice S.A S.n S.c] w (GenDI w) := by
  have H := Lib.hid (gen_start w S h)
  clear h
  go_enter Try.func43, Try.ntmps43
  go_wp2_with fail
  refine (cur_drive _ _ S 0 H.out.1 (by omega)).mono ?_
  rintro e w1 ⟨l, s, A, c, rows, rfl, hl, ho, hC, hG⟩
  have X1 := Lib.hid (GS.start H.out.1 H.out.2.2.1 H.out.2.1 (Nat.le_refl _) (Nat.le_succ _) (by omega) ho hC hG)
  clear ho hC hG
  obtain ⟨⟨k0, k1, k2⟩, ⟨f0, f1, f2⟩⟩ := X1.out.cells
  go_wp2_with fail
  (go_at_call 69; refine (cur_speed w1 _ S (0 + 300) X1.out.cur (by omega)).mono ?_; rintro e w2 ⟨r2, r2p, rfl, hC, hG⟩; have Cw2 := Lib.hid hC; have Gw2 := Lib.hid hG; have Zw2 := hG.size; clear hC hG)
  have X2 := Lib.hid (X1.out.call Cw2.out Gw2.out)
  clear k0 k1 k2 f0 f1 f2
  obtain ⟨⟨k0, k1, k2⟩, ⟨f0, f1, f2⟩⟩ := X2.out.cells
  have XX := X2
  clear X2
  go_wp2_with fail
  go_light
  obtain ⟨p1, p2, e0, e1, e2⟩ := XX.out.put (l := l) (s := s)
  refine bodyPost_ret (v := .tuple #[.agg #[.int .i64 l, .int .i64 s, .slice A rows.length c], .int .i64 (r2)]) ?_ rfl ⟨l, s, A, c, rows, _, rfl, hl, p2, p1⟩
  simp [results, Try.results43, go_sem, e0, e1, e2]
set_option maxHeartbeats 1000000 in
theorem draw_WorstLoss (w : World) (S : Src) (h : S.ok w) : Calls Try.prog 46 #[.slice S.A S.n S.c] w (GenDI w) := by
  have hb0 : Below w.heap.size w (w.alloc (.cells #[.int .i64 0, .int .i64 0, .slice none 0 0] 29)) := (Below.refl _ _).alloc (Nat.le_refl _) _
  have H := Lib.hid (h.below hb0)
  have hbk := Blk.new w 29 #[.int .i64 0, .int .i64 0, .slice none 0 0]
  have HBK := Lib.hid hbk
  have HB0 := Lib.hid hb0
  clear h hb0 hbk
  go_enter Try.func46, Try.ntmps46
  go_wp2_with fail
  refine (draw_BrakeSpeeds _ S H.out).mono ?_
  rintro e w1 ⟨l, s, A, c, rows, r, rfl, hl, ho, hB⟩
  have hB1 := HBK.out.below hB HBK.out.lt
  have hP := gen_put (l := l) (s := s) (Below.thenn HB0.out hB HB0.out.size) (Nat.le_refl _) hB1 rfl ho HB0.out.size
  have HP := Lib.hid hP
  have k0 := hB1.cell 0
  have k1 := hB1.cell 1
  have k2 := hB1.cell 2
  have f0 := hB1.frozen 0
  have f1 := hB1.frozen 1
  have f2 := hB1.frozen 2
  simp at k0 k1 k2
  clear hP ho hB hB1
  go_wp2_with fail
  go_light
  obtain ⟨p1, p2, e0, e1, e2⟩ := HP.out
  refine bodyPost_ret (v := .tuple #[.agg #[.int .i64 l, .int .i64 s, .slice A rows.length c], .int .i64 r]) ?_ rfl ⟨l, s, A, c, rows, r, rfl, hl, p2, p1⟩
  simp [results, Try.results46, go_sem, e0, e1, e2]
set_option maxHeartbeats 2000000 in
theorem draw_FewestBrakes (w : World) (S : Src) (h : S.ok w) : Calls Try.prog 40 #[.slice S.A S.n S.c] w (GenDII w) := by
  have H := Lib.hid (gen_start w S h)
  clear h
  go_enter Try.func40, Try.ntmps40
  go_wp2_with fail
  refine (cur_drive _ _ S 0 H.out.1 (by omega)).mono ?_
  rintro e w1 ⟨l, s, A, c, rows, rfl, hl, ho, hC, hG⟩
  have X1 := Lib.hid (GS.start H.out.1 H.out.2.2.1 H.out.2.1 (Nat.le_refl _) (Nat.le_succ _) (by omega) ho hC hG)
  clear ho hC hG
  obtain ⟨⟨k0, k1, k2⟩, ⟨f0, f1, f2⟩⟩ := X1.out.cells
  go_wp2_with fail
  (go_at_call 69; refine (cur_speed w1 _ S (0 + 300) X1.out.cur (by omega)).mono ?_; rintro e w2 ⟨r2, r2p, rfl, hC, hG⟩; have Cw2 := Lib.hid hC; have Gw2 := Lib.hid hG; have Zw2 := hG.size; clear hC hG)
  have X2 := Lib.hid (X1.out.call Cw2.out Gw2.out)
  clear k0 k1 k2 f0 f1 f2
  obtain ⟨⟨k0, k1, k2⟩, ⟨f0, f1, f2⟩⟩ := X2.out.cells
  go_wp2_with fail
  (go_at_call 70; refine (cur_among w2 _ S (0 + 300 + 2) [0, 50, 200, 1000, 5000, -1] (fun r => True) _ _ (X2.out.cur) (by omega) rfl rfl (by decide) (by decide) (by decide)).mono ?_; rintro e w3 ⟨r3, r3p, rfl, hC, hG⟩; have Cw3 := Lib.hid hC; have Gw3 := Lib.hid hG; have Zw3 := hG.size; clear hC hG)
  have X3 := Lib.hid (X2.out.call Cw3.out Gw3.out)
  clear k0 k1 k2 f0 f1 f2
  obtain ⟨⟨k0, k1, k2⟩, ⟨f0, f1, f2⟩⟩ := X3.out.cells
  have XX := X3
  clear X3
  go_wp2_with fail
  go_light
  obtain ⟨p1, p2, e0, e1, e2⟩ := XX.out.put (l := l) (s := s)
  refine bodyPost_ret (v := .tuple #[.agg #[.int .i64 l, .int .i64 s, .slice A rows.length c], .int .i64 (r2), .int .i64 (r3)]) ?_ rfl ⟨l, s, A, c, rows, _, _, rfl, hl, p2, p1⟩
  simp [results, Try.results40, go_sem, e0, e1, e2]
set_option maxHeartbeats 2000000 in
theorem draw_WorstPull (w : World) (S : Src) (h : S.ok w) : Calls Try.prog 45 #[.slice S.A S.n S.c] w (GenDIII w) := by
  have H := Lib.hid (gen_start w S h)
  clear h
  go_enter Try.func45, Try.ntmps45
  go_wp2_with fail
  (go_at_call 70; refine (cur_amongA _ _ (by simp) _ S (0) [-100000, -100, 0, 0, 50, 100000, -100001] (fun r => -100001 ≤ r ∧ r ≤ 100000) _ _ (H.out.1) (by omega) rfl rfl (by decide) (by decide) (by decide)).mono ?_; rintro e w0 ⟨low, lowp, rfl, hC, hG⟩; have Cw0 := Lib.hid hC; have Gw0 := Lib.hid hG; have Zw0 := hG.size; clear hC hG)
  have B0 := Lib.hid (below_gen2 H.out.2.2.1 Gw0.out (Nat.le_succ _))
  have Q0 := Lib.hid (H.out.2.1.grown Gw0.out (by intro e; injection e with e; omega))
  go_wp2_with fail
  refine (cur_drive _ _ S 2 Cw0.out (by omega)).mono ?_
  rintro e w1 ⟨l, s, A, c, rows, rfl, hl, ho, hC, hG⟩
  have X1 := Lib.hid (GS.start Cw0.out B0.out Q0.out (Nat.le_refl _) (Nat.le_succ _) (by omega) ho hC hG)
  clear ho hC hG
  obtain ⟨⟨k0, k1, k2⟩, ⟨f0, f1, f2⟩⟩ := X1.out.cells
  go_wp2_with fail
  (go_at_call 69; refine (cur_speed w1 _ S (2 + 300) X1.out.cur (by omega)).mono ?_; rintro e w2 ⟨r2, r2p, rfl, hC, hG⟩; have Cw2 := Lib.hid hC; have Gw2 := Lib.hid hG; have Zw2 := hG.size; clear hC hG)
  have X2 := Lib.hid (X1.out.call Cw2.out Gw2.out)
  clear k0 k1 k2 f0 f1 f2
  obtain ⟨⟨k0, k1, k2⟩, ⟨f0, f1, f2⟩⟩ := X2.out.cells
  go_wp2_with fail
  (go_at_call 70; refine (cur_among w2 _ S (2 + 300 + 2) [0, 1, 10, 50, 100, 101, -1] (fun r => -1 ≤ r ∧ r ≤ 101) _ _ (X2.out.cur) (by omega) rfl rfl (by decide) (by decide) (by decide)).mono ?_; rintro e w3 ⟨r3, r3p, rfl, hC, hG⟩; have Cw3 := Lib.hid hC; have Gw3 := Lib.hid hG; have Zw3 := hG.size; clear hC hG)
  have X3 := Lib.hid (X2.out.call Cw3.out Gw3.out)
  clear k0 k1 k2 f0 f1 f2
  obtain ⟨⟨k0, k1, k2⟩, ⟨f0, f1, f2⟩⟩ := X3.out.cells
  have XX := X3
  clear X3
  go_wp2_with fail
  go_light
  obtain ⟨p1, p2, e0, e1, e2⟩ := XX.out.put (l := l) (s := s)
  refine bodyPost_ret (v := .tuple #[.agg #[.int .i64 l, .int .i64 s, .slice A rows.length c], .int .i64 (r2), .int .i64 (low), .int .i64 (low + r3)]) ?_ rfl ⟨l, s, A, c, rows, _, _, _, rfl, hl, p2, p1⟩
  simp [results, Try.results45, go_sem, e0, e1, e2]
end Go.Proofs.Ythijklidjdhkdaa
