/- Damages that are drawn. -/
import Derived.Test.YtjfmicemnoglkaaDrwO0
import Derived.Test.YtjfmicemnoglkaaRgn
namespace Go.Proofs.Ytjfmicemnoglkaa
open Go.RowKit
set_option linter.unusedVariables false
set_option linter.unusedSimpArgs false

/-- A block that an operation has made, once it has. -/
def MB (p : Nat) (b : Bool) (P : Nat → Prop) (w : World) (t : TypeId) (cs : Array Value) : Prop := b = true → ∃ q, P q ∧ Blk w q t cs ∧ p + 1 < q
theorem MB.past {p g : Nat} {b : Bool} {P : Nat → Prop} {w w' : World} {t : TypeId} {cs : Array Value} (h : MB p b P w t cs) (hg : g < p) (hG : w.grownBy w' (some g)) : MB p b P w' t cs := fun hb => by
  obtain ⟨q, h1, h2, h3⟩ := h hb
  exact ⟨q, h1, blk_past hG _ _ _ (by omega) h2, h3⟩
theorem MB.alloc {p : Nat} {b : Bool} {P : Nat → Prop} {w : World} {t : TypeId} {cs : Array Value} (h : MB p b P w t cs) (o : Obj) : MB p b P (w.alloc o) t cs := fun hb => by
  obtain ⟨q, h1, h2, h3⟩ := h hb
  exact ⟨q, h1, h2.alloc o, h3⟩
theorem MB.far3 {p q1 : Nat} {b : Bool} {P : Nat → Prop} {w : World} {t t1 : TypeId} {cs cs1 : Array Value} (h : MB p b P w t cs) (h1 : Blk w q1 t1 cs1) (hne : t ≠ t1) (x y z : Value) : MB p b P (((w.setCell ⟨q1, 0, none⟩ x).setCell ⟨q1, 1, none⟩ y).setCell ⟨q1, 2, none⟩ z) t cs := fun hb => by
  obtain ⟨q, a1, a2, a3⟩ := h hb
  have hq : q ≠ q1 := by
    intro e
    subst e
    have := a2.symm.trans h1
    simp at this
    exact hne this.2
  exact ⟨q, a1, ((a2.far (by simpa using hq) _).far (by simpa using hq) _).far (by simpa using hq) _, a3⟩
def cnt (b : Bool) : Nat := if b then 2 else 0
theorem cnt_le (b : Bool) : cnt b ≤ 2 := by cases b <;> simp [cnt]
/-- What holds while the region is under way: which operations have come up, what they left, the world. -/
def DI (w0 : World) (g p : Nat) (S : Src) (K : Nat) (y0 y1 y2 y3 y4 M : Int) (l : Array Bool) (a : Act) (w : World) : Prop :=
  ∃ (b0 b1 b2 b3 b4 b5 b6 b7 b8 b9 b10 b11 b12 b13 : Bool) (v5 v6 v7 v8 v9 v10 v11 v12 v13 v14 v15 v16 v17 : Value), l = #[b0, b1, b2, b3, b4, b5, b6, b7, b8, b9, b10, b11, b12, b13] ∧ a = ⟨(.pointer (some ⟨g, 0, none⟩) :: .agg #[.int .i64 y0, .int .i64 y1, .int .i64 y2, .int .i64 y3, .int .i64 y4] :: undef :: .pointer (some ⟨p, 0, none⟩) :: .pointer (some ⟨p + 1, 0, none⟩) :: v5 :: v6 :: v7 :: v8 :: v9 :: v10 :: v11 :: v12 :: v13 :: v14 :: v15 :: v16 :: v17 :: undef :: undef :: undef :: undef :: undef :: undef :: undef :: undef :: undef :: undef :: undef :: undef :: undef :: undef :: undef :: undef :: undef :: undef :: undef :: undef :: undef :: undef :: undef :: undef :: undef :: undef :: undef :: undef :: []).toArray, []⟩ ∧
    Hid (DS w0 w g p S (K + (cnt b2 + cnt b7 + cnt b10)) y0 y1 y2 y3 y4) ∧
    Hid (b0 = true → v6 = .pointer (some ⟨g, 0, none⟩)) ∧
    Hid (MB p b1 (fun q => v7 = .slice (some ⟨q, 0, none⟩) 8 8) w 3 #[.int .i64 0, .int .i64 5, .int .i64 9, .int .i64 10, .int .i64 14, .int .i64 60, .int .i64 103, .int .i64 3000]) ∧
    Hid (b2 = true → ∃ x : Int, v8 = .int .i64 x) ∧
    Hid (b3 = true → v9 = .pointer (some ⟨g, 0, none⟩)) ∧
    Hid (b4 = true → v10 = .pointer (some ⟨p, 1, none⟩)) ∧
    Hid (b5 = true → v11 = .int .i64 y1) ∧
    Hid (b6 = true → v12 = .int .i64 M) ∧
    Hid (b7 = true → ∃ x : Int, v13 = .int .i64 x) ∧
    Hid (b8 = true → v14 = .pointer (some ⟨g, 0, none⟩)) ∧
    Hid (MB p b9 (fun q => v15 = .slice (some ⟨q, 0, none⟩) 5 5) w 3 #[.int .i64 1, .int .i64 1, .int .i64 2, .int .i64 3, .int .i64 4]) ∧
    Hid (b10 = true → ∃ x : Int, v16 = .int .i64 x) ∧
    Hid (b11 = true → (b2 && (b7 && b10)) = true ∧ v17 = .agg #[v8, v13, v16]) ∧
    Hid (b13 = false → MB p b12 (fun q => v5 = .pointer (some ⟨q, 0, none⟩)) w 92 #[.int .i64 0, .int .i64 0, .int .i64 0]) ∧
    Hid (b13 = true → ∃ (q : Nat) (x y z : Int), v5 = .pointer (some ⟨q, 0, none⟩) ∧ p + 1 < q ∧ Blk w q 92 #[.int .i64 x, .int .i64 y, .int .i64 z]) ∧
    Hid (b13 = true → (b0 && (b1 && (b2 && (b3 && (b4 && (b5 && (b6 && (b7 && (b8 && (b9 && (b10 && (b11 && (b12))))))))))))) = true)
set_option maxRecDepth 100000 in
set_option maxHeartbeats 8000000 in
theorem cur_damage (w : World) (g : Nat) (S : Src) (K : Nat) (y0 y1 y2 y3 y4 : Int) (h : Cur w g S K) (hK : K ≤ 800000) :
    Calls Try.prog 158 #[.pointer (some ⟨g, 0, none⟩), .agg #[.int .i64 y0, .int .i64 y1, .int .i64 y2, .int .i64 y3, .int .i64 y4]] w (DrewT3 w g S (K + 10)) := by
  obtain ⟨HW1, HW2, HW3, HW4⟩ := boxes53 w (.int .i64 y0) (.int .i64 y1) (.int .i64 y2) (.int .i64 y3) (.int .i64 y4) (.int .i64 0) (.int .i64 0) (.int .i64 0) 85 92
  have hg := h.lt
  have X0 : Hid (DS w _ g w.heap.size S K y0 y1 y2 y3 y4) := Lib.hid ⟨(h.alloc _).alloc _, only_alloc (only_alloc (World.grownBy.refl w _) _) _, HW3, HW4, hg⟩
  clear HW1 HW3 HW4 h
  have CM := Lib.hid (fun wv => spec_l1Most 1 y1 wv)
  generalize hMx : max 1 y1 = M at CM
  clear hMx
  go_enter Try.func158, Try.ntmps158
  go_upto_region 1 with fail
  generalize (w.alloc (.cells #[.int .i64 y0, .int .i64 y1, .int .i64 y2, .int .i64 y3, .int .i64 y4] 85)).alloc (.cells #[.int .i64 0, .int .i64 0, .int .i64 0] 92) = v0 at *
  obtain ⟨p, hp⟩ : ∃ p, p = w.heap.size := ⟨_, rfl⟩
  rw [← hp] at X0 HW2 hg ⊢
  have hwp : w.heap.size ≤ p := by omega
  have HP := Lib.hid hp
  clear HW2 hp
  go_cut [5] (fun s5 wx => ∃ b5, ∃ x y z : Int, s5 = .pointer (some ⟨b5, 0, none⟩) ∧ p + 1 < b5 ∧ Hid (Blk wx b5 92 #[.int .i64 x, .int .i64 y, .int .i64 z]) ∧ Hid (DS w wx g p S (K + 2 + 2 + 2) y0 y1 y2 y3 y4))
  case first =>
    · skip
      refine wp_region_inv (I := DI w g p S K y0 y1 y2 y3 y4 M) (by kernel_rfl) ?_ ?_ ?_ ?_
      · rintro l a w1 ⟨b0, b1, b2, b3, b4, b5, b6, b7, b8, b9, b10, b11, b12, b13, v5, v6, v7, v8, v9, v10, v11, v12, v13, v14, v15, v16, v17, rfl, rfl, _⟩
        rfl
      · exact ⟨false, false, false, false, false, false, false, false, false, false, false, false, false, false, undef, undef, undef, undef, undef, undef, undef, undef, undef, undef, undef, undef, undef, rfl, rfl, Lib.hid (X0.out.drew), (Lib.hid (fun h => by cases h)), (Lib.hid (fun h => by cases h)), (Lib.hid (fun h => by cases h)), (Lib.hid (fun h => by cases h)), (Lib.hid (fun h => by cases h)), (Lib.hid (fun h => by cases h)), (Lib.hid (fun h => by cases h)), (Lib.hid (fun h => by cases h)), (Lib.hid (fun h => by cases h)), (Lib.hid (fun h => by cases h)), (Lib.hid (fun h => by cases h)), (Lib.hid (fun h => by cases h)), (Lib.hid (fun _ => (show MB _ _ _ _ _ _ from fun h => by cases h))), (Lib.hid (fun h => by cases h)), (Lib.hid (fun h => by cases h))⟩
      · intro Q'
        refine ⟨⟨rfl, ?_⟩, ⟨rfl, ?_⟩, ⟨rfl, ?_⟩, ⟨rfl, ?_⟩, ⟨rfl, ?_⟩, ⟨rfl, ?_⟩, ⟨rfl, ?_⟩, ⟨rfl, ?_⟩, ⟨rfl, ?_⟩, ⟨rfl, ?_⟩, ⟨rfl, ?_⟩, ⟨rfl, ?_⟩, ⟨rfl, ?_⟩, ⟨rfl, ?_⟩, trivial⟩
        · intro l a w1 hI hi hd Kx hKx
          obtain ⟨b0, b1, b2, b3, b4, b5, b6, b7, b8, b9, b10, b11, b12, b13, v5, v6, v7, v8, v9, v10, v11, v12, v13, v14, v15, v16, v17, rfl, rfl, HS, F0, F1, F2, F3, F4, F5, F6, F7, F8, F9, F10, F11, F12, F13, FE⟩ := hI
          have hbi : b0 = false := hi
          subst hbi
          clear hd
          have h13 : b13 = false := by
            rcases b13 with _ | _
            · rfl
            · exact absurd (FE.out rfl) (by simp)
          subst h13
          go_simp
          refine hKx.out _ _ ?_
          clear hKx
          refine ⟨true, _, _, _, _, _, _, _, _, _, _, _, _, _, _, _, _, _, _, _, _, _, _, _, _, _, _, rfl, rfl, ?_, ?_, ?_, ?_, ?_, ?_, ?_, ?_, ?_, ?_, ?_, ?_, ?_, ?_, ?_, ?_⟩
          · exact HS
          · exact Lib.hid (fun _ => rfl)
          · exact F1
          · exact F2
          · exact F3
          · exact F4
          · exact F5
          · exact F6
          · exact F7
          · exact F8
          · exact F9
          · exact F10
          · exact F11
          · exact F12
          · exact Lib.hid (fun h => by cases h)
          · exact Lib.hid (fun h => by cases h)
        · intro l a w1 hI hi hd Kx hKx
          obtain ⟨b0, b1, b2, b3, b4, b5, b6, b7, b8, b9, b10, b11, b12, b13, v5, v6, v7, v8, v9, v10, v11, v12, v13, v14, v15, v16, v17, rfl, rfl, HS, F0, F1, F2, F3, F4, F5, F6, F7, F8, F9, F10, F11, F12, F13, FE⟩ := hI
          have hbi : b1 = false := hi
          subst hbi
          clear hd
          have h13 : b13 = false := by
            rcases b13 with _ | _
            · rfl
            · exact absurd (FE.out rfl) (by simp)
          subst h13
          have hqq := HS.out.qlt
          go_simp
          refine hKx.out _ _ ?_
          clear hKx
          refine ⟨_, true, _, _, _, _, _, _, _, _, _, _, _, _, _, _, _, _, _, _, _, _, _, _, _, _, _, rfl, rfl, ?_, ?_, ?_, ?_, ?_, ?_, ?_, ?_, ?_, ?_, ?_, ?_, ?_, ?_, ?_, ?_⟩
          · exact Lib.hid (HS.out.alloc _)
          · exact F0
          · exact Lib.hid (fun _ => ⟨_, rfl, Blk.new _ _ _, hqq⟩)
          · exact F2
          · exact F3
          · exact F4
          · exact F5
          · exact F6
          · exact F7
          · exact F8
          · exact Lib.hid (F9.out.alloc _)
          · exact F10
          · exact F11
          · exact Lib.hid (fun h => (F12.out h).alloc _)
          · exact Lib.hid (fun h => by cases h)
          · exact Lib.hid (fun h => by cases h)
        · intro l a w1 hI hi hd Kx hKx
          obtain ⟨b0, b1, b2, b3, b4, b5, b6, b7, b8, b9, b10, b11, b12, b13, v5, v6, v7, v8, v9, v10, v11, v12, v13, v14, v15, v16, v17, rfl, rfl, HS, F0, F1, F2, F3, F4, F5, F6, F7, F8, F9, F10, F11, F12, F13, FE⟩ := hI
          have hbi : b2 = false := hi
          subst hbi
          have hb0 : b0 = true := hd ⟨0, .data⟩ (by simp) rfl
          have hb1 : b1 = true := hd ⟨1, .data⟩ (by simp) rfl
          clear hd
          subst hb0 hb1
          have h13 : b13 = false := by
            rcases b13 with _ | _
            · rfl
            · exact absurd (FE.out rfl) (by simp)
          subst h13
          have h11 : b11 = false := by
            rcases b11 with _ | _
            · rfl
            · exact absurd (F11.out rfl).1 (by simp)
          subst h11
          obtain rfl := F0.out rfl
          obtain ⟨q1, rfl, hq1, hq2⟩ := F1.out rfl
          have hgp := HS.out.2.2.2.2
          have hc1 := cnt_le false
          have hc2 := cnt_le b7
          have hc3 := cnt_le b10
          go_simp
          go_at_call 96
          refine (cur_amongW _ _ S (K + (cnt false + cnt b7 + cnt b10)) [0, 5, 9, 10, 14, 60, 103, 3000] (fun r => True) _ _ _ HS.out.cur (by omega) (rd_blk (n := 8) hq1 rfl rfl) (by intro b off e; injection e with e; injection e with e1 e2; omega) (by omega) (by omega) (fun _ _ => trivial)).mono ?_
          rintro e w2 ⟨r, _, rfl, hC, hG⟩
          refine hKx.out _ _ ?_
          clear hKx
          refine ⟨_, _, true, _, _, _, _, _, _, _, _, _, _, _, _, _, _, _, _, _, _, _, _, _, _, _, _, rfl, rfl, ?_, ?_, ?_, ?_, ?_, ?_, ?_, ?_, ?_, ?_, ?_, ?_, ?_, ?_, ?_, ?_⟩
          · exact Lib.hid (HS.out.call (hC.more (by simp [cnt]; omega)) hG)
          · exact F0
          · exact Lib.hid (F1.out.past hgp hG)
          · exact Lib.hid (fun _ => ⟨r, rfl⟩)
          · exact F3
          · exact F4
          · exact F5
          · exact F6
          · exact F7
          · exact F8
          · exact Lib.hid (F9.out.past hgp hG)
          · exact F10
          · exact Lib.hid (fun h => by cases h)
          · exact Lib.hid (fun h => (F12.out h).past hgp hG)
          · exact Lib.hid (fun h => by cases h)
          · exact Lib.hid (fun h => by cases h)
        · intro l a w1 hI hi hd Kx hKx
          obtain ⟨b0, b1, b2, b3, b4, b5, b6, b7, b8, b9, b10, b11, b12, b13, v5, v6, v7, v8, v9, v10, v11, v12, v13, v14, v15, v16, v17, rfl, rfl, HS, F0, F1, F2, F3, F4, F5, F6, F7, F8, F9, F10, F11, F12, F13, FE⟩ := hI
          have hbi : b3 = false := hi
          subst hbi
          clear hd
          have h13 : b13 = false := by
            rcases b13 with _ | _
            · rfl
            · exact absurd (FE.out rfl) (by simp)
          subst h13
          go_simp
          refine hKx.out _ _ ?_
          clear hKx
          refine ⟨_, _, _, true, _, _, _, _, _, _, _, _, _, _, _, _, _, _, _, _, _, _, _, _, _, _, _, rfl, rfl, ?_, ?_, ?_, ?_, ?_, ?_, ?_, ?_, ?_, ?_, ?_, ?_, ?_, ?_, ?_, ?_⟩
          · exact HS
          · exact F0
          · exact F1
          · exact F2
          · exact Lib.hid (fun _ => rfl)
          · exact F4
          · exact F5
          · exact F6
          · exact F7
          · exact F8
          · exact F9
          · exact F10
          · exact F11
          · exact F12
          · exact Lib.hid (fun h => by cases h)
          · exact Lib.hid (fun h => by cases h)
        · intro l a w1 hI hi hd Kx hKx
          obtain ⟨b0, b1, b2, b3, b4, b5, b6, b7, b8, b9, b10, b11, b12, b13, v5, v6, v7, v8, v9, v10, v11, v12, v13, v14, v15, v16, v17, rfl, rfl, HS, F0, F1, F2, F3, F4, F5, F6, F7, F8, F9, F10, F11, F12, F13, FE⟩ := hI
          have hbi : b4 = false := hi
          subst hbi
          clear hd
          have h13 : b13 = false := by
            rcases b13 with _ | _
            · rfl
            · exact absurd (FE.out rfl) (by simp)
          subst h13
          go_simp
          refine hKx.out _ _ ?_
          clear hKx
          refine ⟨_, _, _, _, true, _, _, _, _, _, _, _, _, _, _, _, _, _, _, _, _, _, _, _, _, _, _, rfl, rfl, ?_, ?_, ?_, ?_, ?_, ?_, ?_, ?_, ?_, ?_, ?_, ?_, ?_, ?_, ?_, ?_⟩
          · exact HS
          · exact F0
          · exact F1
          · exact F2
          · exact F3
          · exact Lib.hid (fun _ => rfl)
          · exact F5
          · exact F6
          · exact F7
          · exact F8
          · exact F9
          · exact F10
          · exact F11
          · exact F12
          · exact Lib.hid (fun h => by cases h)
          · exact Lib.hid (fun h => by cases h)
        · intro l a w1 hI hi hd Kx hKx
          obtain ⟨b0, b1, b2, b3, b4, b5, b6, b7, b8, b9, b10, b11, b12, b13, v5, v6, v7, v8, v9, v10, v11, v12, v13, v14, v15, v16, v17, rfl, rfl, HS, F0, F1, F2, F3, F4, F5, F6, F7, F8, F9, F10, F11, F12, F13, FE⟩ := hI
          have hbi : b5 = false := hi
          subst hbi
          have hb4 : b4 = true := hd ⟨4, .data⟩ (by simp) rfl
          clear hd
          subst hb4
          have h13 : b13 = false := by
            rcases b13 with _ | _
            · rfl
            · exact absurd (FE.out rfl) (by simp)
          subst h13
          obtain rfl := F4.out rfl
          have d0 := HS.out.one
          go_simp
          refine hKx.out _ _ ?_
          clear hKx
          refine ⟨_, _, _, _, _, true, _, _, _, _, _, _, _, _, _, _, _, _, _, _, _, _, _, _, _, _, _, rfl, rfl, ?_, ?_, ?_, ?_, ?_, ?_, ?_, ?_, ?_, ?_, ?_, ?_, ?_, ?_, ?_, ?_⟩
          · exact HS
          · exact F0
          · exact F1
          · exact F2
          · exact F3
          · exact F4
          · exact Lib.hid (fun _ => rfl)
          · exact F6
          · exact F7
          · exact F8
          · exact F9
          · exact F10
          · exact F11
          · exact F12
          · exact Lib.hid (fun h => by cases h)
          · exact Lib.hid (fun h => by cases h)
        · intro l a w1 hI hi hd Kx hKx
          obtain ⟨b0, b1, b2, b3, b4, b5, b6, b7, b8, b9, b10, b11, b12, b13, v5, v6, v7, v8, v9, v10, v11, v12, v13, v14, v15, v16, v17, rfl, rfl, HS, F0, F1, F2, F3, F4, F5, F6, F7, F8, F9, F10, F11, F12, F13, FE⟩ := hI
          have hbi : b6 = false := hi
          subst hbi
          have hb5 : b5 = true := hd ⟨5, .data⟩ (by simp) rfl
          have hb2 : b2 = true := hd ⟨2, .chain⟩ (by simp) rfl
          clear hd
          subst hb5 hb2
          have h13 : b13 = false := by
            rcases b13 with _ | _
            · rfl
            · exact absurd (FE.out rfl) (by simp)
          subst h13
          obtain rfl := F5.out rfl
          go_simp
          go_at_call 108
          refine (CM.out _).mono ?_
          rintro e w2 ⟨rfl, rfl⟩
          refine hKx.out _ _ ?_
          clear hKx
          refine ⟨_, _, _, _, _, _, true, _, _, _, _, _, _, _, _, _, _, _, _, _, _, _, _, _, _, _, _, rfl, rfl, ?_, ?_, ?_, ?_, ?_, ?_, ?_, ?_, ?_, ?_, ?_, ?_, ?_, ?_, ?_, ?_⟩
          · exact HS
          · exact F0
          · exact F1
          · exact F2
          · exact F3
          · exact F4
          · exact F5
          · exact Lib.hid (fun _ => rfl)
          · exact F7
          · exact F8
          · exact F9
          · exact F10
          · exact F11
          · exact F12
          · exact Lib.hid (fun h => by cases h)
          · exact Lib.hid (fun h => by cases h)
        · intro l a w1 hI hi hd Kx hKx
          obtain ⟨b0, b1, b2, b3, b4, b5, b6, b7, b8, b9, b10, b11, b12, b13, v5, v6, v7, v8, v9, v10, v11, v12, v13, v14, v15, v16, v17, rfl, rfl, HS, F0, F1, F2, F3, F4, F5, F6, F7, F8, F9, F10, F11, F12, F13, FE⟩ := hI
          have hbi : b7 = false := hi
          subst hbi
          have hb3 : b3 = true := hd ⟨3, .data⟩ (by simp) rfl
          have hb6 : b6 = true := hd ⟨6, .data⟩ (by simp) rfl
          clear hd
          subst hb3 hb6
          have h13 : b13 = false := by
            rcases b13 with _ | _
            · rfl
            · exact absurd (FE.out rfl) (by simp)
          subst h13
          have h11 : b11 = false := by
            rcases b11 with _ | _
            · rfl
            · exact absurd (F11.out rfl).1 (by simp)
          subst h11
          obtain rfl := F3.out rfl
          obtain rfl := F6.out rfl
          have hgp := HS.out.2.2.2.2
          have hc1 := cnt_le b2
          have hc2 := cnt_le false
          have hc3 := cnt_le b10
          go_simp
          go_at_call 125
          refine (cur_pickA _ _ S (K + (cnt b2 + cnt false + cnt b10)) _ HS.out.cur (by omega)).mono ?_
          rintro e w2 ⟨r, _, rfl, hC, hG⟩
          refine hKx.out _ _ ?_
          clear hKx
          refine ⟨_, _, _, _, _, _, _, true, _, _, _, _, _, _, _, _, _, _, _, _, _, _, _, _, _, _, _, rfl, rfl, ?_, ?_, ?_, ?_, ?_, ?_, ?_, ?_, ?_, ?_, ?_, ?_, ?_, ?_, ?_, ?_⟩
          · exact Lib.hid (HS.out.call (hC.more (by simp [cnt]; omega)) hG)
          · exact F0
          · exact Lib.hid (F1.out.past hgp hG)
          · exact F2
          · exact F3
          · exact F4
          · exact F5
          · exact F6
          · exact Lib.hid (fun _ => ⟨r, rfl⟩)
          · exact F8
          · exact Lib.hid (F9.out.past hgp hG)
          · exact F10
          · exact Lib.hid (fun h => by cases h)
          · exact Lib.hid (fun h => (F12.out h).past hgp hG)
          · exact Lib.hid (fun h => by cases h)
          · exact Lib.hid (fun h => by cases h)
        · intro l a w1 hI hi hd Kx hKx
          obtain ⟨b0, b1, b2, b3, b4, b5, b6, b7, b8, b9, b10, b11, b12, b13, v5, v6, v7, v8, v9, v10, v11, v12, v13, v14, v15, v16, v17, rfl, rfl, HS, F0, F1, F2, F3, F4, F5, F6, F7, F8, F9, F10, F11, F12, F13, FE⟩ := hI
          have hbi : b8 = false := hi
          subst hbi
          clear hd
          have h13 : b13 = false := by
            rcases b13 with _ | _
            · rfl
            · exact absurd (FE.out rfl) (by simp)
          subst h13
          go_simp
          refine hKx.out _ _ ?_
          clear hKx
          refine ⟨_, _, _, _, _, _, _, _, true, _, _, _, _, _, _, _, _, _, _, _, _, _, _, _, _, _, _, rfl, rfl, ?_, ?_, ?_, ?_, ?_, ?_, ?_, ?_, ?_, ?_, ?_, ?_, ?_, ?_, ?_, ?_⟩
          · exact HS
          · exact F0
          · exact F1
          · exact F2
          · exact F3
          · exact F4
          · exact F5
          · exact F6
          · exact F7
          · exact Lib.hid (fun _ => rfl)
          · exact F9
          · exact F10
          · exact F11
          · exact F12
          · exact Lib.hid (fun h => by cases h)
          · exact Lib.hid (fun h => by cases h)
        · intro l a w1 hI hi hd Kx hKx
          obtain ⟨b0, b1, b2, b3, b4, b5, b6, b7, b8, b9, b10, b11, b12, b13, v5, v6, v7, v8, v9, v10, v11, v12, v13, v14, v15, v16, v17, rfl, rfl, HS, F0, F1, F2, F3, F4, F5, F6, F7, F8, F9, F10, F11, F12, F13, FE⟩ := hI
          have hbi : b9 = false := hi
          subst hbi
          clear hd
          have h13 : b13 = false := by
            rcases b13 with _ | _
            · rfl
            · exact absurd (FE.out rfl) (by simp)
          subst h13
          have hqq := HS.out.qlt
          go_simp
          refine hKx.out _ _ ?_
          clear hKx
          refine ⟨_, _, _, _, _, _, _, _, _, true, _, _, _, _, _, _, _, _, _, _, _, _, _, _, _, _, _, rfl, rfl, ?_, ?_, ?_, ?_, ?_, ?_, ?_, ?_, ?_, ?_, ?_, ?_, ?_, ?_, ?_, ?_⟩
          · exact Lib.hid (HS.out.alloc _)
          · exact F0
          · exact Lib.hid (F1.out.alloc _)
          · exact F2
          · exact F3
          · exact F4
          · exact F5
          · exact F6
          · exact F7
          · exact F8
          · exact Lib.hid (fun _ => ⟨_, rfl, Blk.new _ _ _, hqq⟩)
          · exact F10
          · exact F11
          · exact Lib.hid (fun h => (F12.out h).alloc _)
          · exact Lib.hid (fun h => by cases h)
          · exact Lib.hid (fun h => by cases h)
        · intro l a w1 hI hi hd Kx hKx
          obtain ⟨b0, b1, b2, b3, b4, b5, b6, b7, b8, b9, b10, b11, b12, b13, v5, v6, v7, v8, v9, v10, v11, v12, v13, v14, v15, v16, v17, rfl, rfl, HS, F0, F1, F2, F3, F4, F5, F6, F7, F8, F9, F10, F11, F12, F13, FE⟩ := hI
          have hbi : b10 = false := hi
          subst hbi
          have hb8 : b8 = true := hd ⟨8, .data⟩ (by simp) rfl
          have hb9 : b9 = true := hd ⟨9, .data⟩ (by simp) rfl
          have hb7 : b7 = true := hd ⟨7, .chain⟩ (by simp) rfl
          clear hd
          subst hb8 hb9 hb7
          have h13 : b13 = false := by
            rcases b13 with _ | _
            · rfl
            · exact absurd (FE.out rfl) (by simp)
          subst h13
          have h11 : b11 = false := by
            rcases b11 with _ | _
            · rfl
            · exact absurd (F11.out rfl).1 (by simp)
          subst h11
          obtain rfl := F8.out rfl
          obtain ⟨q1, rfl, hq1, hq2⟩ := F9.out rfl
          have hgp := HS.out.2.2.2.2
          have hc1 := cnt_le b2
          have hc2 := cnt_le true
          have hc3 := cnt_le false
          go_simp
          go_at_call 96
          refine (cur_amongW _ _ S (K + (cnt b2 + cnt true + cnt false)) [1, 1, 2, 3, 4] (fun r => True) _ _ _ HS.out.cur (by omega) (rd_blk (n := 5) hq1 rfl rfl) (by intro b off e; injection e with e; injection e with e1 e2; omega) (by omega) (by omega) (fun _ _ => trivial)).mono ?_
          rintro e w2 ⟨r, _, rfl, hC, hG⟩
          refine hKx.out _ _ ?_
          clear hKx
          refine ⟨_, _, _, _, _, _, _, _, _, _, true, _, _, _, _, _, _, _, _, _, _, _, _, _, _, _, _, rfl, rfl, ?_, ?_, ?_, ?_, ?_, ?_, ?_, ?_, ?_, ?_, ?_, ?_, ?_, ?_, ?_, ?_⟩
          · exact Lib.hid (HS.out.call (hC.more (by simp [cnt]; omega)) hG)
          · exact F0
          · exact Lib.hid (F1.out.past hgp hG)
          · exact F2
          · exact F3
          · exact F4
          · exact F5
          · exact F6
          · exact F7
          · exact F8
          · exact Lib.hid (F9.out.past hgp hG)
          · exact Lib.hid (fun _ => ⟨r, rfl⟩)
          · exact Lib.hid (fun h => by cases h)
          · exact Lib.hid (fun h => (F12.out h).past hgp hG)
          · exact Lib.hid (fun h => by cases h)
          · exact Lib.hid (fun h => by cases h)
        · intro l a w1 hI hi hd Kx hKx
          obtain ⟨b0, b1, b2, b3, b4, b5, b6, b7, b8, b9, b10, b11, b12, b13, v5, v6, v7, v8, v9, v10, v11, v12, v13, v14, v15, v16, v17, rfl, rfl, HS, F0, F1, F2, F3, F4, F5, F6, F7, F8, F9, F10, F11, F12, F13, FE⟩ := hI
          have hbi : b11 = false := hi
          subst hbi
          have hb2 : b2 = true := hd ⟨2, .data⟩ (by simp) rfl
          have hb7 : b7 = true := hd ⟨7, .data⟩ (by simp) rfl
          have hb10 : b10 = true := hd ⟨10, .data⟩ (by simp) rfl
          clear hd
          subst hb2 hb7 hb10
          have h13 : b13 = false := by
            rcases b13 with _ | _
            · rfl
            · exact absurd (FE.out rfl) (by simp)
          subst h13
          obtain ⟨x, rfl⟩ := F2.out rfl
          obtain ⟨y, rfl⟩ := F7.out rfl
          obtain ⟨z, rfl⟩ := F10.out rfl
          go_simp
          refine hKx.out _ _ ?_
          clear hKx
          refine ⟨_, _, _, _, _, _, _, _, _, _, _, true, _, _, _, _, _, _, _, _, _, _, _, _, _, _, _, rfl, rfl, ?_, ?_, ?_, ?_, ?_, ?_, ?_, ?_, ?_, ?_, ?_, ?_, ?_, ?_, ?_, ?_⟩
          · exact HS
          · exact F0
          · exact F1
          · exact Lib.hid (fun _ => ⟨x, rfl⟩)
          · exact F3
          · exact F4
          · exact F5
          · exact F6
          · exact Lib.hid (fun _ => ⟨y, rfl⟩)
          · exact F8
          · exact F9
          · exact Lib.hid (fun _ => ⟨z, rfl⟩)
          · exact Lib.hid (fun _ => ⟨rfl, rfl⟩)
          · exact F12
          · exact Lib.hid (fun h => by cases h)
          · exact Lib.hid (fun h => by cases h)
        · intro l a w1 hI hi hd Kx hKx
          obtain ⟨b0, b1, b2, b3, b4, b5, b6, b7, b8, b9, b10, b11, b12, b13, v5, v6, v7, v8, v9, v10, v11, v12, v13, v14, v15, v16, v17, rfl, rfl, HS, F0, F1, F2, F3, F4, F5, F6, F7, F8, F9, F10, F11, F12, F13, FE⟩ := hI
          have hbi : b12 = false := hi
          subst hbi
          clear hd
          have h13 : b13 = false := by
            rcases b13 with _ | _
            · rfl
            · exact absurd (FE.out rfl) (by simp)
          subst h13
          have hqq := HS.out.qlt
          go_simp
          refine hKx.out _ _ ?_
          clear hKx
          refine ⟨_, _, _, _, _, _, _, _, _, _, _, _, true, _, _, _, _, _, _, _, _, _, _, _, _, _, _, rfl, rfl, ?_, ?_, ?_, ?_, ?_, ?_, ?_, ?_, ?_, ?_, ?_, ?_, ?_, ?_, ?_, ?_⟩
          · exact Lib.hid (HS.out.alloc _)
          · exact F0
          · exact Lib.hid (F1.out.alloc _)
          · exact F2
          · exact F3
          · exact F4
          · exact F5
          · exact F6
          · exact F7
          · exact F8
          · exact Lib.hid (F9.out.alloc _)
          · exact F10
          · exact F11
          · exact Lib.hid (fun _ => (show MB _ _ _ _ _ _ from fun _ => ⟨_, rfl, Blk.new _ _ _, hqq⟩))
          · exact Lib.hid (fun h => by cases h)
          · exact Lib.hid (fun h => by cases h)
        · intro l a w1 hI hi hd Kx hKx
          obtain ⟨b0, b1, b2, b3, b4, b5, b6, b7, b8, b9, b10, b11, b12, b13, v5, v6, v7, v8, v9, v10, v11, v12, v13, v14, v15, v16, v17, rfl, rfl, HS, F0, F1, F2, F3, F4, F5, F6, F7, F8, F9, F10, F11, F12, F13, FE⟩ := hI
          have hbi : b13 = false := hi
          subst hbi
          have hb0 : b0 = true := hd ⟨0, .phase⟩ (by simp) rfl
          have hb1 : b1 = true := hd ⟨1, .phase⟩ (by simp) rfl
          have hb2 : b2 = true := hd ⟨2, .phase⟩ (by simp) rfl
          have hb3 : b3 = true := hd ⟨3, .phase⟩ (by simp) rfl
          have hb4 : b4 = true := hd ⟨4, .phase⟩ (by simp) rfl
          have hb5 : b5 = true := hd ⟨5, .phase⟩ (by simp) rfl
          have hb6 : b6 = true := hd ⟨6, .phase⟩ (by simp) rfl
          have hb7 : b7 = true := hd ⟨7, .phase⟩ (by simp) rfl
          have hb8 : b8 = true := hd ⟨8, .phase⟩ (by simp) rfl
          have hb9 : b9 = true := hd ⟨9, .phase⟩ (by simp) rfl
          have hb10 : b10 = true := hd ⟨10, .phase⟩ (by simp) rfl
          have hb11 : b11 = true := hd ⟨11, .phase⟩ (by simp) rfl
          have hb12 : b12 = true := hd ⟨12, .phase⟩ (by simp) rfl
          clear hd
          subst hb0 hb1 hb2 hb3 hb4 hb5 hb6 hb7 hb8 hb9 hb10 hb11 hb12
          obtain ⟨x, rfl⟩ := F2.out rfl
          obtain ⟨y, rfl⟩ := F7.out rfl
          obtain ⟨z, rfl⟩ := F10.out rfl
          obtain ⟨_, rfl⟩ := F11.out rfl
          obtain ⟨q1, rfl, hq1, hq2⟩ := F12.out rfl rfl
          obtain ⟨u0, u1, u2⟩ := hq1.cells3
          have g0 := hq1.frozen 0
          have g1 := hq1.frozen 1
          have g2 := hq1.frozen 2
          have hgp := HS.out.2.2.2.2
          have hf1 : Hid (MB p true (fun q => v7 = .slice (some ⟨q, 0, none⟩) 8 8) ((((w1.setCell ⟨q1, 0, none⟩ (.int .i64 x)).setCell ⟨q1, 1, none⟩ (.int .i64 y)).setCell ⟨q1, 2, none⟩ (.int .i64 z))) 3 #[.int .i64 0, .int .i64 5, .int .i64 9, .int .i64 10, .int .i64 14, .int .i64 60, .int .i64 103, .int .i64 3000]) := Lib.hid (F1.out.far3 hq1 (by decide) _ _ _)
          have hf9 : Hid (MB p true (fun q => v15 = .slice (some ⟨q, 0, none⟩) 5 5) ((((w1.setCell ⟨q1, 0, none⟩ (.int .i64 x)).setCell ⟨q1, 1, none⟩ (.int .i64 y)).setCell ⟨q1, 2, none⟩ (.int .i64 z))) 3 #[.int .i64 1, .int .i64 1, .int .i64 2, .int .i64 3, .int .i64 4]) := Lib.hid (F9.out.far3 hq1 (by decide) _ _ _)
          go_simp
          refine hKx.out _ _ ?_
          clear hKx
          refine ⟨_, _, _, _, _, _, _, _, _, _, _, _, _, true, _, _, _, _, _, _, _, _, _, _, _, _, _, rfl, rfl, ?_, ?_, ?_, ?_, ?_, ?_, ?_, ?_, ?_, ?_, ?_, ?_, ?_, ?_, ?_, ?_⟩
          · exact Lib.hid (HS.out.set3 hq2 (by omega) _ _ _)
          · exact F0
          · exact hf1
          · exact Lib.hid (fun _ => ⟨x, rfl⟩)
          · exact F3
          · exact F4
          · exact F5
          · exact F6
          · exact Lib.hid (fun _ => ⟨y, rfl⟩)
          · exact F8
          · exact hf9
          · exact Lib.hid (fun _ => ⟨z, rfl⟩)
          · exact Lib.hid (fun _ => ⟨rfl, rfl⟩)
          · exact Lib.hid (fun h => by cases h)
          · exact Lib.hid (fun _ => ⟨q1, x, y, z, rfl, hq2, hq1.put3⟩)
          · exact Lib.hid (fun _ => rfl)
      · intro l a w1 hI hr
        have hsz : l.size = 14 := by
          obtain ⟨b0, b1, b2, b3, b4, b5, b6, b7, b8, b9, b10, b11, b12, b13, v5, v6, v7, v8, v9, v10, v11, v12, v13, v14, v15, v16, v17, rfl, rfl, _⟩ := hI
          rfl
        have hall := ready_nil hsz (by kernel_rfl) hr
        obtain ⟨b0, b1, b2, b3, b4, b5, b6, b7, b8, b9, b10, b11, b12, b13, v5, v6, v7, v8, v9, v10, v11, v12, v13, v14, v15, v16, v17, rfl, rfl, HS, F0, F1, F2, F3, F4, F5, F6, F7, F8, F9, F10, F11, F12, F13, FE⟩ := hI
        have hb2 : b2 = true := hall 2 (by decide)
        have hb7 : b7 = true := hall 7 (by decide)
        have hb10 : b10 = true := hall 10 (by decide)
        have hb13 : b13 = true := hall 13 (by decide)
        subst hb2 hb7 hb10 hb13
        obtain ⟨q1, x, y, z, rfl, hq, hB⟩ := F13.out rfl
        have HB := Lib.hid hB
        clear F0 F1 F2 F3 F4 F5 F6 F7 F8 F9 F10 F11 F12 F13 FE hall hr hsz
        go_wp2_with fail
        go_meet
        exact ⟨q1, x, y, z, rfl, hq, HB, HS⟩
  case rest =>
    as_aux_lemma =>
      obtain ⟨b5, x, y, z, rfl, hpb, HBk, HDS⟩ := hcut
      have X : Hid (MS w wc g (p + 1) p b5 S (K + 6) y0 y1 y2 y3 y4 x y z) := Lib.hid (by
        obtain ⟨h1, h2, h3, h4, h5⟩ := HDS.out
        have hpp := HP.out
        exact ⟨⟨h1, h2, h4, HBk.out, by omega, by omega, hpb⟩, h3, h5, by omega, by omega⟩)
      generalize hq : p + 1 = q at *
      clear HBk HDS hq hpb X0 CM HP hwp
      ((try clear c0 c1 c2 f0 f1 f2 z0 z1 z2 k0 k1 k2 d1 d2); obtain ⟨⟨c0, c1, c2⟩, ⟨f0, f1, f2⟩, ⟨z0, z1, z2⟩, ⟨k0, k1, k2⟩, ⟨d1, d2⟩, _, _, _, _, _, _, _, _⟩ := (X).out.cells)
      go_wp2_with ((go_at_call 125; (with_reducible refine (cur_pick wc _ S (K + 6) (60) (X.out.cur) (by omega) (by omega) (by omega)).mono ?_); rintro e w6 ⟨r, ⟨r0, r1⟩, rfl, hC, hG⟩; have Cw6 := Lib.hid hC; have Gw6 := Lib.hid hG; have Zw6 := hG.size; clear hC hG); have Y6 := Lib.hid (X.out.call Cw6.out Gw6.out); ((try clear c0 c1 c2 f0 f1 f2 z0 z1 z2 k0 k1 k2 d1 d2); obtain ⟨⟨c0, c1, c2⟩, ⟨f0, f1, f2⟩, ⟨z0, z1, z2⟩, ⟨k0, k1, k2⟩, ⟨d1, d2⟩, _, _, _, _, _, _, _, _⟩ := (Y6).out.cells))
      · (go_at_call 96; refine (cur_among w6 _ S (K + 6 + 2) [-1, 3001] (fun r => True) _ _ (Cw6.out) (by omega) rfl rfl (by decide) (by decide) (by decide)).mono ?_; rintro e w7 ⟨v, vp, rfl, hC, hG⟩; have Cw7 := Lib.hid hC; have Gw7 := Lib.hid hG; have Zw7 := hG.size; clear hC hG)
        have V7 := Lib.hid (Y6.out.call Cw7.out Gw7.out)
        ((try clear c0 c1 c2 f0 f1 f2 z0 z1 z2 k0 k1 k2 d1 d2); obtain ⟨⟨c0, c1, c2⟩, ⟨f0, f1, f2⟩, ⟨z0, z1, z2⟩, ⟨k0, k1, k2⟩, ⟨d1, d2⟩, _, _, _, _, _, _, _, _⟩ := (V7).out.cells)
        have Y7 := Lib.hid (V7.out.set0 v)
        go_wp2_with fail
        (go_light; obtain ⟨p1, p2, p3⟩ := Y7.out.fin; obtain ⟨e0, e1, e2⟩ := p3.cells3; refine bodyPost_ret (v := .agg #[.int .i64 v, .int .i64 y, .int .i64 z]) ?_ rfl ⟨_, _, _, rfl, p1.more (by omega), p2⟩; simp [results, Try.results158, go_sem, e0, e1, e2])
      · (go_at_call 96; refine (cur_among w6 _ S (K + 6 + 2) [-1, y1] (fun _ => True) _ _ (Cw6.out) (by omega) rfl rfl (by simp) (by simp) (fun _ _ => trivial)).mono ?_; rintro e w7 ⟨v, vp, rfl, hC, hG⟩; have Cw7 := Lib.hid hC; have Gw7 := Lib.hid hG; have Zw7 := hG.size; clear hC hG)
        have V7 := Lib.hid (Y6.out.call Cw7.out Gw7.out)
        ((try clear c0 c1 c2 f0 f1 f2 z0 z1 z2 k0 k1 k2 d1 d2); obtain ⟨⟨c0, c1, c2⟩, ⟨f0, f1, f2⟩, ⟨z0, z1, z2⟩, ⟨k0, k1, k2⟩, ⟨d1, d2⟩, _, _, _, _, _, _, _, _⟩ := (V7).out.cells)
        have Y7 := Lib.hid (V7.out.set1 v)
        go_wp2_with fail
        (go_light; obtain ⟨p1, p2, p3⟩ := Y7.out.fin; obtain ⟨e0, e1, e2⟩ := p3.cells3; refine bodyPost_ret (v := .agg #[.int .i64 x, .int .i64 v, .int .i64 z]) ?_ rfl ⟨_, _, _, rfl, p1.more (by omega), p2⟩; simp [results, Try.results158, go_sem, e0, e1, e2])
      · (go_at_call 96; refine (cur_among w6 _ S (K + 6 + 2) [0, -1, y2, wrap64 (y2 + 1)] (fun _ => True) _ _ (Cw6.out) (by omega) rfl rfl (by simp) (by simp) (fun _ _ => trivial)).mono ?_; rintro e w7 ⟨v, vp, rfl, hC, hG⟩; have Cw7 := Lib.hid hC; have Gw7 := Lib.hid hG; have Zw7 := hG.size; clear hC hG)
        have V7 := Lib.hid (Y6.out.call Cw7.out Gw7.out)
        ((try clear c0 c1 c2 f0 f1 f2 z0 z1 z2 k0 k1 k2 d1 d2); obtain ⟨⟨c0, c1, c2⟩, ⟨f0, f1, f2⟩, ⟨z0, z1, z2⟩, ⟨k0, k1, k2⟩, ⟨d1, d2⟩, _, _, _, _, _, _, _, _⟩ := (V7).out.cells)
        have Y7 := Lib.hid (V7.out.set2 v)
        go_wp2_with fail
        (go_light; obtain ⟨p1, p2, p3⟩ := Y7.out.fin; obtain ⟨e0, e1, e2⟩ := p3.cells3; refine bodyPost_ret (v := .agg #[.int .i64 x, .int .i64 y, .int .i64 v]) ?_ rfl ⟨_, _, _, rfl, p1.more (by omega), p2⟩; simp [results, Try.results158, go_sem, e0, e1, e2])
      · (go_light; obtain ⟨p1, p2, p3⟩ := Y6.out.fin; obtain ⟨e0, e1, e2⟩ := p3.cells3; refine bodyPost_ret (v := .agg #[.int .i64 x, .int .i64 y, .int .i64 z]) ?_ rfl ⟨_, _, _, rfl, p1.more (by omega), p2⟩; simp [results, Try.results158, go_sem, e0, e1, e2])
end Go.Proofs.Ytjfmicemnoglkaa
