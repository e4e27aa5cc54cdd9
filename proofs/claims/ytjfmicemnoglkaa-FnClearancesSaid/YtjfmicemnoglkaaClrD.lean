/- The clearance at a place. -/
import Derived.Test.YtjfmicemnoglkaaClrAX
import Derived.Test.YtjfmicemnoglkaaRgn
import Derived.Test.YtjfmicemnoglkaaSagA
import Derived.Test.YtjfmicemnoglkaaFrcB
import Derived.Test.YtjfmicemnoglkaaPut
namespace Go.Proofs.Ytjfmicemnoglkaa
open Go.RowKit
set_option linter.unusedVariables false
set_option linter.unusedSimpArgs false

theorem Blk.two {w : World} {g : Nat} {t : TypeId} {a b : Value} (h : Blk w g t #[a, b]) : w.cell? ⟨g, 0, none⟩ = some a ∧ w.cell? ⟨g, 1, none⟩ = some b := ⟨by simpa using h.cell 0, by simpa using h.cell 1⟩
/-- A box for a fraction that an operation has made, once it has; and whether it is filled. -/
def FB (Z : Nat) (b s : Bool) (v : Value) (w : World) (x y : Int) : Prop := b = true → ∃ q, v = .pointer (some ⟨q, 0, none⟩) ∧ Z ≤ q ∧ Blk w q 115 #[.int .i64 (if s then x else 0), .int .i64 (if s then y else 0)]
theorem FB.below {Z : Nat} {b s : Bool} {v : Value} {w w' : World} {x y : Int} (h : FB Z b s v w x y) (hb : Below w.heap.size w w') : FB Z b s v w' x y := fun e => by
  obtain ⟨q, h1, h2, h3⟩ := h e
  exact ⟨q, h1, h2, h3.below hb h3.lt⟩
theorem FB.ne_new {Z : Nat} {b s : Bool} {v : Value} {w : World} {x y : Int} (h : FB Z b s v w x y) (hb : b = true) : v ≠ .pointer (some ⟨w.heap.size, 0, none⟩) := by
  obtain ⟨q, rfl, h2, h3⟩ := h hb
  intro e
  injection e with e
  injection e with e
  injection e with e1
  have := h3.lt
  omega
theorem FB.far {Z q1 : Nat} {b s : Bool} {v : Value} {w : World} {x y : Int} (h : FB Z b s v w x y) (hne : b = true → Value.pointer (some ⟨q1, 0, none⟩) ≠ v) (u1 u2 : Value) : FB Z b s v ((w.setCell ⟨q1, 0, none⟩ u1).setCell ⟨q1, 1, none⟩ u2) x y := fun e => by
  obtain ⟨q, rfl, h2, h3⟩ := h e
  have hq : q ≠ q1 := fun e2 => hne e (by rw [e2])
  exact ⟨q, rfl, h2, (h3.far (by simpa using hq) _).far (by simpa using hq) _⟩
def CI (v0 : World) (A A2 : Option Addr) (n c m c2 : Nat) (x p place C1 C2 S1 S2 G1 G2 : Int) (q0 : Nat) (l : Array Bool) (a : Act) (w : World) : Prop :=
  ∃ (b0 b1 b2 b3 b4 b5 b6 b7 b8 b9 b10 b11 b12 b13 b14 b15 : Bool) (v9 v10 v11 v12 v13 v14 v15 v16 v17 v18 v19 v20 v21 : Value), l = #[b0, b1, b2, b3, b4, b5, b6, b7, b8, b9, b10, b11, b12, b13, b14, b15] ∧ a = ⟨(.slice A n c :: .agg #[.int .i64 x, .int .i64 p] :: .slice A2 m c2 :: .int .i64 place :: undef :: .pointer (some ⟨q0, 0, none⟩) :: undef :: undef :: .pointer (some ⟨q0 + 1, 0, none⟩) :: v9 :: v10 :: v11 :: v12 :: v13 :: v14 :: v15 :: v16 :: v17 :: v18 :: v19 :: v20 :: v21 :: undef :: undef :: undef :: undef :: undef :: undef :: undef :: undef :: undef :: undef :: undef :: undef :: undef :: undef :: undef :: undef :: undef :: undef :: undef :: undef :: undef :: undef :: undef :: undef :: undef :: undef :: undef :: undef :: undef :: undef :: undef :: undef :: undef :: undef :: undef :: []).toArray, []⟩ ∧
    Hid (Below v0.heap.size v0 w) ∧
    Hid (b0 = true → v12 = .slice A n c) ∧
    Hid (b1 = true → v13 = .int .i64 place) ∧
    Hid (b2 = true → v14 = .agg #[.int .i64 C1, .int .i64 C2]) ∧
    Hid (b3 = true → v15 = .slice A n c) ∧
    Hid (b4 = true → v16 = .agg #[.int .i64 x, .int .i64 p]) ∧
    Hid (b5 = true → v17 = .int .i64 place) ∧
    Hid (b6 = true → v18 = .agg #[.int .i64 S1, .int .i64 S2]) ∧
    Hid (b7 = true → v19 = .slice A2 m c2) ∧
    Hid (b8 = true → v20 = .int .i64 place) ∧
    Hid (b9 = true → v21 = .agg #[.int .i64 G1, .int .i64 G2]) ∧
    Hid (FB v0.heap.size b10 b13 v9 w C1 C2) ∧
    Hid (FB v0.heap.size b11 b14 v10 w S1 S2) ∧
    Hid (FB v0.heap.size b12 b15 v11 w G1 G2) ∧
    Hid (b10 = true → b11 = true → v9 ≠ v10) ∧
    Hid (b10 = true → b12 = true → v9 ≠ v11) ∧
    Hid (b11 = true → b12 = true → v10 ≠ v11) ∧
    Hid (b13 = true → (b10 && (b11 && b12)) = true) ∧
    Hid (b14 = true → b13 = true) ∧
    Hid (b15 = true → b14 = true)
set_option maxRecDepth 100000 in
set_option maxHeartbeats 8000000 in
theorem impl_clearanceAt (A A2 : Option Addr) (n c m c2 : Nat) (rows g : List (List Int)) (x p place : Int) (wo : World) (h : RdL wo A n rows) (h2 : RdR wo 2 A2 m g) (hn : n ≤ 1048577) (hm : m ≤ 1048577) (hl : lineOk rows = true) (hg : grdA rows g = true) (hr : ropeOk x p = true) (h0 : 0 ≤ place) (h1 : place ≤ endN rows) :
    Calls Try.prog 121 #[.slice A n c, .agg #[.int .i64 x, .int .i64 p], .slice A2 m c2, .int .i64 place] wo (Ret wo (.agg #[.int .i64 (cvN rows g x p place), .int .i64 (cvD rows g x p place)])) := by
  have K := clr_at hl hg hr h0 h1
  have KN := K.num
  have KD := K.den
  have KC := K.c
  have KG := K.gc
  have KL := K.l
  have KM := K.gl
  have hon : onOk rows place = true := onOk_iff.2 ⟨hl, h0, h1⟩
  have hsg : sagOk rows x p place = true := by simp [sagOk, hon, hr]
  have C1' := Lib.hid (fun w' (h' : RdL w' A n rows) => impl_chordAt A n c rows place w' h' hn hon)
  have C2' := Lib.hid (fun w' (h' : RdL w' A n rows) => impl_sagAt A n c rows x p place w' h' hn hsg)
  have C3' := Lib.hid (fun w' (h' : RdR w' 2 A2 m g) => impl_groundAt A2 m c2 rows g place w' h' hm hl hg h0 h1)
  have HB := Lib.hid (show Below wo.heap.size wo ((wo.alloc (.cells #[.int .i64 x, .int .i64 p] 26)).alloc (.cells #[.int .i64 0, .int .i64 0] 115)) from ((Below.refl _ _).alloc (Nat.le_refl _) _).alloc (by simp) _)
  have HL := Lib.hid (h.below HB.out)
  have HG := Lib.hid (h2.below HB.out)
  have hb0 := (Blk.new wo 26 #[.int .i64 x, .int .i64 p]).alloc (.cells #[.int .i64 0, .int .i64 0] 115)
  have hb1 := Blk.new (wo.alloc (.cells #[.int .i64 x, .int .i64 p] 26)) 115 #[.int .i64 0, .int .i64 0]
  have e1 : (wo.alloc (.cells #[.int .i64 x, .int .i64 p] 26)).heap.size = wo.heap.size + 1 := by simp
  rw [e1] at hb1
  have X0 := Lib.hid hb0
  have X1 := Lib.hid hb1
  have CLW := Lib.hid (fun w' => impl_lowest (clN rows g x p place) (clD rows g p place) w' (by omega) (by omega))
  have HRN : Hid (redN (clN rows g x p place) (clD rows g p place) = cvN rows g x p place ∧ redD (clN rows g x p place) (clD rows g p place) = cvD rows g x p place) := Lib.hid ⟨rfl, rfl⟩
  have w1 : IntKind.i64.wrap (chN rows place * (2 * p)) = chN rows place * (2 * p) := IntWalk.i64_in _ (by omega)
  have w2 : IntKind.i64.wrap (chN rows place * (2 * p) * lL g place) = chN rows place * (2 * p) * lL g place := IntWalk.i64_in _ (by omega)
  have w3 : IntKind.i64.wrap (x * bdV rows place * lL rows place) = x * bdV rows place * lL rows place := IntWalk.i64_in _ (by omega)
  have w4 : IntKind.i64.wrap (x * bdV rows place * lL rows place * lL g place) = x * bdV rows place * lL rows place * lL g place := IntWalk.i64_in _ (by omega)
  have w5 : IntKind.i64.wrap (chN rows place * (2 * p) * lL g place - x * bdV rows place * lL rows place * lL g place) = chN rows place * (2 * p) * lL g place - x * bdV rows place * lL rows place * lL g place := IntWalk.i64_in _ (by omega)
  have w6 : IntKind.i64.wrap (chN g place * lL rows place) = chN g place * lL rows place := IntWalk.i64_in _ (by have := mulB KG.1 KG.2 (Int.le_of_lt KL.1) KL.2; omega)
  have w7 : IntKind.i64.wrap (chN g place * lL rows place * (2 * p)) = chN g place * lL rows place * (2 * p) := IntWalk.i64_in _ (by omega)
  have w8 : IntKind.i64.wrap (chN rows place * (2 * p) * lL g place - x * bdV rows place * lL rows place * lL g place - chN g place * lL rows place * (2 * p)) = clN rows g x p place := IntWalk.i64_in _ (show _ ≤ clN rows g x p place ∧ clN rows g x p place ≤ _ by omega)
  have w9 : IntKind.i64.wrap (lL rows place * (2 * p)) = lL rows place * (2 * p) := IntWalk.i64_in _ (by omega)
  have w10 : IntKind.i64.wrap (lL rows place * (2 * p) * lL g place) = clD rows g p place := IntWalk.i64_in _ (show _ ≤ clD rows g p place ∧ clD rows g p place ≤ _ by omega)
  clear K KN KD KC KG KL KM h h2 hb0 hb1 e1 hl hg hr h0 h1 hon hsg
  generalize clN rows g x p place = cn at *
  generalize clD rows g p place = cd at *
  generalize chN rows place = a1 at *
  generalize lL rows place = a2 at *
  generalize x * bdV rows place = a3 at *
  generalize ha4 : 2 * p = a4 at *
  generalize chN g place = a5 at *
  generalize lL g place = a6 at *
  clear ha4
  go_enter Try.func121, Try.ntmps121
  go_upto_region 1 with fail
  generalize (wo.alloc (.cells #[.int .i64 x, .int .i64 p] 26)).alloc (.cells #[.int .i64 0, .int .i64 0] 115) = v0 at *
  obtain ⟨q0, hq0⟩ : ∃ q0, q0 = wo.heap.size := ⟨_, rfl⟩
  rw [← hq0] at X0 X1 ⊢
  have HQ := Lib.hid hq0
  clear hq0
  go_cut [9, 10, 11] (fun s9 s10 s11 wx => ∃ q9 q10 q11 : Nat, s9 = .pointer (some ⟨q9, 0, none⟩) ∧ s10 = .pointer (some ⟨q10, 0, none⟩) ∧ s11 = .pointer (some ⟨q11, 0, none⟩) ∧ Hid (Below v0.heap.size v0 wx) ∧ Hid (Blk wx q9 115 #[.int .i64 a1, .int .i64 a2]) ∧ Hid (Blk wx q10 115 #[.int .i64 a3, .int .i64 a4]) ∧ Hid (Blk wx q11 115 #[.int .i64 a5, .int .i64 a6]))
  case first =>
    · skip
      refine wp_region_inv (I := CI v0 A A2 n c m c2 x p place a1 a2 a3 a4 a5 a6 q0) (by kernel_rfl) ?_ ?_ ?_ ?_
      · rintro l a w1 ⟨b0, b1, b2, b3, b4, b5, b6, b7, b8, b9, b10, b11, b12, b13, b14, b15, v9, v10, v11, v12, v13, v14, v15, v16, v17, v18, v19, v20, v21, rfl, rfl, _⟩
        rfl
      · exact ⟨false, false, false, false, false, false, false, false, false, false, false, false, false, false, false, false, undef, undef, undef, undef, undef, undef, undef, undef, undef, undef, undef, undef, undef, rfl, rfl, Lib.hid ((Below.refl _ _).drew), (Lib.hid (fun h => by cases h)), (Lib.hid (fun h => by cases h)), (Lib.hid (fun h => by cases h)), (Lib.hid (fun h => by cases h)), (Lib.hid (fun h => by cases h)), (Lib.hid (fun h => by cases h)), (Lib.hid (fun h => by cases h)), (Lib.hid (fun h => by cases h)), (Lib.hid (fun h => by cases h)), (Lib.hid (fun h => by cases h)), (Lib.hid (fun h => by cases h)), (Lib.hid (fun h => by cases h)), (Lib.hid (fun h => by cases h)), (Lib.hid (fun h => by cases h)), (Lib.hid (fun h => by cases h)), (Lib.hid (fun h => by cases h)), (Lib.hid (fun h => by cases h)), (Lib.hid (fun h => by cases h)), (Lib.hid (fun h => by cases h))⟩
      · intro Q'
        refine ⟨⟨rfl, ?_⟩, ⟨rfl, ?_⟩, ⟨rfl, ?_⟩, ⟨rfl, ?_⟩, ⟨rfl, ?_⟩, ⟨rfl, ?_⟩, ⟨rfl, ?_⟩, ⟨rfl, ?_⟩, ⟨rfl, ?_⟩, ⟨rfl, ?_⟩, ⟨rfl, ?_⟩, ⟨rfl, ?_⟩, ⟨rfl, ?_⟩, ⟨rfl, ?_⟩, ⟨rfl, ?_⟩, ⟨rfl, ?_⟩, trivial⟩
        · intro l a w1 hI hi hd Kx hKx
          obtain ⟨b0, b1, b2, b3, b4, b5, b6, b7, b8, b9, b10, b11, b12, b13, b14, b15, v9, v10, v11, v12, v13, v14, v15, v16, v17, v18, v19, v20, v21, rfl, rfl, HS, F0, F1, F2, F3, F4, F5, F6, F7, F8, F9, F10, F11, F12, D1, D2, D3, E13, E14, E15⟩ := hI
          have hbi : b0 = false := hi
          subst hbi
          clear hd
          go_simp
          refine hKx.out _ _ ?_
          clear hKx
          refine ⟨true, _, _, _, _, _, _, _, _, _, _, _, _, _, _, _, _, _, _, _, _, _, _, _, _, _, _, _, _, rfl, rfl, ?_, ?_, ?_, ?_, ?_, ?_, ?_, ?_, ?_, ?_, ?_, ?_, ?_, ?_, ?_, ?_, ?_, ?_, ?_, ?_⟩
          · exact HS
          · exact Lib.hid (fun _ => rfl)
          · exact F1
          · exact F2
          · exact F3
          · exact F4
          · exact F5
          · exact F6
          · exact F7
          · exact F8
          · exact F9
          · exact F10
          · exact F11
          · exact F12
          · exact D1
          · exact D2
          · exact D3
          · exact E13
          · exact E14
          · exact E15
        · intro l a w1 hI hi hd Kx hKx
          obtain ⟨b0, b1, b2, b3, b4, b5, b6, b7, b8, b9, b10, b11, b12, b13, b14, b15, v9, v10, v11, v12, v13, v14, v15, v16, v17, v18, v19, v20, v21, rfl, rfl, HS, F0, F1, F2, F3, F4, F5, F6, F7, F8, F9, F10, F11, F12, D1, D2, D3, E13, E14, E15⟩ := hI
          have hbi : b1 = false := hi
          subst hbi
          clear hd
          go_simp
          refine hKx.out _ _ ?_
          clear hKx
          refine ⟨_, true, _, _, _, _, _, _, _, _, _, _, _, _, _, _, _, _, _, _, _, _, _, _, _, _, _, _, _, rfl, rfl, ?_, ?_, ?_, ?_, ?_, ?_, ?_, ?_, ?_, ?_, ?_, ?_, ?_, ?_, ?_, ?_, ?_, ?_, ?_, ?_⟩
          · exact HS
          · exact F0
          · exact Lib.hid (fun _ => rfl)
          · exact F2
          · exact F3
          · exact F4
          · exact F5
          · exact F6
          · exact F7
          · exact F8
          · exact F9
          · exact F10
          · exact F11
          · exact F12
          · exact D1
          · exact D2
          · exact D3
          · exact E13
          · exact E14
          · exact E15
        · intro l a w1 hI hi hd Kx hKx
          obtain ⟨b0, b1, b2, b3, b4, b5, b6, b7, b8, b9, b10, b11, b12, b13, b14, b15, v9, v10, v11, v12, v13, v14, v15, v16, v17, v18, v19, v20, v21, rfl, rfl, HS, F0, F1, F2, F3, F4, F5, F6, F7, F8, F9, F10, F11, F12, D1, D2, D3, E13, E14, E15⟩ := hI
          have hbi : b2 = false := hi
          subst hbi
          have hb0 : b0 = true := hd ⟨0, .data⟩ (by simp) rfl
          have hb1 : b1 = true := hd ⟨1, .data⟩ (by simp) rfl
          clear hd
          subst hb0 hb1
          obtain rfl := F0.out rfl
          obtain rfl := F1.out rfl
          go_simp
          go_at_call 115
          refine (C1'.out _ (HL.out.below HS.out)).mono ?_
          rintro e w2 ⟨rfl, hb⟩
          refine hKx.out _ _ ?_
          clear hKx
          refine ⟨_, _, true, _, _, _, _, _, _, _, _, _, _, _, _, _, _, _, _, _, _, _, _, _, _, _, _, _, _, rfl, rfl, ?_, ?_, ?_, ?_, ?_, ?_, ?_, ?_, ?_, ?_, ?_, ?_, ?_, ?_, ?_, ?_, ?_, ?_, ?_, ?_⟩
          · exact Lib.hid (Below.thenn HS.out hb HS.out.size)
          · exact F0
          · exact F1
          · exact Lib.hid (fun _ => rfl)
          · exact F3
          · exact F4
          · exact F5
          · exact F6
          · exact F7
          · exact F8
          · exact F9
          · exact Lib.hid (F10.out.below hb)
          · exact Lib.hid (F11.out.below hb)
          · exact Lib.hid (F12.out.below hb)
          · exact D1
          · exact D2
          · exact D3
          · exact E13
          · exact E14
          · exact E15
        · intro l a w1 hI hi hd Kx hKx
          obtain ⟨b0, b1, b2, b3, b4, b5, b6, b7, b8, b9, b10, b11, b12, b13, b14, b15, v9, v10, v11, v12, v13, v14, v15, v16, v17, v18, v19, v20, v21, rfl, rfl, HS, F0, F1, F2, F3, F4, F5, F6, F7, F8, F9, F10, F11, F12, D1, D2, D3, E13, E14, E15⟩ := hI
          have hbi : b3 = false := hi
          subst hbi
          clear hd
          go_simp
          refine hKx.out _ _ ?_
          clear hKx
          refine ⟨_, _, _, true, _, _, _, _, _, _, _, _, _, _, _, _, _, _, _, _, _, _, _, _, _, _, _, _, _, rfl, rfl, ?_, ?_, ?_, ?_, ?_, ?_, ?_, ?_, ?_, ?_, ?_, ?_, ?_, ?_, ?_, ?_, ?_, ?_, ?_, ?_⟩
          · exact HS
          · exact F0
          · exact F1
          · exact F2
          · exact Lib.hid (fun _ => rfl)
          · exact F4
          · exact F5
          · exact F6
          · exact F7
          · exact F8
          · exact F9
          · exact F10
          · exact F11
          · exact F12
          · exact D1
          · exact D2
          · exact D3
          · exact E13
          · exact E14
          · exact E15
        · intro l a w1 hI hi hd Kx hKx
          obtain ⟨b0, b1, b2, b3, b4, b5, b6, b7, b8, b9, b10, b11, b12, b13, b14, b15, v9, v10, v11, v12, v13, v14, v15, v16, v17, v18, v19, v20, v21, rfl, rfl, HS, F0, F1, F2, F3, F4, F5, F6, F7, F8, F9, F10, F11, F12, D1, D2, D3, E13, E14, E15⟩ := hI
          have hbi : b4 = false := hi
          subst hbi
          clear hd
          have c0 := (HS.out.cell (p := ⟨q0, 0, none⟩) X0.out.lt).trans X0.out.two.1
          have c1 := (HS.out.cell (p := ⟨q0, 1, none⟩) X0.out.lt).trans X0.out.two.2
          go_simp
          refine hKx.out _ _ ?_
          clear hKx
          refine ⟨_, _, _, _, true, _, _, _, _, _, _, _, _, _, _, _, _, _, _, _, _, _, _, _, _, _, _, _, _, rfl, rfl, ?_, ?_, ?_, ?_, ?_, ?_, ?_, ?_, ?_, ?_, ?_, ?_, ?_, ?_, ?_, ?_, ?_, ?_, ?_, ?_⟩
          · exact HS
          · exact F0
          · exact F1
          · exact F2
          · exact F3
          · exact Lib.hid (fun _ => rfl)
          · exact F5
          · exact F6
          · exact F7
          · exact F8
          · exact F9
          · exact F10
          · exact F11
          · exact F12
          · exact D1
          · exact D2
          · exact D3
          · exact E13
          · exact E14
          · exact E15
        · intro l a w1 hI hi hd Kx hKx
          obtain ⟨b0, b1, b2, b3, b4, b5, b6, b7, b8, b9, b10, b11, b12, b13, b14, b15, v9, v10, v11, v12, v13, v14, v15, v16, v17, v18, v19, v20, v21, rfl, rfl, HS, F0, F1, F2, F3, F4, F5, F6, F7, F8, F9, F10, F11, F12, D1, D2, D3, E13, E14, E15⟩ := hI
          have hbi : b5 = false := hi
          subst hbi
          clear hd
          go_simp
          refine hKx.out _ _ ?_
          clear hKx
          refine ⟨_, _, _, _, _, true, _, _, _, _, _, _, _, _, _, _, _, _, _, _, _, _, _, _, _, _, _, _, _, rfl, rfl, ?_, ?_, ?_, ?_, ?_, ?_, ?_, ?_, ?_, ?_, ?_, ?_, ?_, ?_, ?_, ?_, ?_, ?_, ?_, ?_⟩
          · exact HS
          · exact F0
          · exact F1
          · exact F2
          · exact F3
          · exact F4
          · exact Lib.hid (fun _ => rfl)
          · exact F6
          · exact F7
          · exact F8
          · exact F9
          · exact F10
          · exact F11
          · exact F12
          · exact D1
          · exact D2
          · exact D3
          · exact E13
          · exact E14
          · exact E15
        · intro l a w1 hI hi hd Kx hKx
          obtain ⟨b0, b1, b2, b3, b4, b5, b6, b7, b8, b9, b10, b11, b12, b13, b14, b15, v9, v10, v11, v12, v13, v14, v15, v16, v17, v18, v19, v20, v21, rfl, rfl, HS, F0, F1, F2, F3, F4, F5, F6, F7, F8, F9, F10, F11, F12, D1, D2, D3, E13, E14, E15⟩ := hI
          have hbi : b6 = false := hi
          subst hbi
          have hb3 : b3 = true := hd ⟨3, .data⟩ (by simp) rfl
          have hb4 : b4 = true := hd ⟨4, .data⟩ (by simp) rfl
          have hb5 : b5 = true := hd ⟨5, .data⟩ (by simp) rfl
          clear hd
          subst hb3 hb4 hb5
          obtain rfl := F3.out rfl
          obtain rfl := F4.out rfl
          obtain rfl := F5.out rfl
          go_simp
          go_at_call 106
          refine (C2'.out _ (HL.out.below HS.out)).mono ?_
          rintro e w2 ⟨rfl, hb⟩
          refine hKx.out _ _ ?_
          clear hKx
          refine ⟨_, _, _, _, _, _, true, _, _, _, _, _, _, _, _, _, _, _, _, _, _, _, _, _, _, _, _, _, _, rfl, rfl, ?_, ?_, ?_, ?_, ?_, ?_, ?_, ?_, ?_, ?_, ?_, ?_, ?_, ?_, ?_, ?_, ?_, ?_, ?_, ?_⟩
          · exact Lib.hid (Below.thenn HS.out hb HS.out.size)
          · exact F0
          · exact F1
          · exact F2
          · exact F3
          · exact F4
          · exact F5
          · exact Lib.hid (fun _ => rfl)
          · exact F7
          · exact F8
          · exact F9
          · exact Lib.hid (F10.out.below hb)
          · exact Lib.hid (F11.out.below hb)
          · exact Lib.hid (F12.out.below hb)
          · exact D1
          · exact D2
          · exact D3
          · exact E13
          · exact E14
          · exact E15
        · intro l a w1 hI hi hd Kx hKx
          obtain ⟨b0, b1, b2, b3, b4, b5, b6, b7, b8, b9, b10, b11, b12, b13, b14, b15, v9, v10, v11, v12, v13, v14, v15, v16, v17, v18, v19, v20, v21, rfl, rfl, HS, F0, F1, F2, F3, F4, F5, F6, F7, F8, F9, F10, F11, F12, D1, D2, D3, E13, E14, E15⟩ := hI
          have hbi : b7 = false := hi
          subst hbi
          clear hd
          go_simp
          refine hKx.out _ _ ?_
          clear hKx
          refine ⟨_, _, _, _, _, _, _, true, _, _, _, _, _, _, _, _, _, _, _, _, _, _, _, _, _, _, _, _, _, rfl, rfl, ?_, ?_, ?_, ?_, ?_, ?_, ?_, ?_, ?_, ?_, ?_, ?_, ?_, ?_, ?_, ?_, ?_, ?_, ?_, ?_⟩
          · exact HS
          · exact F0
          · exact F1
          · exact F2
          · exact F3
          · exact F4
          · exact F5
          · exact F6
          · exact Lib.hid (fun _ => rfl)
          · exact F8
          · exact F9
          · exact F10
          · exact F11
          · exact F12
          · exact D1
          · exact D2
          · exact D3
          · exact E13
          · exact E14
          · exact E15
        · intro l a w1 hI hi hd Kx hKx
          obtain ⟨b0, b1, b2, b3, b4, b5, b6, b7, b8, b9, b10, b11, b12, b13, b14, b15, v9, v10, v11, v12, v13, v14, v15, v16, v17, v18, v19, v20, v21, rfl, rfl, HS, F0, F1, F2, F3, F4, F5, F6, F7, F8, F9, F10, F11, F12, D1, D2, D3, E13, E14, E15⟩ := hI
          have hbi : b8 = false := hi
          subst hbi
          clear hd
          go_simp
          refine hKx.out _ _ ?_
          clear hKx
          refine ⟨_, _, _, _, _, _, _, _, true, _, _, _, _, _, _, _, _, _, _, _, _, _, _, _, _, _, _, _, _, rfl, rfl, ?_, ?_, ?_, ?_, ?_, ?_, ?_, ?_, ?_, ?_, ?_, ?_, ?_, ?_, ?_, ?_, ?_, ?_, ?_, ?_⟩
          · exact HS
          · exact F0
          · exact F1
          · exact F2
          · exact F3
          · exact F4
          · exact F5
          · exact F6
          · exact F7
          · exact Lib.hid (fun _ => rfl)
          · exact F9
          · exact F10
          · exact F11
          · exact F12
          · exact D1
          · exact D2
          · exact D3
          · exact E13
          · exact E14
          · exact E15
        · intro l a w1 hI hi hd Kx hKx
          obtain ⟨b0, b1, b2, b3, b4, b5, b6, b7, b8, b9, b10, b11, b12, b13, b14, b15, v9, v10, v11, v12, v13, v14, v15, v16, v17, v18, v19, v20, v21, rfl, rfl, HS, F0, F1, F2, F3, F4, F5, F6, F7, F8, F9, F10, F11, F12, D1, D2, D3, E13, E14, E15⟩ := hI
          have hbi : b9 = false := hi
          subst hbi
          have hb7 : b7 = true := hd ⟨7, .data⟩ (by simp) rfl
          have hb8 : b8 = true := hd ⟨8, .data⟩ (by simp) rfl
          clear hd
          subst hb7 hb8
          obtain rfl := F7.out rfl
          obtain rfl := F8.out rfl
          go_simp
          go_at_call 154
          refine (C3'.out _ (HG.out.below HS.out)).mono ?_
          rintro e w2 ⟨rfl, hb⟩
          refine hKx.out _ _ ?_
          clear hKx
          refine ⟨_, _, _, _, _, _, _, _, _, true, _, _, _, _, _, _, _, _, _, _, _, _, _, _, _, _, _, _, _, rfl, rfl, ?_, ?_, ?_, ?_, ?_, ?_, ?_, ?_, ?_, ?_, ?_, ?_, ?_, ?_, ?_, ?_, ?_, ?_, ?_, ?_⟩
          · exact Lib.hid (Below.thenn HS.out hb HS.out.size)
          · exact F0
          · exact F1
          · exact F2
          · exact F3
          · exact F4
          · exact F5
          · exact F6
          · exact F7
          · exact F8
          · exact Lib.hid (fun _ => rfl)
          · exact Lib.hid (F10.out.below hb)
          · exact Lib.hid (F11.out.below hb)
          · exact Lib.hid (F12.out.below hb)
          · exact D1
          · exact D2
          · exact D3
          · exact E13
          · exact E14
          · exact E15
        · intro l a w1 hI hi hd Kx hKx
          obtain ⟨b0, b1, b2, b3, b4, b5, b6, b7, b8, b9, b10, b11, b12, b13, b14, b15, v9, v10, v11, v12, v13, v14, v15, v16, v17, v18, v19, v20, v21, rfl, rfl, HS, F0, F1, F2, F3, F4, F5, F6, F7, F8, F9, F10, F11, F12, D1, D2, D3, E13, E14, E15⟩ := hI
          have hbi : b10 = false := hi
          subst hbi
          clear hd
          have h13 : b13 = false := by
            rcases b13 with _ | _
            · rfl
            · exact absurd (E13.out rfl) (by simp)
          subst h13
          have h14 : b14 = false := by
            rcases b14 with _ | _
            · rfl
            · exact absurd (E14.out rfl) (by simp)
          subst h14
          have h15 : b15 = false := by
            rcases b15 with _ | _
            · rfl
            · exact absurd (E15.out rfl) (by simp)
          subst h15
          have hzz := HS.out.size
          have hal : ∀ o : Obj, Below w1.heap.size w1 (w1.alloc o) := fun o => (Below.refl _ _).alloc (Nat.le_refl _) o
          go_simp
          refine hKx.out _ _ ?_
          clear hKx
          refine ⟨_, _, _, _, _, _, _, _, _, _, true, _, _, _, _, _, _, _, _, _, _, _, _, _, _, _, _, _, _, rfl, rfl, ?_, ?_, ?_, ?_, ?_, ?_, ?_, ?_, ?_, ?_, ?_, ?_, ?_, ?_, ?_, ?_, ?_, ?_, ?_, ?_⟩
          · exact Lib.hid (HS.out.alloc HS.out.size _)
          · exact F0
          · exact F1
          · exact F2
          · exact F3
          · exact F4
          · exact F5
          · exact F6
          · exact F7
          · exact F8
          · exact F9
          · exact Lib.hid (fun _ => ⟨_, rfl, hzz, Blk.new _ _ _⟩)
          · exact Lib.hid (F11.out.below (hal _))
          · exact Lib.hid (F12.out.below (hal _))
          · exact Lib.hid (fun _ hx => Ne.symm (F11.out.ne_new hx))
          · exact Lib.hid (fun _ hx => Ne.symm (F12.out.ne_new hx))
          · exact D3
          · exact Lib.hid (fun h => by cases h)
          · exact Lib.hid (fun h => by cases h)
          · exact Lib.hid (fun h => by cases h)
        · intro l a w1 hI hi hd Kx hKx
          obtain ⟨b0, b1, b2, b3, b4, b5, b6, b7, b8, b9, b10, b11, b12, b13, b14, b15, v9, v10, v11, v12, v13, v14, v15, v16, v17, v18, v19, v20, v21, rfl, rfl, HS, F0, F1, F2, F3, F4, F5, F6, F7, F8, F9, F10, F11, F12, D1, D2, D3, E13, E14, E15⟩ := hI
          have hbi : b11 = false := hi
          subst hbi
          clear hd
          have h13 : b13 = false := by
            rcases b13 with _ | _
            · rfl
            · exact absurd (E13.out rfl) (by simp)
          subst h13
          have h14 : b14 = false := by
            rcases b14 with _ | _
            · rfl
            · exact absurd (E14.out rfl) (by simp)
          subst h14
          have h15 : b15 = false := by
            rcases b15 with _ | _
            · rfl
            · exact absurd (E15.out rfl) (by simp)
          subst h15
          have hzz := HS.out.size
          have hal : ∀ o : Obj, Below w1.heap.size w1 (w1.alloc o) := fun o => (Below.refl _ _).alloc (Nat.le_refl _) o
          go_simp
          refine hKx.out _ _ ?_
          clear hKx
          refine ⟨_, _, _, _, _, _, _, _, _, _, _, true, _, _, _, _, _, _, _, _, _, _, _, _, _, _, _, _, _, rfl, rfl, ?_, ?_, ?_, ?_, ?_, ?_, ?_, ?_, ?_, ?_, ?_, ?_, ?_, ?_, ?_, ?_, ?_, ?_, ?_, ?_⟩
          · exact Lib.hid (HS.out.alloc HS.out.size _)
          · exact F0
          · exact F1
          · exact F2
          · exact F3
          · exact F4
          · exact F5
          · exact F6
          · exact F7
          · exact F8
          · exact F9
          · exact Lib.hid (F10.out.below (hal _))
          · exact Lib.hid (fun _ => ⟨_, rfl, hzz, Blk.new _ _ _⟩)
          · exact Lib.hid (F12.out.below (hal _))
          · exact Lib.hid (fun hx _ => F10.out.ne_new hx)
          · exact D2
          · exact Lib.hid (fun _ hx => Ne.symm (F12.out.ne_new hx))
          · exact Lib.hid (fun h => by cases h)
          · exact Lib.hid (fun h => by cases h)
          · exact Lib.hid (fun h => by cases h)
        · intro l a w1 hI hi hd Kx hKx
          obtain ⟨b0, b1, b2, b3, b4, b5, b6, b7, b8, b9, b10, b11, b12, b13, b14, b15, v9, v10, v11, v12, v13, v14, v15, v16, v17, v18, v19, v20, v21, rfl, rfl, HS, F0, F1, F2, F3, F4, F5, F6, F7, F8, F9, F10, F11, F12, D1, D2, D3, E13, E14, E15⟩ := hI
          have hbi : b12 = false := hi
          subst hbi
          clear hd
          have h13 : b13 = false := by
            rcases b13 with _ | _
            · rfl
            · exact absurd (E13.out rfl) (by simp)
          subst h13
          have h14 : b14 = false := by
            rcases b14 with _ | _
            · rfl
            · exact absurd (E14.out rfl) (by simp)
          subst h14
          have h15 : b15 = false := by
            rcases b15 with _ | _
            · rfl
            · exact absurd (E15.out rfl) (by simp)
          subst h15
          have hzz := HS.out.size
          have hal : ∀ o : Obj, Below w1.heap.size w1 (w1.alloc o) := fun o => (Below.refl _ _).alloc (Nat.le_refl _) o
          go_simp
          refine hKx.out _ _ ?_
          clear hKx
          refine ⟨_, _, _, _, _, _, _, _, _, _, _, _, true, _, _, _, _, _, _, _, _, _, _, _, _, _, _, _, _, rfl, rfl, ?_, ?_, ?_, ?_, ?_, ?_, ?_, ?_, ?_, ?_, ?_, ?_, ?_, ?_, ?_, ?_, ?_, ?_, ?_, ?_⟩
          · exact Lib.hid (HS.out.alloc HS.out.size _)
          · exact F0
          · exact F1
          · exact F2
          · exact F3
          · exact F4
          · exact F5
          · exact F6
          · exact F7
          · exact F8
          · exact F9
          · exact Lib.hid (F10.out.below (hal _))
          · exact Lib.hid (F11.out.below (hal _))
          · exact Lib.hid (fun _ => ⟨_, rfl, hzz, Blk.new _ _ _⟩)
          · exact D1
          · exact Lib.hid (fun hx _ => F10.out.ne_new hx)
          · exact Lib.hid (fun hx _ => F11.out.ne_new hx)
          · exact Lib.hid (fun h => by cases h)
          · exact Lib.hid (fun h => by cases h)
          · exact Lib.hid (fun h => by cases h)
        · intro l a w1 hI hi hd Kx hKx
          obtain ⟨b0, b1, b2, b3, b4, b5, b6, b7, b8, b9, b10, b11, b12, b13, b14, b15, v9, v10, v11, v12, v13, v14, v15, v16, v17, v18, v19, v20, v21, rfl, rfl, HS, F0, F1, F2, F3, F4, F5, F6, F7, F8, F9, F10, F11, F12, D1, D2, D3, E13, E14, E15⟩ := hI
          have hbi : b13 = false := hi
          subst hbi
          have hb10 : b10 = true := hd ⟨10, .data⟩ (by simp) rfl
          have hb2 : b2 = true := hd ⟨2, .data⟩ (by simp) rfl
          have hb11 : b11 = true := hd ⟨11, .phase⟩ (by simp) rfl
          have hb12 : b12 = true := hd ⟨12, .phase⟩ (by simp) rfl
          clear hd
          subst hb10 hb2 hb11 hb12
          obtain rfl := F2.out rfl
          obtain ⟨q1, rfl, hz1, hq1⟩ := F10.out rfl
          have hq2 : Blk w1 q1 115 #[.int .i64 0, .int .i64 0] := hq1
          obtain ⟨u0, u1⟩ := hq2.two
          have g0 := hq2.frozen 0
          have g1 := hq2.frozen 1
          have hq3 : Blk ((w1.setCell ⟨q1, 0, none⟩ (.int .i64 a1)).setCell ⟨q1, 1, none⟩ (.int .i64 a2)) q1 115 #[.int .i64 a1, .int .i64 a2] := by simpa using (hq2.set_ 0 (.int .i64 a1)).set_ 1 (.int .i64 a2)
          have hbw : Below v0.heap.size v0 ((w1.setCell ⟨q1, 0, none⟩ (.int .i64 a1)).setCell ⟨q1, 1, none⟩ (.int .i64 a2)) := (HS.out.setCell (p := ⟨q1, 0, none⟩) hz1 _).setCell (p := ⟨q1, 1, none⟩) hz1 _
          clear hq1
          go_simp
          refine hKx.out _ _ ?_
          clear hKx
          refine ⟨_, _, _, _, _, _, _, _, _, _, _, _, _, true, _, _, _, _, _, _, _, _, _, _, _, _, _, _, _, rfl, rfl, ?_, ?_, ?_, ?_, ?_, ?_, ?_, ?_, ?_, ?_, ?_, ?_, ?_, ?_, ?_, ?_, ?_, ?_, ?_, ?_⟩
          · exact Lib.hid hbw
          · exact F0
          · exact F1
          · exact Lib.hid (fun _ => rfl)
          · exact F3
          · exact F4
          · exact F5
          · exact F6
          · exact F7
          · exact F8
          · exact F9
          · exact Lib.hid (fun _ => ⟨q1, rfl, hz1, hq3⟩)
          · exact Lib.hid (F11.out.far (fun h => D1.out rfl h) _ _)
          · exact Lib.hid (F12.out.far (fun h => D2.out rfl h) _ _)
          · exact D1
          · exact D2
          · exact D3
          · exact Lib.hid (fun _ => rfl)
          · exact Lib.hid (fun _ => rfl)
          · exact E15
        · intro l a w1 hI hi hd Kx hKx
          obtain ⟨b0, b1, b2, b3, b4, b5, b6, b7, b8, b9, b10, b11, b12, b13, b14, b15, v9, v10, v11, v12, v13, v14, v15, v16, v17, v18, v19, v20, v21, rfl, rfl, HS, F0, F1, F2, F3, F4, F5, F6, F7, F8, F9, F10, F11, F12, D1, D2, D3, E13, E14, E15⟩ := hI
          have hbi : b14 = false := hi
          subst hbi
          have hb11 : b11 = true := hd ⟨11, .data⟩ (by simp) rfl
          have hb6 : b6 = true := hd ⟨6, .data⟩ (by simp) rfl
          have hb13 : b13 = true := hd ⟨13, .chain⟩ (by simp) rfl
          have hb10 : b10 = true := hd ⟨10, .phase⟩ (by simp) rfl
          have hb12 : b12 = true := hd ⟨12, .phase⟩ (by simp) rfl
          clear hd
          subst hb11 hb6 hb13 hb10 hb12
          obtain rfl := F6.out rfl
          obtain ⟨q1, rfl, hz1, hq1⟩ := F11.out rfl
          have hq2 : Blk w1 q1 115 #[.int .i64 0, .int .i64 0] := hq1
          obtain ⟨u0, u1⟩ := hq2.two
          have g0 := hq2.frozen 0
          have g1 := hq2.frozen 1
          have hq3 : Blk ((w1.setCell ⟨q1, 0, none⟩ (.int .i64 a3)).setCell ⟨q1, 1, none⟩ (.int .i64 a4)) q1 115 #[.int .i64 a3, .int .i64 a4] := by simpa using (hq2.set_ 0 (.int .i64 a3)).set_ 1 (.int .i64 a4)
          have hbw : Below v0.heap.size v0 ((w1.setCell ⟨q1, 0, none⟩ (.int .i64 a3)).setCell ⟨q1, 1, none⟩ (.int .i64 a4)) := (HS.out.setCell (p := ⟨q1, 0, none⟩) hz1 _).setCell (p := ⟨q1, 1, none⟩) hz1 _
          clear hq1
          go_simp
          refine hKx.out _ _ ?_
          clear hKx
          refine ⟨_, _, _, _, _, _, _, _, _, _, _, _, _, _, true, _, _, _, _, _, _, _, _, _, _, _, _, _, _, rfl, rfl, ?_, ?_, ?_, ?_, ?_, ?_, ?_, ?_, ?_, ?_, ?_, ?_, ?_, ?_, ?_, ?_, ?_, ?_, ?_, ?_⟩
          · exact Lib.hid hbw
          · exact F0
          · exact F1
          · exact F2
          · exact F3
          · exact F4
          · exact F5
          · exact Lib.hid (fun _ => rfl)
          · exact F7
          · exact F8
          · exact F9
          · exact Lib.hid (F10.out.far (fun h => Ne.symm (D1.out h rfl)) _ _)
          · exact Lib.hid (fun _ => ⟨q1, rfl, hz1, hq3⟩)
          · exact Lib.hid (F12.out.far (fun h => D3.out rfl h) _ _)
          · exact D1
          · exact D2
          · exact D3
          · exact E13
          · exact Lib.hid (fun _ => rfl)
          · exact Lib.hid (fun _ => rfl)
        · intro l a w1 hI hi hd Kx hKx
          obtain ⟨b0, b1, b2, b3, b4, b5, b6, b7, b8, b9, b10, b11, b12, b13, b14, b15, v9, v10, v11, v12, v13, v14, v15, v16, v17, v18, v19, v20, v21, rfl, rfl, HS, F0, F1, F2, F3, F4, F5, F6, F7, F8, F9, F10, F11, F12, D1, D2, D3, E13, E14, E15⟩ := hI
          have hbi : b15 = false := hi
          subst hbi
          have hb12 : b12 = true := hd ⟨12, .data⟩ (by simp) rfl
          have hb9 : b9 = true := hd ⟨9, .data⟩ (by simp) rfl
          have hb14 : b14 = true := hd ⟨14, .chain⟩ (by simp) rfl
          have hb10 : b10 = true := hd ⟨10, .phase⟩ (by simp) rfl
          have hb11 : b11 = true := hd ⟨11, .phase⟩ (by simp) rfl
          have hb13 : b13 = true := hd ⟨13, .phase⟩ (by simp) rfl
          clear hd
          subst hb12 hb9 hb14 hb10 hb11 hb13
          obtain rfl := F9.out rfl
          obtain ⟨q1, rfl, hz1, hq1⟩ := F12.out rfl
          have hq2 : Blk w1 q1 115 #[.int .i64 0, .int .i64 0] := hq1
          obtain ⟨u0, u1⟩ := hq2.two
          have g0 := hq2.frozen 0
          have g1 := hq2.frozen 1
          have hq3 : Blk ((w1.setCell ⟨q1, 0, none⟩ (.int .i64 a5)).setCell ⟨q1, 1, none⟩ (.int .i64 a6)) q1 115 #[.int .i64 a5, .int .i64 a6] := by simpa using (hq2.set_ 0 (.int .i64 a5)).set_ 1 (.int .i64 a6)
          have hbw : Below v0.heap.size v0 ((w1.setCell ⟨q1, 0, none⟩ (.int .i64 a5)).setCell ⟨q1, 1, none⟩ (.int .i64 a6)) := (HS.out.setCell (p := ⟨q1, 0, none⟩) hz1 _).setCell (p := ⟨q1, 1, none⟩) hz1 _
          clear hq1
          go_simp
          refine hKx.out _ _ ?_
          clear hKx
          refine ⟨_, _, _, _, _, _, _, _, _, _, _, _, _, _, _, true, _, _, _, _, _, _, _, _, _, _, _, _, _, rfl, rfl, ?_, ?_, ?_, ?_, ?_, ?_, ?_, ?_, ?_, ?_, ?_, ?_, ?_, ?_, ?_, ?_, ?_, ?_, ?_, ?_⟩
          · exact Lib.hid hbw
          · exact F0
          · exact F1
          · exact F2
          · exact F3
          · exact F4
          · exact F5
          · exact F6
          · exact F7
          · exact F8
          · exact Lib.hid (fun _ => rfl)
          · exact Lib.hid (F10.out.far (fun h => Ne.symm (D2.out h rfl)) _ _)
          · exact Lib.hid (F11.out.far (fun h => Ne.symm (D3.out h rfl)) _ _)
          · exact Lib.hid (fun _ => ⟨q1, rfl, hz1, hq3⟩)
          · exact D1
          · exact D2
          · exact D3
          · exact E13
          · exact E14
          · exact Lib.hid (fun _ => rfl)
      · intro l a w1 hI hr
        have hsz : l.size = 16 := by
          obtain ⟨b0, b1, b2, b3, b4, b5, b6, b7, b8, b9, b10, b11, b12, b13, b14, b15, v9, v10, v11, v12, v13, v14, v15, v16, v17, v18, v19, v20, v21, rfl, rfl, _⟩ := hI
          rfl
        have hall := ready_nil hsz (by kernel_rfl) hr
        obtain ⟨b0, b1, b2, b3, b4, b5, b6, b7, b8, b9, b10, b11, b12, b13, b14, b15, v9, v10, v11, v12, v13, v14, v15, v16, v17, v18, v19, v20, v21, rfl, rfl, HS, F0, F1, F2, F3, F4, F5, F6, F7, F8, F9, F10, F11, F12, D1, D2, D3, E13, E14, E15⟩ := hI
        have hb10 : b10 = true := hall 10 (by decide)
        have hb11 : b11 = true := hall 11 (by decide)
        have hb12 : b12 = true := hall 12 (by decide)
        have hb13 : b13 = true := hall 13 (by decide)
        have hb14 : b14 = true := hall 14 (by decide)
        have hb15 : b15 = true := hall 15 (by decide)
        subst hb10 hb11 hb12 hb13 hb14 hb15
        obtain ⟨q9, rfl, _, hx9⟩ := F10.out rfl
        obtain ⟨q10, rfl, _, hx10⟩ := F11.out rfl
        obtain ⟨q11, rfl, _, hx11⟩ := F12.out rfl
        have X9 : Hid (Blk w1 q9 115 #[.int .i64 a1, .int .i64 a2]) := Lib.hid hx9
        have X10 : Hid (Blk w1 q10 115 #[.int .i64 a3, .int .i64 a4]) := Lib.hid hx10
        have X11 : Hid (Blk w1 q11 115 #[.int .i64 a5, .int .i64 a6]) := Lib.hid hx11
        clear F0 F1 F2 F3 F4 F5 F6 F7 F8 F9 F10 F11 F12 D1 D2 D3 E13 E14 E15 hall hr hsz hx9 hx10 hx11
        go_wp2_with fail
        go_meet
        exact ⟨q9, q10, q11, rfl, rfl, rfl, HS, X9, X10, X11⟩
  case rest =>
    as_aux_lemma =>
      obtain ⟨q9, q10, q11, rfl, rfl, rfl, HW, X9, X10, X11⟩ := hcut
      obtain ⟨c0, c1⟩ := X9.out.two
      obtain ⟨d0, d1⟩ := X10.out.two
      obtain ⟨f0, f1⟩ := X11.out.two
      clear C1' C2' C3' HL HG X0
      go_wp2_with fail
      refine (CLW.out wc).mono ?_
      rintro e w2 ⟨rfl, hb⟩
      have XR := Lib.hid (((X1.out.below HW.out X1.out.lt).below hb (X1.out.below HW.out X1.out.lt).lt))
      have HZ := Lib.hid (Below.thenn HB.out (Below.thenn HW.out hb HW.out.size) HB.out.size)
      have hqq : wo.heap.size ≤ q0 + 1 := by have := HQ.out; omega
      clear hb HW X9 X10 X11 X1 c0 c1 d0 d1 f0 f1 CLW
      rw [HRN.out.1, HRN.out.2]
      obtain ⟨z0, z1⟩ := XR.out.two
      have y0 := XR.out.frozen 0
      have y1 := XR.out.frozen 1
      generalize cvN rows g x p place = N at *
      generalize cvD rows g x p place = D at *
      have hq3 : Blk ((w2.setCell ⟨q0 + 1, 0, none⟩ (.int .i64 N)).setCell ⟨q0 + 1, 1, none⟩ (.int .i64 D)) (q0 + 1) 115 #[.int .i64 N, .int .i64 D] := by simpa using (XR.out.set_ 0 (.int .i64 N)).set_ 1 (.int .i64 D)
      have hbw : Below wo.heap.size wo ((w2.setCell ⟨q0 + 1, 0, none⟩ (.int .i64 N)).setCell ⟨q0 + 1, 1, none⟩ (.int .i64 D)) := (HZ.out.setCell (p := ⟨q0 + 1, 0, none⟩) hqq _).setCell (p := ⟨q0 + 1, 1, none⟩) hqq _
      have HX3 := Lib.hid hq3
      have HBW := Lib.hid hbw
      clear hq3 hbw
      go_wp2_with fail
      go_light
      obtain ⟨e0, e1⟩ := HX3.out.two
      refine bodyPost_ret (v := .agg #[.int .i64 N, .int .i64 D]) ?_ rfl ⟨rfl, HBW.out⟩
      simp [results, Try.results121, go_sem, e0, e1]
end Go.Proofs.Ytjfmicemnoglkaa
