/- Merged: TowI, TowS, TowQ. -/
import Derived.Test.YtjfmicemnoglkaaRgmX
import Derived.Test.YtjfmicemnoglkaaFrcB
import Derived.Test.YtjfmicemnoglkaaSagB
namespace Go.Proofs.Ytjfmicemnoglkaa
open Go.RowKit
set_option linter.unusedVariables false
set_option linter.unusedSimpArgs false
structure BsI where
  b0 : Bool
  b1 : Bool
  b2 : Bool
  b3 : Bool
  b4 : Bool
  b5 : Bool
  b6 : Bool
  b7 : Bool
  b8 : Bool
  b9 : Bool
  b10 : Bool
  b11 : Bool
  b12 : Bool
  b13 : Bool
  b14 : Bool
  b15 : Bool
  b16 : Bool
  b17 : Bool
  b18 : Bool
  b19 : Bool
structure VsI where
  v0 : Value
  v1 : Value
  v2 : Value
  v3 : Value
  v4 : Value
  v5 : Value
  v6 : Value
  v7 : Value
  v8 : Value
  v9 : Value
  v10 : Value
  v11 : Value
  v12 : Value
  v13 : Value
  v14 : Value
  v15 : Value
  v16 : Value
structure TFI (va : World) (z0 b off n c k q0 : Nat) (s x p y0 y1 y2 h0 h1 h2 : Int) (t0 t1 t2 : Bool) (b0 b1 b2 b3 b4 b5 b6 b7 b8 b9 b10 b11 b12 b13 b14 b15 b16 b17 b18 b19 : Bool) (v0 v1 v2 v3 v4 v5 v6 v7 v8 v9 v10 v11 v12 v13 v14 v15 v16 : Value) (w : World) : Prop where
  HS : Below z0 va w
  F0 : b0 = true → v3 = .slice (some ⟨b, off, none⟩) n c
  F1 : b1 = true → v4 = .int .i64 s
  F2 : b2 = true → v5 = .int .i64 (s - 1)
  F3 : b3 = true → v6 = .pointer (some ⟨b, off + (k - 1) * 3, none⟩)
  F4 : b4 = true → v7 = .agg #[.int .i64 y0, .int .i64 h0, .bool t0]
  F5 : b5 = true → v8 = .slice (some ⟨b, off, none⟩) n c
  F6 : b6 = true → v9 = .int .i64 s
  F7 : b7 = true → v10 = .pointer (some ⟨b, off + k * 3, none⟩)
  F8 : b8 = true → v11 = .agg #[.int .i64 y1, .int .i64 h1, .bool t1]
  F9 : b9 = true → v12 = .slice (some ⟨b, off, none⟩) n c
  F10 : b10 = true → v13 = .int .i64 s
  F11 : b11 = true → v14 = .int .i64 (s + 1)
  F12 : b12 = true → v15 = .pointer (some ⟨b, off + (k + 1) * 3, none⟩)
  F13 : b13 = true → v16 = .agg #[.int .i64 y2, .int .i64 h2, .bool t2]
  F14 : FT z0 b14 b17 v0 w y0 h0 t0
  F15 : FT z0 b15 b18 v1 w y1 h1 t1
  F16 : FT z0 b16 b19 v2 w y2 h2 t2
  D1 : b14 = true → b15 = true → v0 ≠ v1
  D2 : b14 = true → b16 = true → v0 ≠ v2
  D3 : b15 = true → b16 = true → v1 ≠ v2
  E17 : b17 = true → (b14 && (b15 && b16)) = true
  E18 : b18 = true → b17 = true
  E19 : b19 = true → b18 = true
def TII (va : World) (z0 b off n c k q0 : Nat) (s x p y0 y1 y2 h0 h1 h2 : Int) (t0 t1 t2 : Bool) (l : Array Bool) (a : Act) (w : World) : Prop :=
  ∃ (B : BsI) (V : VsI), l = #[B.b0, B.b1, B.b2, B.b3, B.b4, B.b5, B.b6, B.b7, B.b8, B.b9, B.b10, B.b11, B.b12, B.b13, B.b14, B.b15, B.b16, B.b17, B.b18, B.b19] ∧ a = ⟨(.slice (some ⟨b, off, none⟩) n c :: .agg #[.int .i64 x, .int .i64 p] :: .int .i64 s :: undef :: .pointer (some ⟨q0, 0, none⟩) :: undef :: .int .i64 0 :: .int .i64 0 :: .bool false :: V.v0 :: V.v1 :: V.v2 :: undef :: undef :: undef :: undef :: .slice (some ⟨b, off, none⟩) n c :: .bool true :: .bool false :: .bool false :: .agg #[.int .i64 x, .int .i64 p] :: .bool true :: .bool false :: .bool false :: .bool false :: .int .i64 s :: .slice (some ⟨b, off, none⟩) n c :: .int .i64 (n : Int) :: .int .i64 ((n : Int) - 2) :: .bool true :: .bool false :: .bool false :: V.v3 :: V.v4 :: V.v5 :: V.v6 :: V.v7 :: V.v8 :: V.v9 :: V.v10 :: V.v11 :: V.v12 :: V.v13 :: V.v14 :: V.v15 :: V.v16 :: undef :: undef :: undef :: undef :: undef :: undef :: undef :: undef :: undef :: undef :: undef :: undef :: undef :: undef :: undef :: undef :: undef :: undef :: undef :: undef :: undef :: undef :: undef :: undef :: undef :: undef :: undef :: undef :: undef :: undef :: undef :: undef :: undef :: undef :: undef :: undef :: undef :: undef :: undef :: undef :: undef :: undef :: undef :: undef :: undef :: undef :: undef :: undef :: undef :: undef :: undef :: undef :: undef :: []).toArray, []⟩ ∧
    TFI va z0 b off n c k q0 s x p y0 y1 y2 h0 h1 h2 t0 t1 t2 B.b0 B.b1 B.b2 B.b3 B.b4 B.b5 B.b6 B.b7 B.b8 B.b9 B.b10 B.b11 B.b12 B.b13 B.b14 B.b15 B.b16 B.b17 B.b18 B.b19 V.v0 V.v1 V.v2 V.v3 V.v4 V.v5 V.v6 V.v7 V.v8 V.v9 V.v10 V.v11 V.v12 V.v13 V.v14 V.v15 V.v16 w
set_option maxRecDepth 100000 in
set_option maxHeartbeats 8000000 in
theorem tower_I (b off n c k : Nat) (s x p y0 y1 y2 h0 h1 h2 : Int) (t0 t1 t2 : Bool) (wo : World) (hk1 : 1 ≤ k) (hk2 : k + 1 < n) (hn : n ≤ 1048577) (hs : s = (k : Int)) (hb : b < wo.heap.size)
    (c00 : wo.cell? ⟨b, off + (k - 1) * 3, none⟩ = some (.int .i64 y0)) (c01 : wo.cell? ⟨b, off + (k - 1) * 3 + 1, none⟩ = some (.int .i64 h0)) (c02 : wo.cell? ⟨b, off + (k - 1) * 3 + 2, none⟩ = some (.bool t0)) (c10 : wo.cell? ⟨b, off + k * 3, none⟩ = some (.int .i64 y1)) (c11 : wo.cell? ⟨b, off + k * 3 + 1, none⟩ = some (.int .i64 h1)) (c12 : wo.cell? ⟨b, off + k * 3 + 2, none⟩ = some (.bool t1)) (c20 : wo.cell? ⟨b, off + (k + 1) * 3, none⟩ = some (.int .i64 y2)) (c21 : wo.cell? ⟨b, off + (k + 1) * 3 + 1, none⟩ = some (.int .i64 h2)) (c22 : wo.cell? ⟨b, off + (k + 1) * 3 + 2, none⟩ = some (.bool t2))
    (K : TwAt x p h0 h1 h2 (y1 - y0) (y2 - y1))
    (CI : Hid (∀ w', Below wo.heap.size wo w' → Calls Try.prog 107 #[.slice (some ⟨b, off, none⟩) n c] w' (Ret w' (.bool true))))
    (CR : Hid (∀ w', Calls Try.prog 13 #[.agg #[.int .i64 x, .int .i64 p]] w' (Ret w' (.bool true)))) :
    Calls Try.prog 50 #[.slice (some ⟨b, off, none⟩) n c, .agg #[.int .i64 x, .int .i64 p], .int .i64 s] wo (Ret wo (.tuple #[.int .i64 (redN (2 * p * twV h0 h1 h2 (y1 - y0) (y2 - y1) + x * ((y1 - y0) + (y2 - y1)) * (y1 - y0) * (y2 - y1)) (2 * p * (y1 - y0) * (y2 - y1))), .int .i64 (redD (2 * p * twV h0 h1 h2 (y1 - y0) (y2 - y1) + x * ((y1 - y0) + (y2 - y1)) * (y1 - y0) * (y2 - y1)) (2 * p * (y1 - y0) * (y2 - y1))), .bool true])) := by
  have hin : inr s 1 ((n : Int) - 2) = true := by unfold inr; exact decide_eq_true (by omega)
  have u1 : IntKind.i64.wrap ((n : Int) - 2) = (n : Int) - 2 := IntWalk.i64_in _ (by omega)
  have u2 : IntKind.i64.wrap (s - 1) = s - 1 := IntWalk.i64_in _ (by omega)
  have u3 : IntKind.i64.wrap (s + 1) = s + 1 := IntWalk.i64_in _ (by omega)
  have k0 : 0 ≤ s - 1 ∧ s - 1 < (n : Int) := by omega
  have k1 : 0 ≤ s ∧ s < (n : Int) := by omega
  have k2 : 0 ≤ s + 1 ∧ s + 1 < (n : Int) := by omega
  have kk0 : (s - 1).toNat = k - 1 := by omega
  have kk1 : s.toNat = k := by omega
  have kk2 : (s + 1).toNat = k + 1 := by omega
  have cw := Lib.hid (fun w' => hin ▸ impl_within s 1 ((n : Int) - 2) w')
  have BD := K.bd
  have BD2 := K.bd2
  have T2 := tw_two K
  have wX : IntKind.i64.wrap (y1 - y0) = y1 - y0 := IntWalk.i64_in _ (by have := K.X; omega)
  have wY : IntKind.i64.wrap (y2 - y1) = y2 - y1 := IntWalk.i64_in _ (by have := K.Y; omega)
  have g0 := K.h0
  have g1 := K.h1
  have g2 := K.h2
  have gx := K.X
  have gy := K.Y
  have gp := K.p
  have gw := K.w
  clear K hs hin
  obtain ⟨X, hX⟩ : ∃ X, y1 - y0 = X := ⟨_, rfl⟩
  obtain ⟨Y, hY⟩ : ∃ Y, y2 - y1 = Y := ⟨_, rfl⟩
  rw [hX] at wX gx
  rw [hY] at wY gy
  simp only [hX, hY] at BD BD2 T2 ⊢
  have wX : IntKind.i64.wrap (y1 - y0) = X := by rw [hX]; exact wX
  have wY : IntKind.i64.wrap (y2 - y1) = Y := by rw [hY]; exact wY
  clear hX hY
  have wh1 : IntKind.i64.wrap (h1 - h0) = h1 - h0 := IntWalk.i64_in _ (by omega)
  have wh2 : IntKind.i64.wrap (h2 - h1) = h2 - h1 := IntWalk.i64_in _ (by omega)
  obtain ⟨d1, d2, d3, d4, d5, d6, d7, d8, d9, d10⟩ := BD
  have wA : IntKind.i64.wrap ((h1 - h0) * Y) = (h1 - h0) * Y := IntWalk.i64_in _ (by omega)
  have wB : IntKind.i64.wrap ((h2 - h1) * X) = (h2 - h1) * X := IntWalk.i64_in _ (by omega)
  have wU : IntKind.i64.wrap ((h1 - h0) * Y - (h2 - h1) * X) = twV h0 h1 h2 X Y := IntWalk.i64_in _ (by unfold twV at d3; omega)
  have wS : IntKind.i64.wrap (X + Y) = X + Y := IntWalk.i64_in _ (by omega)
  have wx1 : IntKind.i64.wrap (x * (X + Y)) = x * (X + Y) := IntWalk.i64_in _ (by omega)
  have wp : IntKind.i64.wrap (2 * p) = 2 * p := IntWalk.i64_in _ (by omega)
  have wpU : IntKind.i64.wrap (2 * p * twV h0 h1 h2 X Y) = 2 * p * twV h0 h1 h2 X Y := IntWalk.i64_in _ (by omega)
  have wx2 : IntKind.i64.wrap (x * (X + Y) * X) = x * (X + Y) * X := IntWalk.i64_in _ (by omega)
  have wx3 : IntKind.i64.wrap (x * (X + Y) * X * Y) = x * (X + Y) * X * Y := IntWalk.i64_in _ (by omega)
  have wN : IntKind.i64.wrap (2 * p * twV h0 h1 h2 X Y + x * (X + Y) * X * Y) = 2 * p * twV h0 h1 h2 X Y + x * (X + Y) * X * Y := IntWalk.i64_in _ (by omega)
  have wD1 : IntKind.i64.wrap (2 * p * X) = 2 * p * X := IntWalk.i64_in _ (by omega)
  have wD2 : IntKind.i64.wrap (2 * p * X * Y) = 2 * p * X * Y := IntWalk.i64_in _ (by omega)
  have CL := Lib.hid (fun w' => impl_lowest (2 * p * twV h0 h1 h2 X Y + x * (X + Y) * X * Y) (2 * p * X * Y) w' (by omega) (by omega))
  clear T2 BD2 d1 d2 d3 d4 d5 d6 d7 d8 d9 d10 g0 g1 g2 gx gy gp gw
  generalize redN (2 * p * twV h0 h1 h2 X Y + x * (X + Y) * X * Y) (2 * p * X * Y) = RN at *
  generalize redD (2 * p * twV h0 h1 h2 X Y + x * (X + Y) * X * Y) (2 * p * X * Y) = RD at *
  generalize twV h0 h1 h2 X Y = U at *
  go_enter Try.func50, Try.ntmps50
  go_wp2_with fail
  have hWV : Below wo.heap.size wo (wo.alloc (.cells #[.int .i64 x, .int .i64 p] 26)) := (Below.refl _ _).alloc (Nat.le_refl _) _
  have X0 := Lib.hid (Blk.new wo 26 #[.int .i64 x, .int .i64 p])
  obtain ⟨b0, b1⟩ := X0.out.two'
  generalize hq0 : wo.heap.size = q0 at *
  have HQ := Lib.hid hq0
  clear hq0
  generalize wo.alloc (.cells #[.int .i64 x, .int .i64 p] 26) = w at *
  have HWV := Lib.hid hWV
  have hVV : q0 < w.heap.size := X0.out.lt
  have hB : Below w.heap.size w w := Below.refl _ _
  clear hWV
  go_upto_region 3 with (first | (go_at_call 107; refine (CI.out _ (Below.thenn HWV.out (show Below w.heap.size w _ from (by repeat (first | exact Below.refl _ _ | assumption | apply Below.drew | apply below_drewN | (refine Below.alloc ?_ (by first | omega | (simp; done) | (simp; omega)) _) | (refine Below.setCell ?_ (by first | omega | (simp; done) | (simp; omega)) _)))) (Nat.le_of_lt hVV))).mono ?_; rintro e w' ⟨rfl, hb⟩; have hB : Below w.heap.size w w' := Below.thenn (by repeat (first | exact Below.refl _ _ | assumption | apply Below.drew | apply below_drewN | (refine Below.alloc ?_ (by first | omega | (simp; done) | (simp; omega)) _) | (refine Below.setCell ?_ (by first | omega | (simp; done) | (simp; omega)) _))) hb (by first | omega | (simp; done) | (simp; omega)); have hz : w.heap.size ≤ w'.heap.size := hB.size; (try (have hz1 : w.heap.size + 1 ≤ w'.heap.size := (by have h := hb.size; (try simp at h); omega))); obtain ⟨hc, hf⟩ := bcell hb; have b0 := (X0.out.below hB X0.out.lt).two'.1; have b1 := (X0.out.below hB X0.out.lt).two'.2; clear hb) | (go_at_call 13; refine (CR.out _).mono ?_; rintro e w' ⟨rfl, hb⟩; have hB : Below w.heap.size w w' := Below.thenn (by repeat (first | exact Below.refl _ _ | assumption | apply Below.drew | apply below_drewN | (refine Below.alloc ?_ (by first | omega | (simp; done) | (simp; omega)) _) | (refine Below.setCell ?_ (by first | omega | (simp; done) | (simp; omega)) _))) hb (by first | omega | (simp; done) | (simp; omega)); have hz : w.heap.size ≤ w'.heap.size := hB.size; (try (have hz1 : w.heap.size + 1 ≤ w'.heap.size := (by have h := hb.size; (try simp at h); omega))); obtain ⟨hc, hf⟩ := bcell hb; have b0 := (X0.out.below hB X0.out.lt).two'.1; have b1 := (X0.out.below hB X0.out.lt).two'.2; clear hb) | (go_at_call 98; refine (cw.out _).mono ?_; rintro e w' ⟨rfl, rfl⟩))
  have HB := Lib.hid hB
  have hz0 : q0 < w'.heap.size := by omega
  have hbz : b < w'.heap.size := by omega
  have c00 := (Below.thenn HWV.out hB (by omega)).cell (p := ⟨b, _, none⟩) hb |>.trans c00
  have c01 := (Below.thenn HWV.out hB (by omega)).cell (p := ⟨b, _, none⟩) hb |>.trans c01
  have c02 := (Below.thenn HWV.out hB (by omega)).cell (p := ⟨b, _, none⟩) hb |>.trans c02
  have c10 := (Below.thenn HWV.out hB (by omega)).cell (p := ⟨b, _, none⟩) hb |>.trans c10
  have c11 := (Below.thenn HWV.out hB (by omega)).cell (p := ⟨b, _, none⟩) hb |>.trans c11
  have c12 := (Below.thenn HWV.out hB (by omega)).cell (p := ⟨b, _, none⟩) hb |>.trans c12
  have c20 := (Below.thenn HWV.out hB (by omega)).cell (p := ⟨b, _, none⟩) hb |>.trans c20
  have c21 := (Below.thenn HWV.out hB (by omega)).cell (p := ⟨b, _, none⟩) hb |>.trans c21
  have c22 := (Below.thenn HWV.out hB (by omega)).cell (p := ⟨b, _, none⟩) hb |>.trans c22
  clear hc hf hB
  generalize w' = va at *
  go_cut [9, 10, 11] (fun s9 s10 s11 wx => ∃ q9 q10 q11 : Nat, s9 = .pointer (some ⟨q9, 0, none⟩) ∧ s10 = .pointer (some ⟨q10, 0, none⟩) ∧ s11 = .pointer (some ⟨q11, 0, none⟩) ∧ Hid (Below va.heap.size va wx) ∧ Hid (Blk wx q9 51 #[.int .i64 y0, .int .i64 h0, .bool t0]) ∧ Hid (Blk wx q10 51 #[.int .i64 y1, .int .i64 h1, .bool t1]) ∧ Hid (Blk wx q11 51 #[.int .i64 y2, .int .i64 h2, .bool t2]))
  case first =>
    · skip
      refine wp_region_inv (I := TII va va.heap.size b off n c k q0 s x p y0 y1 y2 h0 h1 h2 t0 t1 t2) (by kernel_rfl) ?_ ?_ ?_ ?_
      · rintro l a w1 ⟨B, V, rfl, rfl, _⟩
        rfl
      · exact ⟨⟨false, false, false, false, false, false, false, false, false, false, false, false, false, false, false, false, false, false, false, false⟩, ⟨undef, undef, undef, undef, undef, undef, undef, undef, undef, undef, undef, undef, undef, undef, undef, undef, undef⟩, rfl, rfl, ⟨(Below.refl _ _).drew, (fun h => by cases h), (fun h => by cases h), (fun h => by cases h), (fun h => by cases h), (fun h => by cases h), (fun h => by cases h), (fun h => by cases h), (fun h => by cases h), (fun h => by cases h), (fun h => by cases h), (fun h => by cases h), (fun h => by cases h), (fun h => by cases h), (fun h => by cases h), (fun h => by cases h), (fun h => by cases h), (fun h => by cases h), (fun h => by cases h), (fun h => by cases h), (fun h => by cases h), (fun h => by cases h), (fun h => by cases h), (fun h => by cases h)⟩⟩
      · intro Q'
        refine ⟨⟨rfl, ?_⟩, ⟨rfl, ?_⟩, ⟨rfl, ?_⟩, ⟨rfl, ?_⟩, ⟨rfl, ?_⟩, ⟨rfl, ?_⟩, ⟨rfl, ?_⟩, ⟨rfl, ?_⟩, ⟨rfl, ?_⟩, ⟨rfl, ?_⟩, ⟨rfl, ?_⟩, ⟨rfl, ?_⟩, ⟨rfl, ?_⟩, ⟨rfl, ?_⟩, ⟨rfl, ?_⟩, ⟨rfl, ?_⟩, ⟨rfl, ?_⟩, ⟨rfl, ?_⟩, ⟨rfl, ?_⟩, ⟨rfl, ?_⟩, trivial⟩
        · intro l a w1 hI hi hd Kx hKx
          obtain ⟨⟨b0, b1, b2, b3, b4, b5, b6, b7, b8, b9, b10, b11, b12, b13, b14, b15, b16, b17, b18, b19⟩, ⟨v0, v1, v2, v3, v4, v5, v6, v7, v8, v9, v10, v11, v12, v13, v14, v15, v16⟩, rfl, rfl, H⟩ := hI
          dsimp only at H ⊢
          have hbi : b0 = false := hi
          subst hbi
          clear hd
          clear c00 c01 c02 c10 c11 c12 c20 c21 c22
          go_simp
          refine hKx.out _ _ ?_
          clear hKx
          refine ⟨⟨true, _, _, _, _, _, _, _, _, _, _, _, _, _, _, _, _, _, _, _⟩, ⟨_, _, _, _, _, _, _, _, _, _, _, _, _, _, _, _, _⟩, rfl, rfl, ?_⟩
          exact ⟨H.HS, (fun _ => rfl), H.F1, H.F2, H.F3, H.F4, H.F5, H.F6, H.F7, H.F8, H.F9, H.F10, H.F11, H.F12, H.F13, H.F14, H.F15, H.F16, H.D1, H.D2, H.D3, H.E17, H.E18, H.E19⟩
        · intro l a w1 hI hi hd Kx hKx
          obtain ⟨⟨b0, b1, b2, b3, b4, b5, b6, b7, b8, b9, b10, b11, b12, b13, b14, b15, b16, b17, b18, b19⟩, ⟨v0, v1, v2, v3, v4, v5, v6, v7, v8, v9, v10, v11, v12, v13, v14, v15, v16⟩, rfl, rfl, H⟩ := hI
          dsimp only at H ⊢
          have hbi : b1 = false := hi
          subst hbi
          clear hd
          clear c00 c01 c02 c10 c11 c12 c20 c21 c22
          go_simp
          refine hKx.out _ _ ?_
          clear hKx
          refine ⟨⟨_, true, _, _, _, _, _, _, _, _, _, _, _, _, _, _, _, _, _, _⟩, ⟨_, _, _, _, _, _, _, _, _, _, _, _, _, _, _, _, _⟩, rfl, rfl, ?_⟩
          exact ⟨H.HS, H.F0, (fun _ => rfl), H.F2, H.F3, H.F4, H.F5, H.F6, H.F7, H.F8, H.F9, H.F10, H.F11, H.F12, H.F13, H.F14, H.F15, H.F16, H.D1, H.D2, H.D3, H.E17, H.E18, H.E19⟩
        · intro l a w1 hI hi hd Kx hKx
          obtain ⟨⟨b0, b1, b2, b3, b4, b5, b6, b7, b8, b9, b10, b11, b12, b13, b14, b15, b16, b17, b18, b19⟩, ⟨v0, v1, v2, v3, v4, v5, v6, v7, v8, v9, v10, v11, v12, v13, v14, v15, v16⟩, rfl, rfl, H⟩ := hI
          dsimp only at H ⊢
          have hbi : b2 = false := hi
          subst hbi
          have hb1 : b1 = true := hd ⟨1, .data⟩ (by simp) rfl
          clear hd
          subst hb1
          obtain rfl := H.F1 rfl
          clear c00 c01 c02 c10 c11 c12 c20 c21 c22
          go_simp
          refine hKx.out _ _ ?_
          clear hKx
          refine ⟨⟨_, _, true, _, _, _, _, _, _, _, _, _, _, _, _, _, _, _, _, _⟩, ⟨_, _, _, _, _, _, _, _, _, _, _, _, _, _, _, _, _⟩, rfl, rfl, ?_⟩
          exact ⟨H.HS, H.F0, H.F1, (fun _ => rfl), H.F3, H.F4, H.F5, H.F6, H.F7, H.F8, H.F9, H.F10, H.F11, H.F12, H.F13, H.F14, H.F15, H.F16, H.D1, H.D2, H.D3, H.E17, H.E18, H.E19⟩
        · intro l a w1 hI hi hd Kx hKx
          obtain ⟨⟨b0, b1, b2, b3, b4, b5, b6, b7, b8, b9, b10, b11, b12, b13, b14, b15, b16, b17, b18, b19⟩, ⟨v0, v1, v2, v3, v4, v5, v6, v7, v8, v9, v10, v11, v12, v13, v14, v15, v16⟩, rfl, rfl, H⟩ := hI
          dsimp only at H ⊢
          have hbi : b3 = false := hi
          subst hbi
          have hb0 : b0 = true := hd ⟨0, .data⟩ (by simp) rfl
          have hb2 : b2 = true := hd ⟨2, .data⟩ (by simp) rfl
          clear hd
          subst hb0 hb2
          obtain rfl := H.F0 rfl
          obtain rfl := H.F2 rfl
          clear c00 c01 c02 c10 c11 c12 c20 c21 c22
          obtain ⟨r0, r1⟩ := k0
          have r2 : 1 ≤ s := by omega
          go_simp
          refine hKx.out _ _ ?_
          clear hKx
          refine ⟨⟨_, _, _, true, _, _, _, _, _, _, _, _, _, _, _, _, _, _, _, _⟩, ⟨_, _, _, _, _, _, _, _, _, _, _, _, _, _, _, _, _⟩, rfl, rfl, ?_⟩
          exact ⟨H.HS, H.F0, H.F1, H.F2, (fun _ => rfl), H.F4, H.F5, H.F6, H.F7, H.F8, H.F9, H.F10, H.F11, H.F12, H.F13, H.F14, H.F15, H.F16, H.D1, H.D2, H.D3, H.E17, H.E18, H.E19⟩
        · intro l a w1 hI hi hd Kx hKx
          obtain ⟨⟨b0, b1, b2, b3, b4, b5, b6, b7, b8, b9, b10, b11, b12, b13, b14, b15, b16, b17, b18, b19⟩, ⟨v0, v1, v2, v3, v4, v5, v6, v7, v8, v9, v10, v11, v12, v13, v14, v15, v16⟩, rfl, rfl, H⟩ := hI
          dsimp only at H ⊢
          have hbi : b4 = false := hi
          subst hbi
          have hb3 : b3 = true := hd ⟨3, .data⟩ (by simp) rfl
          clear hd
          subst hb3
          obtain rfl := H.F3 rfl
          have e0 := (H.HS.cell (p := ⟨b, _, none⟩) hbz).trans c00
          have e1 := (H.HS.cell (p := ⟨b, _, none⟩) hbz).trans c01
          have e2 := (H.HS.cell (p := ⟨b, _, none⟩) hbz).trans c02
          clear c00 c01 c02 c10 c11 c12 c20 c21 c22
          go_simp
          refine hKx.out _ _ ?_
          clear hKx
          refine ⟨⟨_, _, _, _, true, _, _, _, _, _, _, _, _, _, _, _, _, _, _, _⟩, ⟨_, _, _, _, _, _, _, _, _, _, _, _, _, _, _, _, _⟩, rfl, rfl, ?_⟩
          exact ⟨H.HS, H.F0, H.F1, H.F2, H.F3, (fun _ => rfl), H.F5, H.F6, H.F7, H.F8, H.F9, H.F10, H.F11, H.F12, H.F13, H.F14, H.F15, H.F16, H.D1, H.D2, H.D3, H.E17, H.E18, H.E19⟩
        · intro l a w1 hI hi hd Kx hKx
          obtain ⟨⟨b0, b1, b2, b3, b4, b5, b6, b7, b8, b9, b10, b11, b12, b13, b14, b15, b16, b17, b18, b19⟩, ⟨v0, v1, v2, v3, v4, v5, v6, v7, v8, v9, v10, v11, v12, v13, v14, v15, v16⟩, rfl, rfl, H⟩ := hI
          dsimp only at H ⊢
          have hbi : b5 = false := hi
          subst hbi
          clear hd
          clear c00 c01 c02 c10 c11 c12 c20 c21 c22
          go_simp
          refine hKx.out _ _ ?_
          clear hKx
          refine ⟨⟨_, _, _, _, _, true, _, _, _, _, _, _, _, _, _, _, _, _, _, _⟩, ⟨_, _, _, _, _, _, _, _, _, _, _, _, _, _, _, _, _⟩, rfl, rfl, ?_⟩
          exact ⟨H.HS, H.F0, H.F1, H.F2, H.F3, H.F4, (fun _ => rfl), H.F6, H.F7, H.F8, H.F9, H.F10, H.F11, H.F12, H.F13, H.F14, H.F15, H.F16, H.D1, H.D2, H.D3, H.E17, H.E18, H.E19⟩
        · intro l a w1 hI hi hd Kx hKx
          obtain ⟨⟨b0, b1, b2, b3, b4, b5, b6, b7, b8, b9, b10, b11, b12, b13, b14, b15, b16, b17, b18, b19⟩, ⟨v0, v1, v2, v3, v4, v5, v6, v7, v8, v9, v10, v11, v12, v13, v14, v15, v16⟩, rfl, rfl, H⟩ := hI
          dsimp only at H ⊢
          have hbi : b6 = false := hi
          subst hbi
          clear hd
          clear c00 c01 c02 c10 c11 c12 c20 c21 c22
          go_simp
          refine hKx.out _ _ ?_
          clear hKx
          refine ⟨⟨_, _, _, _, _, _, true, _, _, _, _, _, _, _, _, _, _, _, _, _⟩, ⟨_, _, _, _, _, _, _, _, _, _, _, _, _, _, _, _, _⟩, rfl, rfl, ?_⟩
          exact ⟨H.HS, H.F0, H.F1, H.F2, H.F3, H.F4, H.F5, (fun _ => rfl), H.F7, H.F8, H.F9, H.F10, H.F11, H.F12, H.F13, H.F14, H.F15, H.F16, H.D1, H.D2, H.D3, H.E17, H.E18, H.E19⟩
        · intro l a w1 hI hi hd Kx hKx
          obtain ⟨⟨b0, b1, b2, b3, b4, b5, b6, b7, b8, b9, b10, b11, b12, b13, b14, b15, b16, b17, b18, b19⟩, ⟨v0, v1, v2, v3, v4, v5, v6, v7, v8, v9, v10, v11, v12, v13, v14, v15, v16⟩, rfl, rfl, H⟩ := hI
          dsimp only at H ⊢
          have hbi : b7 = false := hi
          subst hbi
          have hb5 : b5 = true := hd ⟨5, .data⟩ (by simp) rfl
          have hb6 : b6 = true := hd ⟨6, .data⟩ (by simp) rfl
          clear hd
          subst hb5 hb6
          obtain rfl := H.F5 rfl
          obtain rfl := H.F6 rfl
          clear c00 c01 c02 c10 c11 c12 c20 c21 c22
          obtain ⟨r0, r1⟩ := k1
          go_simp
          refine hKx.out _ _ ?_
          clear hKx
          refine ⟨⟨_, _, _, _, _, _, _, true, _, _, _, _, _, _, _, _, _, _, _, _⟩, ⟨_, _, _, _, _, _, _, _, _, _, _, _, _, _, _, _, _⟩, rfl, rfl, ?_⟩
          exact ⟨H.HS, H.F0, H.F1, H.F2, H.F3, H.F4, H.F5, H.F6, (fun _ => rfl), H.F8, H.F9, H.F10, H.F11, H.F12, H.F13, H.F14, H.F15, H.F16, H.D1, H.D2, H.D3, H.E17, H.E18, H.E19⟩
        · intro l a w1 hI hi hd Kx hKx
          obtain ⟨⟨b0, b1, b2, b3, b4, b5, b6, b7, b8, b9, b10, b11, b12, b13, b14, b15, b16, b17, b18, b19⟩, ⟨v0, v1, v2, v3, v4, v5, v6, v7, v8, v9, v10, v11, v12, v13, v14, v15, v16⟩, rfl, rfl, H⟩ := hI
          dsimp only at H ⊢
          have hbi : b8 = false := hi
          subst hbi
          have hb7 : b7 = true := hd ⟨7, .data⟩ (by simp) rfl
          clear hd
          subst hb7
          obtain rfl := H.F7 rfl
          have e0 := (H.HS.cell (p := ⟨b, _, none⟩) hbz).trans c10
          have e1 := (H.HS.cell (p := ⟨b, _, none⟩) hbz).trans c11
          have e2 := (H.HS.cell (p := ⟨b, _, none⟩) hbz).trans c12
          clear c00 c01 c02 c10 c11 c12 c20 c21 c22
          go_simp
          refine hKx.out _ _ ?_
          clear hKx
          refine ⟨⟨_, _, _, _, _, _, _, _, true, _, _, _, _, _, _, _, _, _, _, _⟩, ⟨_, _, _, _, _, _, _, _, _, _, _, _, _, _, _, _, _⟩, rfl, rfl, ?_⟩
          exact ⟨H.HS, H.F0, H.F1, H.F2, H.F3, H.F4, H.F5, H.F6, H.F7, (fun _ => rfl), H.F9, H.F10, H.F11, H.F12, H.F13, H.F14, H.F15, H.F16, H.D1, H.D2, H.D3, H.E17, H.E18, H.E19⟩
        · intro l a w1 hI hi hd Kx hKx
          obtain ⟨⟨b0, b1, b2, b3, b4, b5, b6, b7, b8, b9, b10, b11, b12, b13, b14, b15, b16, b17, b18, b19⟩, ⟨v0, v1, v2, v3, v4, v5, v6, v7, v8, v9, v10, v11, v12, v13, v14, v15, v16⟩, rfl, rfl, H⟩ := hI
          dsimp only at H ⊢
          have hbi : b9 = false := hi
          subst hbi
          clear hd
          clear c00 c01 c02 c10 c11 c12 c20 c21 c22
          go_simp
          refine hKx.out _ _ ?_
          clear hKx
          refine ⟨⟨_, _, _, _, _, _, _, _, _, true, _, _, _, _, _, _, _, _, _, _⟩, ⟨_, _, _, _, _, _, _, _, _, _, _, _, _, _, _, _, _⟩, rfl, rfl, ?_⟩
          exact ⟨H.HS, H.F0, H.F1, H.F2, H.F3, H.F4, H.F5, H.F6, H.F7, H.F8, (fun _ => rfl), H.F10, H.F11, H.F12, H.F13, H.F14, H.F15, H.F16, H.D1, H.D2, H.D3, H.E17, H.E18, H.E19⟩
        · intro l a w1 hI hi hd Kx hKx
          obtain ⟨⟨b0, b1, b2, b3, b4, b5, b6, b7, b8, b9, b10, b11, b12, b13, b14, b15, b16, b17, b18, b19⟩, ⟨v0, v1, v2, v3, v4, v5, v6, v7, v8, v9, v10, v11, v12, v13, v14, v15, v16⟩, rfl, rfl, H⟩ := hI
          dsimp only at H ⊢
          have hbi : b10 = false := hi
          subst hbi
          clear hd
          clear c00 c01 c02 c10 c11 c12 c20 c21 c22
          go_simp
          refine hKx.out _ _ ?_
          clear hKx
          refine ⟨⟨_, _, _, _, _, _, _, _, _, _, true, _, _, _, _, _, _, _, _, _⟩, ⟨_, _, _, _, _, _, _, _, _, _, _, _, _, _, _, _, _⟩, rfl, rfl, ?_⟩
          exact ⟨H.HS, H.F0, H.F1, H.F2, H.F3, H.F4, H.F5, H.F6, H.F7, H.F8, H.F9, (fun _ => rfl), H.F11, H.F12, H.F13, H.F14, H.F15, H.F16, H.D1, H.D2, H.D3, H.E17, H.E18, H.E19⟩
        · intro l a w1 hI hi hd Kx hKx
          obtain ⟨⟨b0, b1, b2, b3, b4, b5, b6, b7, b8, b9, b10, b11, b12, b13, b14, b15, b16, b17, b18, b19⟩, ⟨v0, v1, v2, v3, v4, v5, v6, v7, v8, v9, v10, v11, v12, v13, v14, v15, v16⟩, rfl, rfl, H⟩ := hI
          dsimp only at H ⊢
          have hbi : b11 = false := hi
          subst hbi
          have hb10 : b10 = true := hd ⟨10, .data⟩ (by simp) rfl
          clear hd
          subst hb10
          obtain rfl := H.F10 rfl
          clear c00 c01 c02 c10 c11 c12 c20 c21 c22
          go_simp
          refine hKx.out _ _ ?_
          clear hKx
          refine ⟨⟨_, _, _, _, _, _, _, _, _, _, _, true, _, _, _, _, _, _, _, _⟩, ⟨_, _, _, _, _, _, _, _, _, _, _, _, _, _, _, _, _⟩, rfl, rfl, ?_⟩
          exact ⟨H.HS, H.F0, H.F1, H.F2, H.F3, H.F4, H.F5, H.F6, H.F7, H.F8, H.F9, H.F10, (fun _ => rfl), H.F12, H.F13, H.F14, H.F15, H.F16, H.D1, H.D2, H.D3, H.E17, H.E18, H.E19⟩
        · intro l a w1 hI hi hd Kx hKx
          obtain ⟨⟨b0, b1, b2, b3, b4, b5, b6, b7, b8, b9, b10, b11, b12, b13, b14, b15, b16, b17, b18, b19⟩, ⟨v0, v1, v2, v3, v4, v5, v6, v7, v8, v9, v10, v11, v12, v13, v14, v15, v16⟩, rfl, rfl, H⟩ := hI
          dsimp only at H ⊢
          have hbi : b12 = false := hi
          subst hbi
          have hb9 : b9 = true := hd ⟨9, .data⟩ (by simp) rfl
          have hb11 : b11 = true := hd ⟨11, .data⟩ (by simp) rfl
          clear hd
          subst hb9 hb11
          obtain rfl := H.F9 rfl
          obtain rfl := H.F11 rfl
          clear c00 c01 c02 c10 c11 c12 c20 c21 c22
          obtain ⟨r0, r1⟩ := k2
          have r2 : -1 ≤ s := by omega
          have r3 : 0 ≤ s := by omega
          go_simp
          refine hKx.out _ _ ?_
          clear hKx
          refine ⟨⟨_, _, _, _, _, _, _, _, _, _, _, _, true, _, _, _, _, _, _, _⟩, ⟨_, _, _, _, _, _, _, _, _, _, _, _, _, _, _, _, _⟩, rfl, rfl, ?_⟩
          exact ⟨H.HS, H.F0, H.F1, H.F2, H.F3, H.F4, H.F5, H.F6, H.F7, H.F8, H.F9, H.F10, H.F11, (fun _ => rfl), H.F13, H.F14, H.F15, H.F16, H.D1, H.D2, H.D3, H.E17, H.E18, H.E19⟩
        · intro l a w1 hI hi hd Kx hKx
          obtain ⟨⟨b0, b1, b2, b3, b4, b5, b6, b7, b8, b9, b10, b11, b12, b13, b14, b15, b16, b17, b18, b19⟩, ⟨v0, v1, v2, v3, v4, v5, v6, v7, v8, v9, v10, v11, v12, v13, v14, v15, v16⟩, rfl, rfl, H⟩ := hI
          dsimp only at H ⊢
          have hbi : b13 = false := hi
          subst hbi
          have hb12 : b12 = true := hd ⟨12, .data⟩ (by simp) rfl
          clear hd
          subst hb12
          obtain rfl := H.F12 rfl
          have e0 := (H.HS.cell (p := ⟨b, _, none⟩) hbz).trans c20
          have e1 := (H.HS.cell (p := ⟨b, _, none⟩) hbz).trans c21
          have e2 := (H.HS.cell (p := ⟨b, _, none⟩) hbz).trans c22
          clear c00 c01 c02 c10 c11 c12 c20 c21 c22
          go_simp
          refine hKx.out _ _ ?_
          clear hKx
          refine ⟨⟨_, _, _, _, _, _, _, _, _, _, _, _, _, true, _, _, _, _, _, _⟩, ⟨_, _, _, _, _, _, _, _, _, _, _, _, _, _, _, _, _⟩, rfl, rfl, ?_⟩
          exact ⟨H.HS, H.F0, H.F1, H.F2, H.F3, H.F4, H.F5, H.F6, H.F7, H.F8, H.F9, H.F10, H.F11, H.F12, (fun _ => rfl), H.F14, H.F15, H.F16, H.D1, H.D2, H.D3, H.E17, H.E18, H.E19⟩
        · intro l a w1 hI hi hd Kx hKx
          obtain ⟨⟨b0, b1, b2, b3, b4, b5, b6, b7, b8, b9, b10, b11, b12, b13, b14, b15, b16, b17, b18, b19⟩, ⟨v0, v1, v2, v3, v4, v5, v6, v7, v8, v9, v10, v11, v12, v13, v14, v15, v16⟩, rfl, rfl, H⟩ := hI
          dsimp only at H ⊢
          have hbi : b14 = false := hi
          subst hbi
          clear hd
          have hh17 : b17 = false := by
            rcases b17 with _ | _
            · rfl
            · exact absurd (H.E17 rfl) (by simp)
          subst hh17
          have hh18 : b18 = false := by
            rcases b18 with _ | _
            · rfl
            · exact absurd (H.E18 rfl) (by simp)
          subst hh18
          have hh19 : b19 = false := by
            rcases b19 with _ | _
            · rfl
            · exact absurd (H.E19 rfl) (by simp)
          subst hh19
          have hzz := H.HS.size
          have hal : ∀ o : Obj, Below w1.heap.size w1 (w1.alloc o) := fun o => (Below.refl _ _).alloc (Nat.le_refl _) o
          go_simp
          refine hKx.out _ _ ?_
          clear hKx
          refine ⟨⟨_, _, _, _, _, _, _, _, _, _, _, _, _, _, true, _, _, _, _, _⟩, ⟨_, _, _, _, _, _, _, _, _, _, _, _, _, _, _, _, _⟩, rfl, rfl, ?_⟩
          exact ⟨H.HS.alloc H.HS.size _, H.F0, H.F1, H.F2, H.F3, H.F4, H.F5, H.F6, H.F7, H.F8, H.F9, H.F10, H.F11, H.F12, H.F13, (fun _ => ⟨_, rfl, hzz, Blk.new _ _ _⟩), (H.F15.below (hal _)), (H.F16.below (hal _)), (fun _ hx => Ne.symm (H.F15.ne_new hx)), (fun _ hx => Ne.symm (H.F16.ne_new hx)), H.D3, (fun h => by cases h), (fun h => by cases h), (fun h => by cases h)⟩
        · intro l a w1 hI hi hd Kx hKx
          obtain ⟨⟨b0, b1, b2, b3, b4, b5, b6, b7, b8, b9, b10, b11, b12, b13, b14, b15, b16, b17, b18, b19⟩, ⟨v0, v1, v2, v3, v4, v5, v6, v7, v8, v9, v10, v11, v12, v13, v14, v15, v16⟩, rfl, rfl, H⟩ := hI
          dsimp only at H ⊢
          have hbi : b15 = false := hi
          subst hbi
          clear hd
          have hh17 : b17 = false := by
            rcases b17 with _ | _
            · rfl
            · exact absurd (H.E17 rfl) (by simp)
          subst hh17
          have hh18 : b18 = false := by
            rcases b18 with _ | _
            · rfl
            · exact absurd (H.E18 rfl) (by simp)
          subst hh18
          have hh19 : b19 = false := by
            rcases b19 with _ | _
            · rfl
            · exact absurd (H.E19 rfl) (by simp)
          subst hh19
          have hzz := H.HS.size
          have hal : ∀ o : Obj, Below w1.heap.size w1 (w1.alloc o) := fun o => (Below.refl _ _).alloc (Nat.le_refl _) o
          go_simp
          refine hKx.out _ _ ?_
          clear hKx
          refine ⟨⟨_, _, _, _, _, _, _, _, _, _, _, _, _, _, _, true, _, _, _, _⟩, ⟨_, _, _, _, _, _, _, _, _, _, _, _, _, _, _, _, _⟩, rfl, rfl, ?_⟩
          exact ⟨H.HS.alloc H.HS.size _, H.F0, H.F1, H.F2, H.F3, H.F4, H.F5, H.F6, H.F7, H.F8, H.F9, H.F10, H.F11, H.F12, H.F13, (H.F14.below (hal _)), (fun _ => ⟨_, rfl, hzz, Blk.new _ _ _⟩), (H.F16.below (hal _)), (fun hx _ => H.F14.ne_new hx), H.D2, (fun _ hx => Ne.symm (H.F16.ne_new hx)), (fun h => by cases h), (fun h => by cases h), (fun h => by cases h)⟩
        · intro l a w1 hI hi hd Kx hKx
          obtain ⟨⟨b0, b1, b2, b3, b4, b5, b6, b7, b8, b9, b10, b11, b12, b13, b14, b15, b16, b17, b18, b19⟩, ⟨v0, v1, v2, v3, v4, v5, v6, v7, v8, v9, v10, v11, v12, v13, v14, v15, v16⟩, rfl, rfl, H⟩ := hI
          dsimp only at H ⊢
          have hbi : b16 = false := hi
          subst hbi
          clear hd
          have hh17 : b17 = false := by
            rcases b17 with _ | _
            · rfl
            · exact absurd (H.E17 rfl) (by simp)
          subst hh17
          have hh18 : b18 = false := by
            rcases b18 with _ | _
            · rfl
            · exact absurd (H.E18 rfl) (by simp)
          subst hh18
          have hh19 : b19 = false := by
            rcases b19 with _ | _
            · rfl
            · exact absurd (H.E19 rfl) (by simp)
          subst hh19
          have hzz := H.HS.size
          have hal : ∀ o : Obj, Below w1.heap.size w1 (w1.alloc o) := fun o => (Below.refl _ _).alloc (Nat.le_refl _) o
          go_simp
          refine hKx.out _ _ ?_
          clear hKx
          refine ⟨⟨_, _, _, _, _, _, _, _, _, _, _, _, _, _, _, _, true, _, _, _⟩, ⟨_, _, _, _, _, _, _, _, _, _, _, _, _, _, _, _, _⟩, rfl, rfl, ?_⟩
          exact ⟨H.HS.alloc H.HS.size _, H.F0, H.F1, H.F2, H.F3, H.F4, H.F5, H.F6, H.F7, H.F8, H.F9, H.F10, H.F11, H.F12, H.F13, (H.F14.below (hal _)), (H.F15.below (hal _)), (fun _ => ⟨_, rfl, hzz, Blk.new _ _ _⟩), H.D1, (fun hx _ => H.F14.ne_new hx), (fun hx _ => H.F15.ne_new hx), (fun h => by cases h), (fun h => by cases h), (fun h => by cases h)⟩
        · intro l a w1 hI hi hd Kx hKx
          obtain ⟨⟨b0, b1, b2, b3, b4, b5, b6, b7, b8, b9, b10, b11, b12, b13, b14, b15, b16, b17, b18, b19⟩, ⟨v0, v1, v2, v3, v4, v5, v6, v7, v8, v9, v10, v11, v12, v13, v14, v15, v16⟩, rfl, rfl, H⟩ := hI
          dsimp only at H ⊢
          have hbi : b17 = false := hi
          subst hbi
          have hb14 : b14 = true := hd ⟨14, .data⟩ (by simp) rfl
          have hb4 : b4 = true := hd ⟨4, .data⟩ (by simp) rfl
          have hb15 : b15 = true := hd ⟨15, .phase⟩ (by simp) rfl
          have hb16 : b16 = true := hd ⟨16, .phase⟩ (by simp) rfl
          clear hd
          subst hb14 hb4 hb15 hb16
          obtain rfl := H.F4 rfl
          obtain ⟨q1, rfl, hz1, hq1⟩ := H.F14 rfl
          have hq2 : Blk w1 q1 51 #[.int .i64 0, .int .i64 0, .bool false] := hq1
          obtain ⟨u0, u1, u2⟩ := hq2.three'
          have g0 := hq2.frozen 0
          have g1 := hq2.frozen 1
          have g2 := hq2.frozen 2
          have hq3 : Blk (((w1.setCell ⟨q1, 0, none⟩ (.int .i64 y0)).setCell ⟨q1, 1, none⟩ (.int .i64 h0)).setCell ⟨q1, 2, none⟩ (.bool t0)) q1 51 #[.int .i64 y0, .int .i64 h0, .bool t0] := hq2.putT
          have hbw : Below va.heap.size va (((w1.setCell ⟨q1, 0, none⟩ (.int .i64 y0)).setCell ⟨q1, 1, none⟩ (.int .i64 h0)).setCell ⟨q1, 2, none⟩ (.bool t0)) := ((H.HS.setCell (p := ⟨q1, 0, none⟩) hz1 _).setCell (p := ⟨q1, 1, none⟩) hz1 _).setCell (p := ⟨q1, 2, none⟩) hz1 _
          clear hq1 c00 c01 c02 c10 c11 c12 c20 c21 c22
          go_simp
          refine hKx.out _ _ ?_
          clear hKx
          refine ⟨⟨_, _, _, _, _, _, _, _, _, _, _, _, _, _, _, _, _, true, _, _⟩, ⟨_, _, _, _, _, _, _, _, _, _, _, _, _, _, _, _, _⟩, rfl, rfl, ?_⟩
          exact ⟨hbw, H.F0, H.F1, H.F2, H.F3, (fun _ => rfl), H.F5, H.F6, H.F7, H.F8, H.F9, H.F10, H.F11, H.F12, H.F13, (fun _ => ⟨q1, rfl, hz1, hq3⟩), (H.F15.far (fun h => H.D1 rfl h) _ _ _), (H.F16.far (fun h => H.D2 rfl h) _ _ _), H.D1, H.D2, H.D3, (fun _ => rfl), (fun _ => rfl), H.E19⟩
        · intro l a w1 hI hi hd Kx hKx
          obtain ⟨⟨b0, b1, b2, b3, b4, b5, b6, b7, b8, b9, b10, b11, b12, b13, b14, b15, b16, b17, b18, b19⟩, ⟨v0, v1, v2, v3, v4, v5, v6, v7, v8, v9, v10, v11, v12, v13, v14, v15, v16⟩, rfl, rfl, H⟩ := hI
          dsimp only at H ⊢
          have hbi : b18 = false := hi
          subst hbi
          have hb15 : b15 = true := hd ⟨15, .data⟩ (by simp) rfl
          have hb8 : b8 = true := hd ⟨8, .data⟩ (by simp) rfl
          have hb17 : b17 = true := hd ⟨17, .chain⟩ (by simp) rfl
          have hb14 : b14 = true := hd ⟨14, .phase⟩ (by simp) rfl
          have hb16 : b16 = true := hd ⟨16, .phase⟩ (by simp) rfl
          clear hd
          subst hb15 hb8 hb17 hb14 hb16
          obtain rfl := H.F8 rfl
          obtain ⟨q1, rfl, hz1, hq1⟩ := H.F15 rfl
          have hq2 : Blk w1 q1 51 #[.int .i64 0, .int .i64 0, .bool false] := hq1
          obtain ⟨u0, u1, u2⟩ := hq2.three'
          have g0 := hq2.frozen 0
          have g1 := hq2.frozen 1
          have g2 := hq2.frozen 2
          have hq3 : Blk (((w1.setCell ⟨q1, 0, none⟩ (.int .i64 y1)).setCell ⟨q1, 1, none⟩ (.int .i64 h1)).setCell ⟨q1, 2, none⟩ (.bool t1)) q1 51 #[.int .i64 y1, .int .i64 h1, .bool t1] := hq2.putT
          have hbw : Below va.heap.size va (((w1.setCell ⟨q1, 0, none⟩ (.int .i64 y1)).setCell ⟨q1, 1, none⟩ (.int .i64 h1)).setCell ⟨q1, 2, none⟩ (.bool t1)) := ((H.HS.setCell (p := ⟨q1, 0, none⟩) hz1 _).setCell (p := ⟨q1, 1, none⟩) hz1 _).setCell (p := ⟨q1, 2, none⟩) hz1 _
          clear hq1 c00 c01 c02 c10 c11 c12 c20 c21 c22
          go_simp
          refine hKx.out _ _ ?_
          clear hKx
          refine ⟨⟨_, _, _, _, _, _, _, _, _, _, _, _, _, _, _, _, _, _, true, _⟩, ⟨_, _, _, _, _, _, _, _, _, _, _, _, _, _, _, _, _⟩, rfl, rfl, ?_⟩
          exact ⟨hbw, H.F0, H.F1, H.F2, H.F3, H.F4, H.F5, H.F6, H.F7, (fun _ => rfl), H.F9, H.F10, H.F11, H.F12, H.F13, (H.F14.far (fun h => Ne.symm (H.D1 h rfl)) _ _ _), (fun _ => ⟨q1, rfl, hz1, hq3⟩), (H.F16.far (fun h => H.D3 rfl h) _ _ _), H.D1, H.D2, H.D3, H.E17, (fun _ => rfl), (fun _ => rfl)⟩
        · intro l a w1 hI hi hd Kx hKx
          obtain ⟨⟨b0, b1, b2, b3, b4, b5, b6, b7, b8, b9, b10, b11, b12, b13, b14, b15, b16, b17, b18, b19⟩, ⟨v0, v1, v2, v3, v4, v5, v6, v7, v8, v9, v10, v11, v12, v13, v14, v15, v16⟩, rfl, rfl, H⟩ := hI
          dsimp only at H ⊢
          have hbi : b19 = false := hi
          subst hbi
          have hb16 : b16 = true := hd ⟨16, .data⟩ (by simp) rfl
          have hb13 : b13 = true := hd ⟨13, .data⟩ (by simp) rfl
          have hb18 : b18 = true := hd ⟨18, .chain⟩ (by simp) rfl
          have hb14 : b14 = true := hd ⟨14, .phase⟩ (by simp) rfl
          have hb15 : b15 = true := hd ⟨15, .phase⟩ (by simp) rfl
          have hb17 : b17 = true := hd ⟨17, .phase⟩ (by simp) rfl
          clear hd
          subst hb16 hb13 hb18 hb14 hb15 hb17
          obtain rfl := H.F13 rfl
          obtain ⟨q1, rfl, hz1, hq1⟩ := H.F16 rfl
          have hq2 : Blk w1 q1 51 #[.int .i64 0, .int .i64 0, .bool false] := hq1
          obtain ⟨u0, u1, u2⟩ := hq2.three'
          have g0 := hq2.frozen 0
          have g1 := hq2.frozen 1
          have g2 := hq2.frozen 2
          have hq3 : Blk (((w1.setCell ⟨q1, 0, none⟩ (.int .i64 y2)).setCell ⟨q1, 1, none⟩ (.int .i64 h2)).setCell ⟨q1, 2, none⟩ (.bool t2)) q1 51 #[.int .i64 y2, .int .i64 h2, .bool t2] := hq2.putT
          have hbw : Below va.heap.size va (((w1.setCell ⟨q1, 0, none⟩ (.int .i64 y2)).setCell ⟨q1, 1, none⟩ (.int .i64 h2)).setCell ⟨q1, 2, none⟩ (.bool t2)) := ((H.HS.setCell (p := ⟨q1, 0, none⟩) hz1 _).setCell (p := ⟨q1, 1, none⟩) hz1 _).setCell (p := ⟨q1, 2, none⟩) hz1 _
          clear hq1 c00 c01 c02 c10 c11 c12 c20 c21 c22
          go_simp
          refine hKx.out _ _ ?_
          clear hKx
          refine ⟨⟨_, _, _, _, _, _, _, _, _, _, _, _, _, _, _, _, _, _, _, true⟩, ⟨_, _, _, _, _, _, _, _, _, _, _, _, _, _, _, _, _⟩, rfl, rfl, ?_⟩
          exact ⟨hbw, H.F0, H.F1, H.F2, H.F3, H.F4, H.F5, H.F6, H.F7, H.F8, H.F9, H.F10, H.F11, H.F12, (fun _ => rfl), (H.F14.far (fun h => Ne.symm (H.D2 h rfl)) _ _ _), (H.F15.far (fun h => Ne.symm (H.D3 h rfl)) _ _ _), (fun _ => ⟨q1, rfl, hz1, hq3⟩), H.D1, H.D2, H.D3, H.E17, H.E18, (fun _ => rfl)⟩
      · intro l a w1 hI hr
        have hsz : l.size = 20 := by
          obtain ⟨B, V, rfl, rfl, _⟩ := hI
          rfl
        have hall := ready_nilM hsz (by kernel_rfl) hr
        obtain ⟨⟨b0, b1, b2, b3, b4, b5, b6, b7, b8, b9, b10, b11, b12, b13, b14, b15, b16, b17, b18, b19⟩, ⟨v0, v1, v2, v3, v4, v5, v6, v7, v8, v9, v10, v11, v12, v13, v14, v15, v16⟩, rfl, rfl, H⟩ := hI
        dsimp only at H ⊢
        have hb14 : b14 = true := hall 14 (by decide)
        have hb15 : b15 = true := hall 15 (by decide)
        have hb16 : b16 = true := hall 16 (by decide)
        have hb17 : b17 = true := hall 17 (by decide)
        have hb18 : b18 = true := hall 18 (by decide)
        have hb19 : b19 = true := hall 19 (by decide)
        subst hb14 hb15 hb16 hb17 hb18 hb19
        obtain ⟨q9, rfl, _, hx9⟩ := H.F14 rfl
        obtain ⟨q10, rfl, _, hx10⟩ := H.F15 rfl
        obtain ⟨q11, rfl, _, hx11⟩ := H.F16 rfl
        have X9 : Hid (Blk w1 q9 51 #[.int .i64 y0, .int .i64 h0, .bool t0]) := Lib.hid hx9
        have X10 : Hid (Blk w1 q10 51 #[.int .i64 y1, .int .i64 h1, .bool t1]) := Lib.hid hx10
        have X11 : Hid (Blk w1 q11 51 #[.int .i64 y2, .int .i64 h2, .bool t2]) := Lib.hid hx11
        have HS := Lib.hid H.HS
        clear H hall hr hsz hx9 hx10 hx11
        go_wp2_with fail
        go_meet
        exact ⟨q9, q10, q11, rfl, rfl, rfl, HS, X9, X10, X11⟩
  case rest =>
    as_aux_lemma =>
      obtain ⟨q9, q10, q11, rfl, rfl, rfl, HW, X9, X10, X11⟩ := hcut
      have HWW := Lib.hid (Below.thenn HB.out HW.out HB.out.size)
      clear b0 b1 c00 c01 c02 c10 c11 c12 c20 c21 c22
      have hB := HWW.out
      have XR := Lib.hid (X0.out.below HWW.out X0.out.lt)
      obtain ⟨b0, b1⟩ := XR.out.two'
      obtain ⟨c0, c1, c2⟩ := X9.out.three'
      obtain ⟨d0, d1, d2⟩ := X10.out.three'
      obtain ⟨f0, f1, f2⟩ := X11.out.three'
      have l9 := X9.out.lt
      have l10 := X10.out.lt
      have l11 := X11.out.lt
      have lR := XR.out.lt
      have hzw := HWW.out.size
      go_wp2_with fail
      (refine wp_region_ext (by kernel_rfl) (by kernel_rfl) ?_; have hxe := ext_cells; (repeat (go_big_quiet_step (fail))); refine wpQuiet_nil ?_; intro w' hw'; obtain ⟨nx, hw''⟩ := hw'; have hbx := ext_out hw''; clear hw'' nx hxe; have hB : Below w.heap.size w w' := Below.thenn (by repeat (first | exact Below.refl _ _ | assumption | apply Below.drew | apply below_drewN | (refine Below.alloc ?_ (by first | omega | (simp; done) | (simp; omega)) _) | (refine Below.setCell ?_ (by first | omega | (simp; done) | (simp; omega)) _))) hbx (by first | omega | (simp; done) | (simp; omega)); have hz : w.heap.size ≤ w'.heap.size := hB.size; obtain ⟨hc, hf⟩ := bcell hbx; have X9 := Lib.hid (X9.out.below hbx X9.out.lt); have X10 := Lib.hid (X10.out.below hbx X10.out.lt); have X11 := Lib.hid (X11.out.below hbx X11.out.lt); have XR := Lib.hid (XR.out.below hbx XR.out.lt); clear hbx)
      clear b0 b1 c0 c1 c2 d0 d1 d2 f0 f1 f2 hc hf
      obtain ⟨b0, b1⟩ := XR.out.two'
      obtain ⟨c0, c1, c2⟩ := X9.out.three'
      obtain ⟨d0, d1, d2⟩ := X10.out.three'
      obtain ⟨f0, f1, f2⟩ := X11.out.three'
      go_wp2_with fail
      refine (CL.out _).mono ?_
      rintro e w3 ⟨rfl, hb3⟩
      have B3 := Lib.hid (Below.thenn hB hb3 hB.size)
      clear hb3 hB b0 b1 c0 c1 c2 d0 d1 d2 f0 f1 f2 XR X9 X10 X11
      go_wp2_with fail
      have T3 := Lib.hid (Blk.new w3 115 #[.int .i64 RN, .int .i64 RD])
      have B4 := Lib.hid (B3.out.alloc B3.out.size (.cells #[.int .i64 RN, .int .i64 RD] 115))
      generalize w3.alloc (.cells #[.int .i64 RN, .int .i64 RD] 115) = v5 at *
      generalize w3.heap.size = q5 at *
      obtain ⟨s0, s1⟩ := T3.out.two'
      have l5 := T3.out.lt
      have hz5 := B4.out.size
      have hB := B4.out
      (refine wp_region_ext (by kernel_rfl) (by kernel_rfl) ?_; have hxe := ext_cells; (repeat (go_big_quiet_step (fail))); refine wpQuiet_nil ?_; intro w' hw'; obtain ⟨nx, hw''⟩ := hw'; have hbx := ext_out hw''; clear hw'' nx hxe; have hB : Below w.heap.size w w' := Below.thenn (by repeat (first | exact Below.refl _ _ | assumption | apply Below.drew | apply below_drewN | (refine Below.alloc ?_ (by first | omega | (simp; done) | (simp; omega)) _) | (refine Below.setCell ?_ (by first | omega | (simp; done) | (simp; omega)) _))) hbx (by first | omega | (simp; done) | (simp; omega)); have hz : w.heap.size ≤ w'.heap.size := hB.size; obtain ⟨hc, hf⟩ := bcell hbx; clear hbx)
      go_wp2_with fail
      go_ret3
      exact ⟨rfl, by show Below wo.heap.size wo _; rw [HQ.out]; exact Below.thenn HWV.out hB (by omega)⟩
end Go.Proofs.Ytjfmicemnoglkaa
namespace Go.Proofs.Ytjfmicemnoglkaa
open Go.RowKit
set_option linter.unusedVariables false
set_option linter.unusedSimpArgs false
structure BsS where
  b0 : Bool
  b1 : Bool
  b2 : Bool
  b3 : Bool
  b4 : Bool
  b5 : Bool
  b6 : Bool
  b7 : Bool
  b8 : Bool
  b9 : Bool
  b10 : Bool
  b11 : Bool
  b12 : Bool
  b13 : Bool
  b14 : Bool
  b15 : Bool
  b16 : Bool
  b17 : Bool
  b18 : Bool
  b19 : Bool
structure VsS where
  v0 : Value
  v1 : Value
  v2 : Value
  v3 : Value
  v4 : Value
  v5 : Value
  v6 : Value
  v7 : Value
  v8 : Value
  v9 : Value
  v10 : Value
  v11 : Value
  v12 : Value
  v13 : Value
  v14 : Value
  v15 : Value
  v16 : Value
structure TFS (va : World) (z0 b off n c k q0 : Nat) (s x p y0 y1 y2 h0 h1 h2 : Int) (t0 t1 t2 : Bool) (b0 b1 b2 b3 b4 b5 b6 b7 b8 b9 b10 b11 b12 b13 b14 b15 b16 b17 b18 b19 : Bool) (v0 v1 v2 v3 v4 v5 v6 v7 v8 v9 v10 v11 v12 v13 v14 v15 v16 : Value) (w : World) : Prop where
  HS : Below z0 va w
  F0 : b0 = true → v3 = .slice (some ⟨b, off, none⟩) n c
  F1 : b1 = true → v4 = .int .i64 s
  F2 : b2 = true → v5 = .int .i64 (s - 1)
  F3 : b3 = true → v6 = .pointer (some ⟨b, off + (k - 1) * 3, none⟩)
  F4 : b4 = true → v7 = .agg #[.int .i64 y0, .int .i64 h0, .bool t0]
  F5 : b5 = true → v8 = .slice (some ⟨b, off, none⟩) n c
  F6 : b6 = true → v9 = .int .i64 s
  F7 : b7 = true → v10 = .pointer (some ⟨b, off + k * 3, none⟩)
  F8 : b8 = true → v11 = .agg #[.int .i64 y1, .int .i64 h1, .bool t1]
  F9 : b9 = true → v12 = .slice (some ⟨b, off, none⟩) n c
  F10 : b10 = true → v13 = .int .i64 s
  F11 : b11 = true → v14 = .int .i64 (s + 1)
  F12 : b12 = true → v15 = .pointer (some ⟨b, off + (k + 1) * 3, none⟩)
  F13 : b13 = true → v16 = .agg #[.int .i64 y2, .int .i64 h2, .bool t2]
  F14 : FT z0 b14 b17 v0 w y0 h0 t0
  F15 : FT z0 b15 b18 v1 w y1 h1 t1
  F16 : FT z0 b16 b19 v2 w y2 h2 t2
  D1 : b14 = true → b15 = true → v0 ≠ v1
  D2 : b14 = true → b16 = true → v0 ≠ v2
  D3 : b15 = true → b16 = true → v1 ≠ v2
  E17 : b17 = true → (b14 && (b15 && b16)) = true
  E18 : b18 = true → b17 = true
  E19 : b19 = true → b18 = true
def TIS (va : World) (z0 b off n c k q0 : Nat) (s x p y0 y1 y2 h0 h1 h2 : Int) (t0 t1 t2 : Bool) (l : Array Bool) (a : Act) (w : World) : Prop :=
  ∃ (B : BsS) (V : VsS), l = #[B.b0, B.b1, B.b2, B.b3, B.b4, B.b5, B.b6, B.b7, B.b8, B.b9, B.b10, B.b11, B.b12, B.b13, B.b14, B.b15, B.b16, B.b17, B.b18, B.b19] ∧ a = ⟨(.slice (some ⟨b, off, none⟩) n c :: .agg #[.int .i64 x, .int .i64 p] :: .int .i64 s :: undef :: .pointer (some ⟨q0, 0, none⟩) :: undef :: .int .i64 0 :: .int .i64 0 :: .bool false :: V.v0 :: V.v1 :: V.v2 :: undef :: undef :: undef :: undef :: .slice (some ⟨b, off, none⟩) n c :: .agg #[.int .i64 x, .int .i64 p] :: .bool true :: .bool false :: .bool false :: .int .i64 s :: .slice (some ⟨b, off, none⟩) n c :: .int .i64 (n : Int) :: .int .i64 ((n : Int) - 2) :: .bool true :: .bool false :: .bool false :: V.v3 :: V.v4 :: V.v5 :: V.v6 :: V.v7 :: V.v8 :: V.v9 :: V.v10 :: V.v11 :: V.v12 :: V.v13 :: V.v14 :: V.v15 :: V.v16 :: undef :: undef :: undef :: undef :: undef :: undef :: undef :: undef :: undef :: undef :: undef :: undef :: undef :: undef :: undef :: undef :: undef :: undef :: undef :: undef :: undef :: undef :: undef :: undef :: undef :: undef :: undef :: undef :: undef :: undef :: undef :: undef :: undef :: undef :: undef :: undef :: undef :: undef :: undef :: undef :: undef :: undef :: undef :: undef :: undef :: undef :: undef :: undef :: undef :: undef :: undef :: undef :: undef :: undef :: undef :: undef :: undef :: []).toArray, []⟩ ∧
    TFS va z0 b off n c k q0 s x p y0 y1 y2 h0 h1 h2 t0 t1 t2 B.b0 B.b1 B.b2 B.b3 B.b4 B.b5 B.b6 B.b7 B.b8 B.b9 B.b10 B.b11 B.b12 B.b13 B.b14 B.b15 B.b16 B.b17 B.b18 B.b19 V.v0 V.v1 V.v2 V.v3 V.v4 V.v5 V.v6 V.v7 V.v8 V.v9 V.v10 V.v11 V.v12 V.v13 V.v14 V.v15 V.v16 w
set_option maxRecDepth 100000 in
set_option maxHeartbeats 8000000 in
theorem tower_S (b off n c k : Nat) (s x p y0 y1 y2 h0 h1 h2 : Int) (t0 t1 t2 : Bool) (wo : World) (hk1 : 1 ≤ k) (hk2 : k + 1 < n) (hn : n ≤ 1048577) (hs : s = (k : Int)) (hb : b < wo.heap.size)
    (c00 : wo.cell? ⟨b, off + (k - 1) * 3, none⟩ = some (.int .i64 y0)) (c01 : wo.cell? ⟨b, off + (k - 1) * 3 + 1, none⟩ = some (.int .i64 h0)) (c02 : wo.cell? ⟨b, off + (k - 1) * 3 + 2, none⟩ = some (.bool t0)) (c10 : wo.cell? ⟨b, off + k * 3, none⟩ = some (.int .i64 y1)) (c11 : wo.cell? ⟨b, off + k * 3 + 1, none⟩ = some (.int .i64 h1)) (c12 : wo.cell? ⟨b, off + k * 3 + 2, none⟩ = some (.bool t1)) (c20 : wo.cell? ⟨b, off + (k + 1) * 3, none⟩ = some (.int .i64 y2)) (c21 : wo.cell? ⟨b, off + (k + 1) * 3 + 1, none⟩ = some (.int .i64 h2)) (c22 : wo.cell? ⟨b, off + (k + 1) * 3 + 2, none⟩ = some (.bool t2))
    (K : TwAt x p h0 h1 h2 (y1 - y0) (y2 - y1))
    (CI : Hid (∀ w', Below wo.heap.size wo w' → Calls Try.prog 101 #[.slice (some ⟨b, off, none⟩) n c, .agg #[.int .i64 x, .int .i64 p], .int .i64 0] w' (Ret w' (.bool true)))) :
    Calls Try.prog 51 #[.slice (some ⟨b, off, none⟩) n c, .agg #[.int .i64 x, .int .i64 p], .int .i64 s] wo (Ret wo (.tuple #[.int .i64 (redN (2 * p * twV h0 h1 h2 (y1 - y0) (y2 - y1) + x * ((y1 - y0) + (y2 - y1)) * (y1 - y0) * (y2 - y1)) (2 * p * (y1 - y0) * (y2 - y1))), .int .i64 (redD (2 * p * twV h0 h1 h2 (y1 - y0) (y2 - y1) + x * ((y1 - y0) + (y2 - y1)) * (y1 - y0) * (y2 - y1)) (2 * p * (y1 - y0) * (y2 - y1))), .bool true])) := by
  have hin : inr s 1 ((n : Int) - 2) = true := by unfold inr; exact decide_eq_true (by omega)
  have u1 : IntKind.i64.wrap ((n : Int) - 2) = (n : Int) - 2 := IntWalk.i64_in _ (by omega)
  have u2 : IntKind.i64.wrap (s - 1) = s - 1 := IntWalk.i64_in _ (by omega)
  have u3 : IntKind.i64.wrap (s + 1) = s + 1 := IntWalk.i64_in _ (by omega)
  have k0 : 0 ≤ s - 1 ∧ s - 1 < (n : Int) := by omega
  have k1 : 0 ≤ s ∧ s < (n : Int) := by omega
  have k2 : 0 ≤ s + 1 ∧ s + 1 < (n : Int) := by omega
  have kk0 : (s - 1).toNat = k - 1 := by omega
  have kk1 : s.toNat = k := by omega
  have kk2 : (s + 1).toNat = k + 1 := by omega
  have cw := Lib.hid (fun w' => hin ▸ spec_l1In s 1 ((n : Int) - 2) w')
  have BD := K.bd
  have BD2 := K.bd2
  have T2 := tw_two K
  have wX : IntKind.i64.wrap (y1 - y0) = y1 - y0 := IntWalk.i64_in _ (by have := K.X; omega)
  have wY : IntKind.i64.wrap (y2 - y1) = y2 - y1 := IntWalk.i64_in _ (by have := K.Y; omega)
  have g0 := K.h0
  have g1 := K.h1
  have g2 := K.h2
  have gx := K.X
  have gy := K.Y
  have gp := K.p
  have gw := K.w
  clear K hs hin
  obtain ⟨X, hX⟩ : ∃ X, y1 - y0 = X := ⟨_, rfl⟩
  obtain ⟨Y, hY⟩ : ∃ Y, y2 - y1 = Y := ⟨_, rfl⟩
  rw [hX] at wX gx
  rw [hY] at wY gy
  simp only [hX, hY] at BD BD2 T2 ⊢
  have wX : IntKind.i64.wrap (y1 - y0) = X := by rw [hX]; exact wX
  have wY : IntKind.i64.wrap (y2 - y1) = Y := by rw [hY]; exact wY
  clear hX hY
  have wh1 : IntKind.i64.wrap (h1 - h0) = h1 - h0 := IntWalk.i64_in _ (by omega)
  have wh2 : IntKind.i64.wrap (h2 - h1) = h2 - h1 := IntWalk.i64_in _ (by omega)
  obtain ⟨d1, d2, d3, d4, d5, d6, d7, d8, d9, d10⟩ := BD
  have wA : IntKind.i64.wrap ((h1 - h0) * Y) = (h1 - h0) * Y := IntWalk.i64_in _ (by omega)
  have wB : IntKind.i64.wrap ((h2 - h1) * X) = (h2 - h1) * X := IntWalk.i64_in _ (by omega)
  have wU : IntKind.i64.wrap ((h1 - h0) * Y - (h2 - h1) * X) = twV h0 h1 h2 X Y := IntWalk.i64_in _ (by unfold twV at d3; omega)
  have wS : IntKind.i64.wrap (X + Y) = X + Y := IntWalk.i64_in _ (by omega)
  have wx1 : IntKind.i64.wrap (x * (X + Y)) = x * (X + Y) := IntWalk.i64_in _ (by omega)
  rw [T2.1, T2.2]
  obtain ⟨e1, e2, e3, e4, e5, e6⟩ := BD2
  have CL := Lib.hid (fun w' => (spec_l2Reduce (twV h0 h1 h2 X Y) (X * Y) w' (by omega) (by omega)).mono (fun _ _ hq => hq.ret))
  have CM := Lib.hid (fun w' => (spec_l2Reduce (twE x p (twV h0 h1 h2 X Y) X Y) (twF p (twV h0 h1 h2 X Y) X Y) w' (by omega) (by omega)).mono (fun _ _ hq => hq.ret))
  have wXY : IntKind.i64.wrap (X * Y) = X * Y := IntWalk.i64_in _ (by omega)
  have wn1 : IntKind.i64.wrap (redN (twV h0 h1 h2 X Y) (X * Y) * 2) = redN (twV h0 h1 h2 X Y) (X * Y) * 2 := IntWalk.i64_in _ (by omega)
  have wn2 : IntKind.i64.wrap (redN (twV h0 h1 h2 X Y) (X * Y) * 2 * p) = redN (twV h0 h1 h2 X Y) (X * Y) * 2 * p := IntWalk.i64_in _ (by omega)
  have wn3 : IntKind.i64.wrap (x * (X + Y) * redD (twV h0 h1 h2 X Y) (X * Y)) = x * (X + Y) * redD (twV h0 h1 h2 X Y) (X * Y) := IntWalk.i64_in _ (by omega)
  have wn4 : IntKind.i64.wrap (redN (twV h0 h1 h2 X Y) (X * Y) * 2 * p + x * (X + Y) * redD (twV h0 h1 h2 X Y) (X * Y)) = twE x p (twV h0 h1 h2 X Y) X Y := IntWalk.i64_in _ (show _ ≤ twE x p (twV h0 h1 h2 X Y) X Y ∧ twE x p (twV h0 h1 h2 X Y) X Y ≤ _ by omega)
  have wd1 : IntKind.i64.wrap (redD (twV h0 h1 h2 X Y) (X * Y) * 2) = redD (twV h0 h1 h2 X Y) (X * Y) * 2 := IntWalk.i64_in _ (by omega)
  have wd2 : IntKind.i64.wrap (redD (twV h0 h1 h2 X Y) (X * Y) * 2 * p) = twF p (twV h0 h1 h2 X Y) X Y := IntWalk.i64_in _ (show _ ≤ twF p (twV h0 h1 h2 X Y) X Y ∧ twF p (twV h0 h1 h2 X Y) X Y ≤ _ by omega)
  clear T2 d1 d2 d3 d4 d5 d6 d7 d8 d9 d10 g0 g1 g2 gx gy gp gw e1 e2 e3 e4 e5 e6
  generalize redN (twE x p (twV h0 h1 h2 X Y) X Y) (twF p (twV h0 h1 h2 X Y) X Y) = RN at *
  generalize redD (twE x p (twV h0 h1 h2 X Y) X Y) (twF p (twV h0 h1 h2 X Y) X Y) = RD at *
  generalize twE x p (twV h0 h1 h2 X Y) X Y = ME at *
  generalize twF p (twV h0 h1 h2 X Y) X Y = MF at *
  generalize redN (twV h0 h1 h2 X Y) (X * Y) = rn at *
  generalize redD (twV h0 h1 h2 X Y) (X * Y) = rd at *
  generalize twV h0 h1 h2 X Y = U at *
  go_enter Try.func51, Try.ntmps51
  go_wp2_with fail
  have hWV : Below wo.heap.size wo (wo.alloc (.cells #[.int .i64 x, .int .i64 p] 26)) := (Below.refl _ _).alloc (Nat.le_refl _) _
  have X0 := Lib.hid (Blk.new wo 26 #[.int .i64 x, .int .i64 p])
  obtain ⟨b0, b1⟩ := X0.out.two'
  generalize hq0 : wo.heap.size = q0 at *
  have HQ := Lib.hid hq0
  clear hq0
  generalize wo.alloc (.cells #[.int .i64 x, .int .i64 p] 26) = w at *
  have HWV := Lib.hid hWV
  have hVV : q0 < w.heap.size := X0.out.lt
  have hB : Below w.heap.size w w := Below.refl _ _
  clear hWV
  go_upto_region 3 with (first | (go_at_call 101; refine (CI.out _ (Below.thenn HWV.out (show Below w.heap.size w _ from (by repeat (first | exact Below.refl _ _ | assumption | apply Below.drew | apply below_drewN | (refine Below.alloc ?_ (by first | omega | (simp; done) | (simp; omega)) _) | (refine Below.setCell ?_ (by first | omega | (simp; done) | (simp; omega)) _)))) (Nat.le_of_lt hVV))).mono ?_; rintro e w' ⟨rfl, hb⟩; have hB : Below w.heap.size w w' := Below.thenn (by repeat (first | exact Below.refl _ _ | assumption | apply Below.drew | apply below_drewN | (refine Below.alloc ?_ (by first | omega | (simp; done) | (simp; omega)) _) | (refine Below.setCell ?_ (by first | omega | (simp; done) | (simp; omega)) _))) hb (by first | omega | (simp; done) | (simp; omega)); have hz : w.heap.size ≤ w'.heap.size := hB.size; (try (have hz1 : w.heap.size + 1 ≤ w'.heap.size := (by have h := hb.size; (try simp at h); omega))); obtain ⟨hc, hf⟩ := bcell hb; have b0 := (X0.out.below hB X0.out.lt).two'.1; have b1 := (X0.out.below hB X0.out.lt).two'.2; clear hb) | (go_at_call 102; refine (cw.out _).mono ?_; rintro e w' ⟨rfl, rfl⟩))
  have HB := Lib.hid hB
  have hz0 : q0 < w'.heap.size := by omega
  have hbz : b < w'.heap.size := by omega
  have c00 := (Below.thenn HWV.out hB (by omega)).cell (p := ⟨b, _, none⟩) hb |>.trans c00
  have c01 := (Below.thenn HWV.out hB (by omega)).cell (p := ⟨b, _, none⟩) hb |>.trans c01
  have c02 := (Below.thenn HWV.out hB (by omega)).cell (p := ⟨b, _, none⟩) hb |>.trans c02
  have c10 := (Below.thenn HWV.out hB (by omega)).cell (p := ⟨b, _, none⟩) hb |>.trans c10
  have c11 := (Below.thenn HWV.out hB (by omega)).cell (p := ⟨b, _, none⟩) hb |>.trans c11
  have c12 := (Below.thenn HWV.out hB (by omega)).cell (p := ⟨b, _, none⟩) hb |>.trans c12
  have c20 := (Below.thenn HWV.out hB (by omega)).cell (p := ⟨b, _, none⟩) hb |>.trans c20
  have c21 := (Below.thenn HWV.out hB (by omega)).cell (p := ⟨b, _, none⟩) hb |>.trans c21
  have c22 := (Below.thenn HWV.out hB (by omega)).cell (p := ⟨b, _, none⟩) hb |>.trans c22
  clear hc hf hB
  generalize w' = va at *
  go_cut [9, 10, 11] (fun s9 s10 s11 wx => ∃ q9 q10 q11 : Nat, s9 = .pointer (some ⟨q9, 0, none⟩) ∧ s10 = .pointer (some ⟨q10, 0, none⟩) ∧ s11 = .pointer (some ⟨q11, 0, none⟩) ∧ Hid (Below va.heap.size va wx) ∧ Hid (Blk wx q9 51 #[.int .i64 y0, .int .i64 h0, .bool t0]) ∧ Hid (Blk wx q10 51 #[.int .i64 y1, .int .i64 h1, .bool t1]) ∧ Hid (Blk wx q11 51 #[.int .i64 y2, .int .i64 h2, .bool t2]))
  case first =>
    · skip
      refine wp_region_inv (I := TIS va va.heap.size b off n c k q0 s x p y0 y1 y2 h0 h1 h2 t0 t1 t2) (by kernel_rfl) ?_ ?_ ?_ ?_
      · rintro l a w1 ⟨B, V, rfl, rfl, _⟩
        rfl
      · exact ⟨⟨false, false, false, false, false, false, false, false, false, false, false, false, false, false, false, false, false, false, false, false⟩, ⟨undef, undef, undef, undef, undef, undef, undef, undef, undef, undef, undef, undef, undef, undef, undef, undef, undef⟩, rfl, rfl, ⟨(Below.refl _ _).drew, (fun h => by cases h), (fun h => by cases h), (fun h => by cases h), (fun h => by cases h), (fun h => by cases h), (fun h => by cases h), (fun h => by cases h), (fun h => by cases h), (fun h => by cases h), (fun h => by cases h), (fun h => by cases h), (fun h => by cases h), (fun h => by cases h), (fun h => by cases h), (fun h => by cases h), (fun h => by cases h), (fun h => by cases h), (fun h => by cases h), (fun h => by cases h), (fun h => by cases h), (fun h => by cases h), (fun h => by cases h), (fun h => by cases h)⟩⟩
      · intro Q'
        refine ⟨⟨rfl, ?_⟩, ⟨rfl, ?_⟩, ⟨rfl, ?_⟩, ⟨rfl, ?_⟩, ⟨rfl, ?_⟩, ⟨rfl, ?_⟩, ⟨rfl, ?_⟩, ⟨rfl, ?_⟩, ⟨rfl, ?_⟩, ⟨rfl, ?_⟩, ⟨rfl, ?_⟩, ⟨rfl, ?_⟩, ⟨rfl, ?_⟩, ⟨rfl, ?_⟩, ⟨rfl, ?_⟩, ⟨rfl, ?_⟩, ⟨rfl, ?_⟩, ⟨rfl, ?_⟩, ⟨rfl, ?_⟩, ⟨rfl, ?_⟩, trivial⟩
        · intro l a w1 hI hi hd Kx hKx
          obtain ⟨⟨b0, b1, b2, b3, b4, b5, b6, b7, b8, b9, b10, b11, b12, b13, b14, b15, b16, b17, b18, b19⟩, ⟨v0, v1, v2, v3, v4, v5, v6, v7, v8, v9, v10, v11, v12, v13, v14, v15, v16⟩, rfl, rfl, H⟩ := hI
          dsimp only at H ⊢
          have hbi : b0 = false := hi
          subst hbi
          clear hd
          clear c00 c01 c02 c10 c11 c12 c20 c21 c22
          go_simp
          refine hKx.out _ _ ?_
          clear hKx
          refine ⟨⟨true, _, _, _, _, _, _, _, _, _, _, _, _, _, _, _, _, _, _, _⟩, ⟨_, _, _, _, _, _, _, _, _, _, _, _, _, _, _, _, _⟩, rfl, rfl, ?_⟩
          exact ⟨H.HS, (fun _ => rfl), H.F1, H.F2, H.F3, H.F4, H.F5, H.F6, H.F7, H.F8, H.F9, H.F10, H.F11, H.F12, H.F13, H.F14, H.F15, H.F16, H.D1, H.D2, H.D3, H.E17, H.E18, H.E19⟩
        · intro l a w1 hI hi hd Kx hKx
          obtain ⟨⟨b0, b1, b2, b3, b4, b5, b6, b7, b8, b9, b10, b11, b12, b13, b14, b15, b16, b17, b18, b19⟩, ⟨v0, v1, v2, v3, v4, v5, v6, v7, v8, v9, v10, v11, v12, v13, v14, v15, v16⟩, rfl, rfl, H⟩ := hI
          dsimp only at H ⊢
          have hbi : b1 = false := hi
          subst hbi
          clear hd
          clear c00 c01 c02 c10 c11 c12 c20 c21 c22
          go_simp
          refine hKx.out _ _ ?_
          clear hKx
          refine ⟨⟨_, true, _, _, _, _, _, _, _, _, _, _, _, _, _, _, _, _, _, _⟩, ⟨_, _, _, _, _, _, _, _, _, _, _, _, _, _, _, _, _⟩, rfl, rfl, ?_⟩
          exact ⟨H.HS, H.F0, (fun _ => rfl), H.F2, H.F3, H.F4, H.F5, H.F6, H.F7, H.F8, H.F9, H.F10, H.F11, H.F12, H.F13, H.F14, H.F15, H.F16, H.D1, H.D2, H.D3, H.E17, H.E18, H.E19⟩
        · intro l a w1 hI hi hd Kx hKx
          obtain ⟨⟨b0, b1, b2, b3, b4, b5, b6, b7, b8, b9, b10, b11, b12, b13, b14, b15, b16, b17, b18, b19⟩, ⟨v0, v1, v2, v3, v4, v5, v6, v7, v8, v9, v10, v11, v12, v13, v14, v15, v16⟩, rfl, rfl, H⟩ := hI
          dsimp only at H ⊢
          have hbi : b2 = false := hi
          subst hbi
          have hb1 : b1 = true := hd ⟨1, .data⟩ (by simp) rfl
          clear hd
          subst hb1
          obtain rfl := H.F1 rfl
          clear c00 c01 c02 c10 c11 c12 c20 c21 c22
          go_simp
          refine hKx.out _ _ ?_
          clear hKx
          refine ⟨⟨_, _, true, _, _, _, _, _, _, _, _, _, _, _, _, _, _, _, _, _⟩, ⟨_, _, _, _, _, _, _, _, _, _, _, _, _, _, _, _, _⟩, rfl, rfl, ?_⟩
          exact ⟨H.HS, H.F0, H.F1, (fun _ => rfl), H.F3, H.F4, H.F5, H.F6, H.F7, H.F8, H.F9, H.F10, H.F11, H.F12, H.F13, H.F14, H.F15, H.F16, H.D1, H.D2, H.D3, H.E17, H.E18, H.E19⟩
        · intro l a w1 hI hi hd Kx hKx
          obtain ⟨⟨b0, b1, b2, b3, b4, b5, b6, b7, b8, b9, b10, b11, b12, b13, b14, b15, b16, b17, b18, b19⟩, ⟨v0, v1, v2, v3, v4, v5, v6, v7, v8, v9, v10, v11, v12, v13, v14, v15, v16⟩, rfl, rfl, H⟩ := hI
          dsimp only at H ⊢
          have hbi : b3 = false := hi
          subst hbi
          have hb0 : b0 = true := hd ⟨0, .data⟩ (by simp) rfl
          have hb2 : b2 = true := hd ⟨2, .data⟩ (by simp) rfl
          clear hd
          subst hb0 hb2
          obtain rfl := H.F0 rfl
          obtain rfl := H.F2 rfl
          clear c00 c01 c02 c10 c11 c12 c20 c21 c22
          obtain ⟨r0, r1⟩ := k0
          have r2 : 1 ≤ s := by omega
          go_simp
          refine hKx.out _ _ ?_
          clear hKx
          refine ⟨⟨_, _, _, true, _, _, _, _, _, _, _, _, _, _, _, _, _, _, _, _⟩, ⟨_, _, _, _, _, _, _, _, _, _, _, _, _, _, _, _, _⟩, rfl, rfl, ?_⟩
          exact ⟨H.HS, H.F0, H.F1, H.F2, (fun _ => rfl), H.F4, H.F5, H.F6, H.F7, H.F8, H.F9, H.F10, H.F11, H.F12, H.F13, H.F14, H.F15, H.F16, H.D1, H.D2, H.D3, H.E17, H.E18, H.E19⟩
        · intro l a w1 hI hi hd Kx hKx
          obtain ⟨⟨b0, b1, b2, b3, b4, b5, b6, b7, b8, b9, b10, b11, b12, b13, b14, b15, b16, b17, b18, b19⟩, ⟨v0, v1, v2, v3, v4, v5, v6, v7, v8, v9, v10, v11, v12, v13, v14, v15, v16⟩, rfl, rfl, H⟩ := hI
          dsimp only at H ⊢
          have hbi : b4 = false := hi
          subst hbi
          have hb3 : b3 = true := hd ⟨3, .data⟩ (by simp) rfl
          clear hd
          subst hb3
          obtain rfl := H.F3 rfl
          have e0 := (H.HS.cell (p := ⟨b, _, none⟩) hbz).trans c00
          have e1 := (H.HS.cell (p := ⟨b, _, none⟩) hbz).trans c01
          have e2 := (H.HS.cell (p := ⟨b, _, none⟩) hbz).trans c02
          clear c00 c01 c02 c10 c11 c12 c20 c21 c22
          go_simp
          refine hKx.out _ _ ?_
          clear hKx
          refine ⟨⟨_, _, _, _, true, _, _, _, _, _, _, _, _, _, _, _, _, _, _, _⟩, ⟨_, _, _, _, _, _, _, _, _, _, _, _, _, _, _, _, _⟩, rfl, rfl, ?_⟩
          exact ⟨H.HS, H.F0, H.F1, H.F2, H.F3, (fun _ => rfl), H.F5, H.F6, H.F7, H.F8, H.F9, H.F10, H.F11, H.F12, H.F13, H.F14, H.F15, H.F16, H.D1, H.D2, H.D3, H.E17, H.E18, H.E19⟩
        · intro l a w1 hI hi hd Kx hKx
          obtain ⟨⟨b0, b1, b2, b3, b4, b5, b6, b7, b8, b9, b10, b11, b12, b13, b14, b15, b16, b17, b18, b19⟩, ⟨v0, v1, v2, v3, v4, v5, v6, v7, v8, v9, v10, v11, v12, v13, v14, v15, v16⟩, rfl, rfl, H⟩ := hI
          dsimp only at H ⊢
          have hbi : b5 = false := hi
          subst hbi
          clear hd
          clear c00 c01 c02 c10 c11 c12 c20 c21 c22
          go_simp
          refine hKx.out _ _ ?_
          clear hKx
          refine ⟨⟨_, _, _, _, _, true, _, _, _, _, _, _, _, _, _, _, _, _, _, _⟩, ⟨_, _, _, _, _, _, _, _, _, _, _, _, _, _, _, _, _⟩, rfl, rfl, ?_⟩
          exact ⟨H.HS, H.F0, H.F1, H.F2, H.F3, H.F4, (fun _ => rfl), H.F6, H.F7, H.F8, H.F9, H.F10, H.F11, H.F12, H.F13, H.F14, H.F15, H.F16, H.D1, H.D2, H.D3, H.E17, H.E18, H.E19⟩
        · intro l a w1 hI hi hd Kx hKx
          obtain ⟨⟨b0, b1, b2, b3, b4, b5, b6, b7, b8, b9, b10, b11, b12, b13, b14, b15, b16, b17, b18, b19⟩, ⟨v0, v1, v2, v3, v4, v5, v6, v7, v8, v9, v10, v11, v12, v13, v14, v15, v16⟩, rfl, rfl, H⟩ := hI
          dsimp only at H ⊢
          have hbi : b6 = false := hi
          subst hbi
          clear hd
          clear c00 c01 c02 c10 c11 c12 c20 c21 c22
          go_simp
          refine hKx.out _ _ ?_
          clear hKx
          refine ⟨⟨_, _, _, _, _, _, true, _, _, _, _, _, _, _, _, _, _, _, _, _⟩, ⟨_, _, _, _, _, _, _, _, _, _, _, _, _, _, _, _, _⟩, rfl, rfl, ?_⟩
          exact ⟨H.HS, H.F0, H.F1, H.F2, H.F3, H.F4, H.F5, (fun _ => rfl), H.F7, H.F8, H.F9, H.F10, H.F11, H.F12, H.F13, H.F14, H.F15, H.F16, H.D1, H.D2, H.D3, H.E17, H.E18, H.E19⟩
        · intro l a w1 hI hi hd Kx hKx
          obtain ⟨⟨b0, b1, b2, b3, b4, b5, b6, b7, b8, b9, b10, b11, b12, b13, b14, b15, b16, b17, b18, b19⟩, ⟨v0, v1, v2, v3, v4, v5, v6, v7, v8, v9, v10, v11, v12, v13, v14, v15, v16⟩, rfl, rfl, H⟩ := hI
          dsimp only at H ⊢
          have hbi : b7 = false := hi
          subst hbi
          have hb5 : b5 = true := hd ⟨5, .data⟩ (by simp) rfl
          have hb6 : b6 = true := hd ⟨6, .data⟩ (by simp) rfl
          clear hd
          subst hb5 hb6
          obtain rfl := H.F5 rfl
          obtain rfl := H.F6 rfl
          clear c00 c01 c02 c10 c11 c12 c20 c21 c22
          obtain ⟨r0, r1⟩ := k1
          go_simp
          refine hKx.out _ _ ?_
          clear hKx
          refine ⟨⟨_, _, _, _, _, _, _, true, _, _, _, _, _, _, _, _, _, _, _, _⟩, ⟨_, _, _, _, _, _, _, _, _, _, _, _, _, _, _, _, _⟩, rfl, rfl, ?_⟩
          exact ⟨H.HS, H.F0, H.F1, H.F2, H.F3, H.F4, H.F5, H.F6, (fun _ => rfl), H.F8, H.F9, H.F10, H.F11, H.F12, H.F13, H.F14, H.F15, H.F16, H.D1, H.D2, H.D3, H.E17, H.E18, H.E19⟩
        · intro l a w1 hI hi hd Kx hKx
          obtain ⟨⟨b0, b1, b2, b3, b4, b5, b6, b7, b8, b9, b10, b11, b12, b13, b14, b15, b16, b17, b18, b19⟩, ⟨v0, v1, v2, v3, v4, v5, v6, v7, v8, v9, v10, v11, v12, v13, v14, v15, v16⟩, rfl, rfl, H⟩ := hI
          dsimp only at H ⊢
          have hbi : b8 = false := hi
          subst hbi
          have hb7 : b7 = true := hd ⟨7, .data⟩ (by simp) rfl
          clear hd
          subst hb7
          obtain rfl := H.F7 rfl
          have e0 := (H.HS.cell (p := ⟨b, _, none⟩) hbz).trans c10
          have e1 := (H.HS.cell (p := ⟨b, _, none⟩) hbz).trans c11
          have e2 := (H.HS.cell (p := ⟨b, _, none⟩) hbz).trans c12
          clear c00 c01 c02 c10 c11 c12 c20 c21 c22
          go_simp
          refine hKx.out _ _ ?_
          clear hKx
          refine ⟨⟨_, _, _, _, _, _, _, _, true, _, _, _, _, _, _, _, _, _, _, _⟩, ⟨_, _, _, _, _, _, _, _, _, _, _, _, _, _, _, _, _⟩, rfl, rfl, ?_⟩
          exact ⟨H.HS, H.F0, H.F1, H.F2, H.F3, H.F4, H.F5, H.F6, H.F7, (fun _ => rfl), H.F9, H.F10, H.F11, H.F12, H.F13, H.F14, H.F15, H.F16, H.D1, H.D2, H.D3, H.E17, H.E18, H.E19⟩
        · intro l a w1 hI hi hd Kx hKx
          obtain ⟨⟨b0, b1, b2, b3, b4, b5, b6, b7, b8, b9, b10, b11, b12, b13, b14, b15, b16, b17, b18, b19⟩, ⟨v0, v1, v2, v3, v4, v5, v6, v7, v8, v9, v10, v11, v12, v13, v14, v15, v16⟩, rfl, rfl, H⟩ := hI
          dsimp only at H ⊢
          have hbi : b9 = false := hi
          subst hbi
          clear hd
          clear c00 c01 c02 c10 c11 c12 c20 c21 c22
          go_simp
          refine hKx.out _ _ ?_
          clear hKx
          refine ⟨⟨_, _, _, _, _, _, _, _, _, true, _, _, _, _, _, _, _, _, _, _⟩, ⟨_, _, _, _, _, _, _, _, _, _, _, _, _, _, _, _, _⟩, rfl, rfl, ?_⟩
          exact ⟨H.HS, H.F0, H.F1, H.F2, H.F3, H.F4, H.F5, H.F6, H.F7, H.F8, (fun _ => rfl), H.F10, H.F11, H.F12, H.F13, H.F14, H.F15, H.F16, H.D1, H.D2, H.D3, H.E17, H.E18, H.E19⟩
        · intro l a w1 hI hi hd Kx hKx
          obtain ⟨⟨b0, b1, b2, b3, b4, b5, b6, b7, b8, b9, b10, b11, b12, b13, b14, b15, b16, b17, b18, b19⟩, ⟨v0, v1, v2, v3, v4, v5, v6, v7, v8, v9, v10, v11, v12, v13, v14, v15, v16⟩, rfl, rfl, H⟩ := hI
          dsimp only at H ⊢
          have hbi : b10 = false := hi
          subst hbi
          clear hd
          clear c00 c01 c02 c10 c11 c12 c20 c21 c22
          go_simp
          refine hKx.out _ _ ?_
          clear hKx
          refine ⟨⟨_, _, _, _, _, _, _, _, _, _, true, _, _, _, _, _, _, _, _, _⟩, ⟨_, _, _, _, _, _, _, _, _, _, _, _, _, _, _, _, _⟩, rfl, rfl, ?_⟩
          exact ⟨H.HS, H.F0, H.F1, H.F2, H.F3, H.F4, H.F5, H.F6, H.F7, H.F8, H.F9, (fun _ => rfl), H.F11, H.F12, H.F13, H.F14, H.F15, H.F16, H.D1, H.D2, H.D3, H.E17, H.E18, H.E19⟩
        · intro l a w1 hI hi hd Kx hKx
          obtain ⟨⟨b0, b1, b2, b3, b4, b5, b6, b7, b8, b9, b10, b11, b12, b13, b14, b15, b16, b17, b18, b19⟩, ⟨v0, v1, v2, v3, v4, v5, v6, v7, v8, v9, v10, v11, v12, v13, v14, v15, v16⟩, rfl, rfl, H⟩ := hI
          dsimp only at H ⊢
          have hbi : b11 = false := hi
          subst hbi
          have hb10 : b10 = true := hd ⟨10, .data⟩ (by simp) rfl
          clear hd
          subst hb10
          obtain rfl := H.F10 rfl
          clear c00 c01 c02 c10 c11 c12 c20 c21 c22
          go_simp
          refine hKx.out _ _ ?_
          clear hKx
          refine ⟨⟨_, _, _, _, _, _, _, _, _, _, _, true, _, _, _, _, _, _, _, _⟩, ⟨_, _, _, _, _, _, _, _, _, _, _, _, _, _, _, _, _⟩, rfl, rfl, ?_⟩
          exact ⟨H.HS, H.F0, H.F1, H.F2, H.F3, H.F4, H.F5, H.F6, H.F7, H.F8, H.F9, H.F10, (fun _ => rfl), H.F12, H.F13, H.F14, H.F15, H.F16, H.D1, H.D2, H.D3, H.E17, H.E18, H.E19⟩
        · intro l a w1 hI hi hd Kx hKx
          obtain ⟨⟨b0, b1, b2, b3, b4, b5, b6, b7, b8, b9, b10, b11, b12, b13, b14, b15, b16, b17, b18, b19⟩, ⟨v0, v1, v2, v3, v4, v5, v6, v7, v8, v9, v10, v11, v12, v13, v14, v15, v16⟩, rfl, rfl, H⟩ := hI
          dsimp only at H ⊢
          have hbi : b12 = false := hi
          subst hbi
          have hb9 : b9 = true := hd ⟨9, .data⟩ (by simp) rfl
          have hb11 : b11 = true := hd ⟨11, .data⟩ (by simp) rfl
          clear hd
          subst hb9 hb11
          obtain rfl := H.F9 rfl
          obtain rfl := H.F11 rfl
          clear c00 c01 c02 c10 c11 c12 c20 c21 c22
          obtain ⟨r0, r1⟩ := k2
          have r2 : -1 ≤ s := by omega
          have r3 : 0 ≤ s := by omega
          go_simp
          refine hKx.out _ _ ?_
          clear hKx
          refine ⟨⟨_, _, _, _, _, _, _, _, _, _, _, _, true, _, _, _, _, _, _, _⟩, ⟨_, _, _, _, _, _, _, _, _, _, _, _, _, _, _, _, _⟩, rfl, rfl, ?_⟩
          exact ⟨H.HS, H.F0, H.F1, H.F2, H.F3, H.F4, H.F5, H.F6, H.F7, H.F8, H.F9, H.F10, H.F11, (fun _ => rfl), H.F13, H.F14, H.F15, H.F16, H.D1, H.D2, H.D3, H.E17, H.E18, H.E19⟩
        · intro l a w1 hI hi hd Kx hKx
          obtain ⟨⟨b0, b1, b2, b3, b4, b5, b6, b7, b8, b9, b10, b11, b12, b13, b14, b15, b16, b17, b18, b19⟩, ⟨v0, v1, v2, v3, v4, v5, v6, v7, v8, v9, v10, v11, v12, v13, v14, v15, v16⟩, rfl, rfl, H⟩ := hI
          dsimp only at H ⊢
          have hbi : b13 = false := hi
          subst hbi
          have hb12 : b12 = true := hd ⟨12, .data⟩ (by simp) rfl
          clear hd
          subst hb12
          obtain rfl := H.F12 rfl
          have e0 := (H.HS.cell (p := ⟨b, _, none⟩) hbz).trans c20
          have e1 := (H.HS.cell (p := ⟨b, _, none⟩) hbz).trans c21
          have e2 := (H.HS.cell (p := ⟨b, _, none⟩) hbz).trans c22
          clear c00 c01 c02 c10 c11 c12 c20 c21 c22
          go_simp
          refine hKx.out _ _ ?_
          clear hKx
          refine ⟨⟨_, _, _, _, _, _, _, _, _, _, _, _, _, true, _, _, _, _, _, _⟩, ⟨_, _, _, _, _, _, _, _, _, _, _, _, _, _, _, _, _⟩, rfl, rfl, ?_⟩
          exact ⟨H.HS, H.F0, H.F1, H.F2, H.F3, H.F4, H.F5, H.F6, H.F7, H.F8, H.F9, H.F10, H.F11, H.F12, (fun _ => rfl), H.F14, H.F15, H.F16, H.D1, H.D2, H.D3, H.E17, H.E18, H.E19⟩
        · intro l a w1 hI hi hd Kx hKx
          obtain ⟨⟨b0, b1, b2, b3, b4, b5, b6, b7, b8, b9, b10, b11, b12, b13, b14, b15, b16, b17, b18, b19⟩, ⟨v0, v1, v2, v3, v4, v5, v6, v7, v8, v9, v10, v11, v12, v13, v14, v15, v16⟩, rfl, rfl, H⟩ := hI
          dsimp only at H ⊢
          have hbi : b14 = false := hi
          subst hbi
          clear hd
          have hh17 : b17 = false := by
            rcases b17 with _ | _
            · rfl
            · exact absurd (H.E17 rfl) (by simp)
          subst hh17
          have hh18 : b18 = false := by
            rcases b18 with _ | _
            · rfl
            · exact absurd (H.E18 rfl) (by simp)
          subst hh18
          have hh19 : b19 = false := by
            rcases b19 with _ | _
            · rfl
            · exact absurd (H.E19 rfl) (by simp)
          subst hh19
          have hzz := H.HS.size
          have hal : ∀ o : Obj, Below w1.heap.size w1 (w1.alloc o) := fun o => (Below.refl _ _).alloc (Nat.le_refl _) o
          go_simp
          refine hKx.out _ _ ?_
          clear hKx
          refine ⟨⟨_, _, _, _, _, _, _, _, _, _, _, _, _, _, true, _, _, _, _, _⟩, ⟨_, _, _, _, _, _, _, _, _, _, _, _, _, _, _, _, _⟩, rfl, rfl, ?_⟩
          exact ⟨H.HS.alloc H.HS.size _, H.F0, H.F1, H.F2, H.F3, H.F4, H.F5, H.F6, H.F7, H.F8, H.F9, H.F10, H.F11, H.F12, H.F13, (fun _ => ⟨_, rfl, hzz, Blk.new _ _ _⟩), (H.F15.below (hal _)), (H.F16.below (hal _)), (fun _ hx => Ne.symm (H.F15.ne_new hx)), (fun _ hx => Ne.symm (H.F16.ne_new hx)), H.D3, (fun h => by cases h), (fun h => by cases h), (fun h => by cases h)⟩
        · intro l a w1 hI hi hd Kx hKx
          obtain ⟨⟨b0, b1, b2, b3, b4, b5, b6, b7, b8, b9, b10, b11, b12, b13, b14, b15, b16, b17, b18, b19⟩, ⟨v0, v1, v2, v3, v4, v5, v6, v7, v8, v9, v10, v11, v12, v13, v14, v15, v16⟩, rfl, rfl, H⟩ := hI
          dsimp only at H ⊢
          have hbi : b15 = false := hi
          subst hbi
          clear hd
          have hh17 : b17 = false := by
            rcases b17 with _ | _
            · rfl
            · exact absurd (H.E17 rfl) (by simp)
          subst hh17
          have hh18 : b18 = false := by
            rcases b18 with _ | _
            · rfl
            · exact absurd (H.E18 rfl) (by simp)
          subst hh18
          have hh19 : b19 = false := by
            rcases b19 with _ | _
            · rfl
            · exact absurd (H.E19 rfl) (by simp)
          subst hh19
          have hzz := H.HS.size
          have hal : ∀ o : Obj, Below w1.heap.size w1 (w1.alloc o) := fun o => (Below.refl _ _).alloc (Nat.le_refl _) o
          go_simp
          refine hKx.out _ _ ?_
          clear hKx
          refine ⟨⟨_, _, _, _, _, _, _, _, _, _, _, _, _, _, _, true, _, _, _, _⟩, ⟨_, _, _, _, _, _, _, _, _, _, _, _, _, _, _, _, _⟩, rfl, rfl, ?_⟩
          exact ⟨H.HS.alloc H.HS.size _, H.F0, H.F1, H.F2, H.F3, H.F4, H.F5, H.F6, H.F7, H.F8, H.F9, H.F10, H.F11, H.F12, H.F13, (H.F14.below (hal _)), (fun _ => ⟨_, rfl, hzz, Blk.new _ _ _⟩), (H.F16.below (hal _)), (fun hx _ => H.F14.ne_new hx), H.D2, (fun _ hx => Ne.symm (H.F16.ne_new hx)), (fun h => by cases h), (fun h => by cases h), (fun h => by cases h)⟩
        · intro l a w1 hI hi hd Kx hKx
          obtain ⟨⟨b0, b1, b2, b3, b4, b5, b6, b7, b8, b9, b10, b11, b12, b13, b14, b15, b16, b17, b18, b19⟩, ⟨v0, v1, v2, v3, v4, v5, v6, v7, v8, v9, v10, v11, v12, v13, v14, v15, v16⟩, rfl, rfl, H⟩ := hI
          dsimp only at H ⊢
          have hbi : b16 = false := hi
          subst hbi
          clear hd
          have hh17 : b17 = false := by
            rcases b17 with _ | _
            · rfl
            · exact absurd (H.E17 rfl) (by simp)
          subst hh17
          have hh18 : b18 = false := by
            rcases b18 with _ | _
            · rfl
            · exact absurd (H.E18 rfl) (by simp)
          subst hh18
          have hh19 : b19 = false := by
            rcases b19 with _ | _
            · rfl
            · exact absurd (H.E19 rfl) (by simp)
          subst hh19
          have hzz := H.HS.size
          have hal : ∀ o : Obj, Below w1.heap.size w1 (w1.alloc o) := fun o => (Below.refl _ _).alloc (Nat.le_refl _) o
          go_simp
          refine hKx.out _ _ ?_
          clear hKx
          refine ⟨⟨_, _, _, _, _, _, _, _, _, _, _, _, _, _, _, _, true, _, _, _⟩, ⟨_, _, _, _, _, _, _, _, _, _, _, _, _, _, _, _, _⟩, rfl, rfl, ?_⟩
          exact ⟨H.HS.alloc H.HS.size _, H.F0, H.F1, H.F2, H.F3, H.F4, H.F5, H.F6, H.F7, H.F8, H.F9, H.F10, H.F11, H.F12, H.F13, (H.F14.below (hal _)), (H.F15.below (hal _)), (fun _ => ⟨_, rfl, hzz, Blk.new _ _ _⟩), H.D1, (fun hx _ => H.F14.ne_new hx), (fun hx _ => H.F15.ne_new hx), (fun h => by cases h), (fun h => by cases h), (fun h => by cases h)⟩
        · intro l a w1 hI hi hd Kx hKx
          obtain ⟨⟨b0, b1, b2, b3, b4, b5, b6, b7, b8, b9, b10, b11, b12, b13, b14, b15, b16, b17, b18, b19⟩, ⟨v0, v1, v2, v3, v4, v5, v6, v7, v8, v9, v10, v11, v12, v13, v14, v15, v16⟩, rfl, rfl, H⟩ := hI
          dsimp only at H ⊢
          have hbi : b17 = false := hi
          subst hbi
          have hb14 : b14 = true := hd ⟨14, .data⟩ (by simp) rfl
          have hb4 : b4 = true := hd ⟨4, .data⟩ (by simp) rfl
          have hb15 : b15 = true := hd ⟨15, .phase⟩ (by simp) rfl
          have hb16 : b16 = true := hd ⟨16, .phase⟩ (by simp) rfl
          clear hd
          subst hb14 hb4 hb15 hb16
          obtain rfl := H.F4 rfl
          obtain ⟨q1, rfl, hz1, hq1⟩ := H.F14 rfl
          have hq2 : Blk w1 q1 51 #[.int .i64 0, .int .i64 0, .bool false] := hq1
          obtain ⟨u0, u1, u2⟩ := hq2.three'
          have g0 := hq2.frozen 0
          have g1 := hq2.frozen 1
          have g2 := hq2.frozen 2
          have hq3 : Blk (((w1.setCell ⟨q1, 0, none⟩ (.int .i64 y0)).setCell ⟨q1, 1, none⟩ (.int .i64 h0)).setCell ⟨q1, 2, none⟩ (.bool t0)) q1 51 #[.int .i64 y0, .int .i64 h0, .bool t0] := hq2.putT
          have hbw : Below va.heap.size va (((w1.setCell ⟨q1, 0, none⟩ (.int .i64 y0)).setCell ⟨q1, 1, none⟩ (.int .i64 h0)).setCell ⟨q1, 2, none⟩ (.bool t0)) := ((H.HS.setCell (p := ⟨q1, 0, none⟩) hz1 _).setCell (p := ⟨q1, 1, none⟩) hz1 _).setCell (p := ⟨q1, 2, none⟩) hz1 _
          clear hq1 c00 c01 c02 c10 c11 c12 c20 c21 c22
          go_simp
          refine hKx.out _ _ ?_
          clear hKx
          refine ⟨⟨_, _, _, _, _, _, _, _, _, _, _, _, _, _, _, _, _, true, _, _⟩, ⟨_, _, _, _, _, _, _, _, _, _, _, _, _, _, _, _, _⟩, rfl, rfl, ?_⟩
          exact ⟨hbw, H.F0, H.F1, H.F2, H.F3, (fun _ => rfl), H.F5, H.F6, H.F7, H.F8, H.F9, H.F10, H.F11, H.F12, H.F13, (fun _ => ⟨q1, rfl, hz1, hq3⟩), (H.F15.far (fun h => H.D1 rfl h) _ _ _), (H.F16.far (fun h => H.D2 rfl h) _ _ _), H.D1, H.D2, H.D3, (fun _ => rfl), (fun _ => rfl), H.E19⟩
        · intro l a w1 hI hi hd Kx hKx
          obtain ⟨⟨b0, b1, b2, b3, b4, b5, b6, b7, b8, b9, b10, b11, b12, b13, b14, b15, b16, b17, b18, b19⟩, ⟨v0, v1, v2, v3, v4, v5, v6, v7, v8, v9, v10, v11, v12, v13, v14, v15, v16⟩, rfl, rfl, H⟩ := hI
          dsimp only at H ⊢
          have hbi : b18 = false := hi
          subst hbi
          have hb15 : b15 = true := hd ⟨15, .data⟩ (by simp) rfl
          have hb8 : b8 = true := hd ⟨8, .data⟩ (by simp) rfl
          have hb17 : b17 = true := hd ⟨17, .chain⟩ (by simp) rfl
          have hb14 : b14 = true := hd ⟨14, .phase⟩ (by simp) rfl
          have hb16 : b16 = true := hd ⟨16, .phase⟩ (by simp) rfl
          clear hd
          subst hb15 hb8 hb17 hb14 hb16
          obtain rfl := H.F8 rfl
          obtain ⟨q1, rfl, hz1, hq1⟩ := H.F15 rfl
          have hq2 : Blk w1 q1 51 #[.int .i64 0, .int .i64 0, .bool false] := hq1
          obtain ⟨u0, u1, u2⟩ := hq2.three'
          have g0 := hq2.frozen 0
          have g1 := hq2.frozen 1
          have g2 := hq2.frozen 2
          have hq3 : Blk (((w1.setCell ⟨q1, 0, none⟩ (.int .i64 y1)).setCell ⟨q1, 1, none⟩ (.int .i64 h1)).setCell ⟨q1, 2, none⟩ (.bool t1)) q1 51 #[.int .i64 y1, .int .i64 h1, .bool t1] := hq2.putT
          have hbw : Below va.heap.size va (((w1.setCell ⟨q1, 0, none⟩ (.int .i64 y1)).setCell ⟨q1, 1, none⟩ (.int .i64 h1)).setCell ⟨q1, 2, none⟩ (.bool t1)) := ((H.HS.setCell (p := ⟨q1, 0, none⟩) hz1 _).setCell (p := ⟨q1, 1, none⟩) hz1 _).setCell (p := ⟨q1, 2, none⟩) hz1 _
          clear hq1 c00 c01 c02 c10 c11 c12 c20 c21 c22
          go_simp
          refine hKx.out _ _ ?_
          clear hKx
          refine ⟨⟨_, _, _, _, _, _, _, _, _, _, _, _, _, _, _, _, _, _, true, _⟩, ⟨_, _, _, _, _, _, _, _, _, _, _, _, _, _, _, _, _⟩, rfl, rfl, ?_⟩
          exact ⟨hbw, H.F0, H.F1, H.F2, H.F3, H.F4, H.F5, H.F6, H.F7, (fun _ => rfl), H.F9, H.F10, H.F11, H.F12, H.F13, (H.F14.far (fun h => Ne.symm (H.D1 h rfl)) _ _ _), (fun _ => ⟨q1, rfl, hz1, hq3⟩), (H.F16.far (fun h => H.D3 rfl h) _ _ _), H.D1, H.D2, H.D3, H.E17, (fun _ => rfl), (fun _ => rfl)⟩
        · intro l a w1 hI hi hd Kx hKx
          obtain ⟨⟨b0, b1, b2, b3, b4, b5, b6, b7, b8, b9, b10, b11, b12, b13, b14, b15, b16, b17, b18, b19⟩, ⟨v0, v1, v2, v3, v4, v5, v6, v7, v8, v9, v10, v11, v12, v13, v14, v15, v16⟩, rfl, rfl, H⟩ := hI
          dsimp only at H ⊢
          have hbi : b19 = false := hi
          subst hbi
          have hb16 : b16 = true := hd ⟨16, .data⟩ (by simp) rfl
          have hb13 : b13 = true := hd ⟨13, .data⟩ (by simp) rfl
          have hb18 : b18 = true := hd ⟨18, .chain⟩ (by simp) rfl
          have hb14 : b14 = true := hd ⟨14, .phase⟩ (by simp) rfl
          have hb15 : b15 = true := hd ⟨15, .phase⟩ (by simp) rfl
          have hb17 : b17 = true := hd ⟨17, .phase⟩ (by simp) rfl
          clear hd
          subst hb16 hb13 hb18 hb14 hb15 hb17
          obtain rfl := H.F13 rfl
          obtain ⟨q1, rfl, hz1, hq1⟩ := H.F16 rfl
          have hq2 : Blk w1 q1 51 #[.int .i64 0, .int .i64 0, .bool false] := hq1
          obtain ⟨u0, u1, u2⟩ := hq2.three'
          have g0 := hq2.frozen 0
          have g1 := hq2.frozen 1
          have g2 := hq2.frozen 2
          have hq3 : Blk (((w1.setCell ⟨q1, 0, none⟩ (.int .i64 y2)).setCell ⟨q1, 1, none⟩ (.int .i64 h2)).setCell ⟨q1, 2, none⟩ (.bool t2)) q1 51 #[.int .i64 y2, .int .i64 h2, .bool t2] := hq2.putT
          have hbw : Below va.heap.size va (((w1.setCell ⟨q1, 0, none⟩ (.int .i64 y2)).setCell ⟨q1, 1, none⟩ (.int .i64 h2)).setCell ⟨q1, 2, none⟩ (.bool t2)) := ((H.HS.setCell (p := ⟨q1, 0, none⟩) hz1 _).setCell (p := ⟨q1, 1, none⟩) hz1 _).setCell (p := ⟨q1, 2, none⟩) hz1 _
          clear hq1 c00 c01 c02 c10 c11 c12 c20 c21 c22
          go_simp
          refine hKx.out _ _ ?_
          clear hKx
          refine ⟨⟨_, _, _, _, _, _, _, _, _, _, _, _, _, _, _, _, _, _, _, true⟩, ⟨_, _, _, _, _, _, _, _, _, _, _, _, _, _, _, _, _⟩, rfl, rfl, ?_⟩
          exact ⟨hbw, H.F0, H.F1, H.F2, H.F3, H.F4, H.F5, H.F6, H.F7, H.F8, H.F9, H.F10, H.F11, H.F12, (fun _ => rfl), (H.F14.far (fun h => Ne.symm (H.D2 h rfl)) _ _ _), (H.F15.far (fun h => Ne.symm (H.D3 h rfl)) _ _ _), (fun _ => ⟨q1, rfl, hz1, hq3⟩), H.D1, H.D2, H.D3, H.E17, H.E18, (fun _ => rfl)⟩
      · intro l a w1 hI hr
        have hsz : l.size = 20 := by
          obtain ⟨B, V, rfl, rfl, _⟩ := hI
          rfl
        have hall := ready_nilM hsz (by kernel_rfl) hr
        obtain ⟨⟨b0, b1, b2, b3, b4, b5, b6, b7, b8, b9, b10, b11, b12, b13, b14, b15, b16, b17, b18, b19⟩, ⟨v0, v1, v2, v3, v4, v5, v6, v7, v8, v9, v10, v11, v12, v13, v14, v15, v16⟩, rfl, rfl, H⟩ := hI
        dsimp only at H ⊢
        have hb14 : b14 = true := hall 14 (by decide)
        have hb15 : b15 = true := hall 15 (by decide)
        have hb16 : b16 = true := hall 16 (by decide)
        have hb17 : b17 = true := hall 17 (by decide)
        have hb18 : b18 = true := hall 18 (by decide)
        have hb19 : b19 = true := hall 19 (by decide)
        subst hb14 hb15 hb16 hb17 hb18 hb19
        obtain ⟨q9, rfl, _, hx9⟩ := H.F14 rfl
        obtain ⟨q10, rfl, _, hx10⟩ := H.F15 rfl
        obtain ⟨q11, rfl, _, hx11⟩ := H.F16 rfl
        have X9 : Hid (Blk w1 q9 51 #[.int .i64 y0, .int .i64 h0, .bool t0]) := Lib.hid hx9
        have X10 : Hid (Blk w1 q10 51 #[.int .i64 y1, .int .i64 h1, .bool t1]) := Lib.hid hx10
        have X11 : Hid (Blk w1 q11 51 #[.int .i64 y2, .int .i64 h2, .bool t2]) := Lib.hid hx11
        have HS := Lib.hid H.HS
        clear H hall hr hsz hx9 hx10 hx11
        go_wp2_with fail
        go_meet
        exact ⟨q9, q10, q11, rfl, rfl, rfl, HS, X9, X10, X11⟩
  case rest =>
    as_aux_lemma =>
      obtain ⟨q9, q10, q11, rfl, rfl, rfl, HW, X9, X10, X11⟩ := hcut
      have HWW := Lib.hid (Below.thenn HB.out HW.out HB.out.size)
      clear b0 b1 c00 c01 c02 c10 c11 c12 c20 c21 c22
      have hB := HWW.out
      have XR := Lib.hid (X0.out.below HWW.out X0.out.lt)
      obtain ⟨b0, b1⟩ := XR.out.two'
      obtain ⟨c0, c1, c2⟩ := X9.out.three'
      obtain ⟨d0, d1, d2⟩ := X10.out.three'
      obtain ⟨f0, f1, f2⟩ := X11.out.three'
      have l9 := X9.out.lt
      have l10 := X10.out.lt
      have l11 := X11.out.lt
      have lR := XR.out.lt
      have hzw := HWW.out.size
      go_wp2_with fail
      (refine wp_region_ext (by kernel_rfl) (by kernel_rfl) ?_; have hxe := ext_cells; (repeat (go_big_quiet_step (fail))); refine wpQuiet_nil ?_; intro w' hw'; obtain ⟨nx, hw''⟩ := hw'; have hbx := ext_out hw''; clear hw'' nx hxe; have hB : Below w.heap.size w w' := Below.thenn (by repeat (first | exact Below.refl _ _ | assumption | apply Below.drew | apply below_drewN | (refine Below.alloc ?_ (by first | omega | (simp; done) | (simp; omega)) _) | (refine Below.setCell ?_ (by first | omega | (simp; done) | (simp; omega)) _))) hbx (by first | omega | (simp; done) | (simp; omega)); have hz : w.heap.size ≤ w'.heap.size := hB.size; obtain ⟨hc, hf⟩ := bcell hbx; have X9 := Lib.hid (X9.out.below hbx X9.out.lt); have X10 := Lib.hid (X10.out.below hbx X10.out.lt); have X11 := Lib.hid (X11.out.below hbx X11.out.lt); have XR := Lib.hid (XR.out.below hbx XR.out.lt); clear hbx)
      clear b0 b1 c0 c1 c2 d0 d1 d2 f0 f1 f2 hc hf
      obtain ⟨b0, b1⟩ := XR.out.two'
      obtain ⟨c0, c1, c2⟩ := X9.out.three'
      obtain ⟨d0, d1, d2⟩ := X10.out.three'
      obtain ⟨f0, f1, f2⟩ := X11.out.three'
      go_wp2_with fail
      refine (CL.out _).mono ?_
      rintro e w3 ⟨rfl, hb3⟩
      have B3 := Lib.hid (Below.thenn hB hb3 hB.size)
      have XR := Lib.hid (XR.out.below hb3 XR.out.lt)
      clear hb3 hB b0 b1 c0 c1 c2 d0 d1 d2 f0 f1 f2 X9 X10 X11
      obtain ⟨b0, b1⟩ := XR.out.two'
      go_wp2_with fail
      refine (CM.out _).mono ?_
      rintro e w4 ⟨rfl, hb4⟩
      have B4 := Lib.hid (Below.thenn B3.out hb4 B3.out.size)
      clear hb4 b0 b1 XR
      go_wp2_with fail
      go_ret3
      exact ⟨rfl, by show Below wo.heap.size wo _; rw [HQ.out]; exact Below.thenn HWV.out B4.out (by omega)⟩
end Go.Proofs.Ytjfmicemnoglkaa
namespace Go.Proofs.Ytjfmicemnoglkaa
open Go.RowKit
set_option linter.unusedVariables false
set_option linter.unusedSimpArgs false

theorem tw_asked (rows : List (List Int)) (x p : Int) : sagOk rows x p 0 = (lineOk rows && ropeOk x p) := by
  unfold sagOk onOk
  rcases ho : lineOk rows with _ | _
  · simp
  · have := (lineOk_line ho).end_pos
    have e : decide (0 ≤ (0 : Int) ∧ 0 ≤ endN rows) = true := by simp; omega
    rw [e]
    simp
/-- What a tower's three rows hold. -/
theorem tw_rows {A : Option Addr} {n : Nat} {rows : List (List Int)} {w : World} {x p s : Int} (h : RdL w A n rows) (hk : twOk rows x p s = true) :
    ∃ b off k, A = some ⟨b, off, none⟩ ∧ 1 ≤ k ∧ k + 1 < n ∧ s = ((k : Nat) : Int) ∧ b < w.heap.size ∧
      (w.cell? ⟨b, off + (k - 1) * 3, none⟩ = some (.int .i64 (atN rows (k - 1))) ∧ w.cell? ⟨b, off + (k - 1) * 3 + 1, none⟩ = some (.int .i64 (htN rows (k - 1))) ∧ w.cell? ⟨b, off + (k - 1) * 3 + 2, none⟩ = some (.bool (decide (stN rows (k - 1) = 1)))) ∧
      (w.cell? ⟨b, off + k * 3, none⟩ = some (.int .i64 (atN rows k)) ∧ w.cell? ⟨b, off + k * 3 + 1, none⟩ = some (.int .i64 (htN rows k)) ∧ w.cell? ⟨b, off + k * 3 + 2, none⟩ = some (.bool (decide (stN rows k = 1)))) ∧
      (w.cell? ⟨b, off + (k + 1) * 3, none⟩ = some (.int .i64 (atN rows (k + 1))) ∧ w.cell? ⟨b, off + (k + 1) * 3 + 1, none⟩ = some (.int .i64 (htN rows (k + 1))) ∧ w.cell? ⟨b, off + (k + 1) * 3 + 2, none⟩ = some (.bool (decide (stN rows (k + 1) = 1)))) ∧
      TwAt x p (htN rows (k - 1)) (htN rows k) (htN rows (k + 1)) (atN rows k - atN rows (k - 1)) (atN rows (k + 1) - atN rows k) ∧
      twN rows x p s = redN (2 * p * twV (htN rows (k - 1)) (htN rows k) (htN rows (k + 1)) (atN rows k - atN rows (k - 1)) (atN rows (k + 1) - atN rows k) + x * ((atN rows k - atN rows (k - 1)) + (atN rows (k + 1) - atN rows k)) * (atN rows k - atN rows (k - 1)) * (atN rows (k + 1) - atN rows k)) (2 * p * (atN rows k - atN rows (k - 1)) * (atN rows (k + 1) - atN rows k)) ∧
      twD rows x p s = redD (2 * p * twV (htN rows (k - 1)) (htN rows k) (htN rows (k + 1)) (atN rows k - atN rows (k - 1)) (atN rows (k + 1) - atN rows k) + x * ((atN rows k - atN rows (k - 1)) + (atN rows (k + 1) - atN rows k)) * (atN rows k - atN rows (k - 1)) * (atN rows (k + 1) - atN rows k)) (2 * p * (atN rows k - atN rows (k - 1)) * (atN rows (k + 1) - atN rows k)) := by
  have ho := hk
  simp only [twOk, Bool.and_eq_true] at ho
  obtain ⟨hl, hr, hi⟩ := ho
  have hi : 1 ≤ s ∧ s ≤ (rows.length : Int) - 2 := by simpa [inr] using hi
  have hn := h.2.1
  have L := lineOk_line hl
  obtain ⟨k, rfl⟩ : ∃ k : Nat, s = (k : Int) := ⟨s.toNat, by omega⟩
  obtain ⟨b, off, hA, hb, a0, a1, a2⟩ := h.rowN (k := k - 1) (by omega)
  subst hA
  obtain ⟨b', off', e', _, d0, d1, d2⟩ := h.rowN (k := k) (by omega)
  injection e' with e'
  injection e' with e1 e2
  subst e1 e2
  obtain ⟨b', off', e', _, f0, f1, f2⟩ := h.rowN (k := k + 1) (by omega)
  injection e' with e'
  injection e' with e1 e2
  subst e1 e2
  exact ⟨b, off, k, rfl, by omega, by omega, rfl, hb, ⟨a0, a1, a2⟩, ⟨d0, d1, d2⟩, ⟨f0, f1, f2⟩, tw_at L hr (by omega) (by omega), (tw_yes hk).1, (tw_yes hk).2⟩
set_option maxHeartbeats 2000000 in
theorem impl_TowerAngle (A : Option Addr) (n c : Nat) (rows : List (List Int)) (x p s : Int) (wo : World) (h : RdL wo A n rows) (hm : n ≤ 1048577) :
    Calls Try.prog 50 #[.slice A n c, .agg #[.int .i64 x, .int .i64 p], .int .i64 s] wo (Ret wo (.tuple #[.int .i64 (twN rows x p s), .int .i64 (twD rows x p s), .bool (twOk rows x p s)])) := by
  have ci := fun w' (h' : RdL w' A n rows) => impl_IsLine A n c rows w' h' hm
  have cr := fun w' => impl_IsRope x p w'
  rcases hl : lineOk rows with _ | _
  · rw [hl] at ci
    have hk : twOk rows x p s = false := by simp [twOk, hl]
    rw [hk, (tw_no hk).1, (tw_no hk).2]
    have CI := Lib.hid ci
    clear ci cr hk hl
    go_enter Try.func50, Try.ntmps50
    go_wp2_with fail
    (have hWV : Below wo.heap.size wo (wo.alloc (.cells #[.int .i64 x, .int .i64 p] 26)) := (Below.refl _ _).alloc (Nat.le_refl _) _; have hV0 : wo.heap.size < (wo.alloc (.cells #[.int .i64 x, .int .i64 p] 26)).heap.size := (by simp); have hv0 : (wo.alloc (.cells #[.int .i64 x, .int .i64 p] 26)).cell? ⟨wo.heap.size, 0, none⟩ = some (.int .i64 x) := (by rw [cell_of_row _ _ _ _ _ _ (heap_alloc_new wo _)]; rfl); have hv1 : (wo.alloc (.cells #[.int .i64 x, .int .i64 p] 26)).cell? ⟨wo.heap.size, 1, none⟩ = some (.int .i64 p) := (by rw [cell_of_row _ _ _ _ _ _ (heap_alloc_new wo _)]; rfl); have HHW := Lib.hid hWV; have HV1 : Hid (wo.heap.size + 1 = (wo.alloc (.cells #[.int .i64 x, .int .i64 p] 26)).heap.size) := (show _ = _ by simp); generalize wo.alloc (.cells #[.int .i64 x, .int .i64 p] 26) = w at hWV HHW hV0 HV1 hv0 hv1 ⊢; have HH := Lib.hid (h.below hWV); have hB : Below w.heap.size w w := Below.refl _ _; have hwz : wo.heap.size ≤ w.heap.size := hWV.size; (try rw [HV1.out]); clear hWV)
    go_wp2_with (go_at_call 107; refine (CI.out _ (by exact HH.out.below (by repeat (first | exact Below.refl _ _ | assumption | apply Below.drew | apply below_drewN | (refine Below.alloc ?_ (by first | omega | (simp; done) | (simp; omega)) _) | (refine Below.setCell ?_ (by first | omega | (simp; done) | (simp; omega)) _))))).mono ?_; rintro e w' ⟨rfl, hb⟩; have hB : Below w.heap.size w w' := Below.thenn (by repeat (first | exact Below.refl _ _ | assumption | apply Below.drew | apply below_drewN | (refine Below.alloc ?_ (by first | omega | (simp; done) | (simp; omega)) _) | (refine Below.setCell ?_ (by first | omega | (simp; done) | (simp; omega)) _))) hb (by first | omega | (simp; done) | (simp; omega)); have hz : w.heap.size ≤ w'.heap.size := hB.size; (try (have hz1 : w.heap.size + 1 ≤ w'.heap.size := (by have h := hb.size; (try simp at h); omega))); obtain ⟨hc, hf⟩ := bcell hb; (have b0 := (hB.cell (p := ⟨wo.heap.size, 0, none⟩) hV0).trans hv0; have b1 := (hB.cell (p := ⟨wo.heap.size, 1, none⟩) hV0).trans hv1; have hVk : wo.heap.size < w'.heap.size := Nat.lt_of_lt_of_le hV0 hB.size); clear hb)
    go_ret3
    exact ⟨rfl, (Below.thenn HHW.out (show Below w.heap.size w _ from (by repeat (first | exact Below.refl _ _ | assumption | apply Below.drew | apply below_drewN | (refine Below.alloc ?_ (by first | omega | (simp; done) | (simp; omega)) _) | (refine Below.setCell ?_ (by first | omega | (simp; done) | (simp; omega)) _)))) HHW.out.size)⟩
  rw [hl] at ci
  rcases hr : ropeOk x p with _ | _
  · rw [hr] at cr
    have hk : twOk rows x p s = false := by simp [twOk, hr]
    rw [hk, (tw_no hk).1, (tw_no hk).2]
    have CI := Lib.hid ci
    have CR := Lib.hid cr
    clear ci cr hk hl hr
    go_enter Try.func50, Try.ntmps50
    go_wp2_with fail
    (have hWV : Below wo.heap.size wo (wo.alloc (.cells #[.int .i64 x, .int .i64 p] 26)) := (Below.refl _ _).alloc (Nat.le_refl _) _; have hV0 : wo.heap.size < (wo.alloc (.cells #[.int .i64 x, .int .i64 p] 26)).heap.size := (by simp); have hv0 : (wo.alloc (.cells #[.int .i64 x, .int .i64 p] 26)).cell? ⟨wo.heap.size, 0, none⟩ = some (.int .i64 x) := (by rw [cell_of_row _ _ _ _ _ _ (heap_alloc_new wo _)]; rfl); have hv1 : (wo.alloc (.cells #[.int .i64 x, .int .i64 p] 26)).cell? ⟨wo.heap.size, 1, none⟩ = some (.int .i64 p) := (by rw [cell_of_row _ _ _ _ _ _ (heap_alloc_new wo _)]; rfl); have HHW := Lib.hid hWV; have HV1 : Hid (wo.heap.size + 1 = (wo.alloc (.cells #[.int .i64 x, .int .i64 p] 26)).heap.size) := (show _ = _ by simp); generalize wo.alloc (.cells #[.int .i64 x, .int .i64 p] 26) = w at hWV HHW hV0 HV1 hv0 hv1 ⊢; have HH := Lib.hid (h.below hWV); have hB : Below w.heap.size w w := Below.refl _ _; have hwz : wo.heap.size ≤ w.heap.size := hWV.size; (try rw [HV1.out]); clear hWV)
    go_wp2_with (first | (go_at_call 107; refine (CI.out _ (by exact HH.out.below (by repeat (first | exact Below.refl _ _ | assumption | apply Below.drew | apply below_drewN | (refine Below.alloc ?_ (by first | omega | (simp; done) | (simp; omega)) _) | (refine Below.setCell ?_ (by first | omega | (simp; done) | (simp; omega)) _))))).mono ?_; rintro e w' ⟨rfl, hb⟩; have hB : Below w.heap.size w w' := Below.thenn (by repeat (first | exact Below.refl _ _ | assumption | apply Below.drew | apply below_drewN | (refine Below.alloc ?_ (by first | omega | (simp; done) | (simp; omega)) _) | (refine Below.setCell ?_ (by first | omega | (simp; done) | (simp; omega)) _))) hb (by first | omega | (simp; done) | (simp; omega)); have hz : w.heap.size ≤ w'.heap.size := hB.size; (try (have hz1 : w.heap.size + 1 ≤ w'.heap.size := (by have h := hb.size; (try simp at h); omega))); obtain ⟨hc, hf⟩ := bcell hb; (have b0 := (hB.cell (p := ⟨wo.heap.size, 0, none⟩) hV0).trans hv0; have b1 := (hB.cell (p := ⟨wo.heap.size, 1, none⟩) hV0).trans hv1; have hVk : wo.heap.size < w'.heap.size := Nat.lt_of_lt_of_le hV0 hB.size); clear hb) | (go_at_call 13; refine (CR.out _).mono ?_; rintro e w' ⟨rfl, hb⟩; have hB : Below w.heap.size w w' := Below.thenn (by repeat (first | exact Below.refl _ _ | assumption | apply Below.drew | apply below_drewN | (refine Below.alloc ?_ (by first | omega | (simp; done) | (simp; omega)) _) | (refine Below.setCell ?_ (by first | omega | (simp; done) | (simp; omega)) _))) hb (by first | omega | (simp; done) | (simp; omega)); have hz : w.heap.size ≤ w'.heap.size := hB.size; (try (have hz1 : w.heap.size + 1 ≤ w'.heap.size := (by have h := hb.size; (try simp at h); omega))); obtain ⟨hc, hf⟩ := bcell hb; (have b0 := (hB.cell (p := ⟨wo.heap.size, 0, none⟩) hV0).trans hv0; have b1 := (hB.cell (p := ⟨wo.heap.size, 1, none⟩) hV0).trans hv1; have hVk : wo.heap.size < w'.heap.size := Nat.lt_of_lt_of_le hV0 hB.size); clear hb))
    go_ret3
    exact ⟨rfl, (Below.thenn HHW.out (show Below w.heap.size w _ from (by repeat (first | exact Below.refl _ _ | assumption | apply Below.drew | apply below_drewN | (refine Below.alloc ?_ (by first | omega | (simp; done) | (simp; omega)) _) | (refine Below.setCell ?_ (by first | omega | (simp; done) | (simp; omega)) _)))) HHW.out.size)⟩
  rw [hr] at cr
  rcases hi : inr s 1 ((n : Int) - 2) with _ | _
  · have hk : twOk rows x p s = false := by simp [twOk, h.2.1, hi]
    rw [hk, (tw_no hk).1, (tw_no hk).2]
    have u1 : IntKind.i64.wrap ((n : Int) - 2) = (n : Int) - 2 := IntWalk.i64_in _ (by omega)
    have CI := Lib.hid ci
    have CR := Lib.hid cr
    have CW := Lib.hid (fun w' => hi ▸ impl_within s 1 ((n : Int) - 2) w')
    clear ci cr hk hl hr hi
    go_enter Try.func50, Try.ntmps50
    go_wp2_with fail
    (have hWV : Below wo.heap.size wo (wo.alloc (.cells #[.int .i64 x, .int .i64 p] 26)) := (Below.refl _ _).alloc (Nat.le_refl _) _; have hV0 : wo.heap.size < (wo.alloc (.cells #[.int .i64 x, .int .i64 p] 26)).heap.size := (by simp); have hv0 : (wo.alloc (.cells #[.int .i64 x, .int .i64 p] 26)).cell? ⟨wo.heap.size, 0, none⟩ = some (.int .i64 x) := (by rw [cell_of_row _ _ _ _ _ _ (heap_alloc_new wo _)]; rfl); have hv1 : (wo.alloc (.cells #[.int .i64 x, .int .i64 p] 26)).cell? ⟨wo.heap.size, 1, none⟩ = some (.int .i64 p) := (by rw [cell_of_row _ _ _ _ _ _ (heap_alloc_new wo _)]; rfl); have HHW := Lib.hid hWV; have HV1 : Hid (wo.heap.size + 1 = (wo.alloc (.cells #[.int .i64 x, .int .i64 p] 26)).heap.size) := (show _ = _ by simp); generalize wo.alloc (.cells #[.int .i64 x, .int .i64 p] 26) = w at hWV HHW hV0 HV1 hv0 hv1 ⊢; have HH := Lib.hid (h.below hWV); have hB : Below w.heap.size w w := Below.refl _ _; have hwz : wo.heap.size ≤ w.heap.size := hWV.size; (try rw [HV1.out]); clear hWV)
    go_wp2_with (first | (go_at_call 107; refine (CI.out _ (by exact HH.out.below (by repeat (first | exact Below.refl _ _ | assumption | apply Below.drew | apply below_drewN | (refine Below.alloc ?_ (by first | omega | (simp; done) | (simp; omega)) _) | (refine Below.setCell ?_ (by first | omega | (simp; done) | (simp; omega)) _))))).mono ?_; rintro e w' ⟨rfl, hb⟩; have hB : Below w.heap.size w w' := Below.thenn (by repeat (first | exact Below.refl _ _ | assumption | apply Below.drew | apply below_drewN | (refine Below.alloc ?_ (by first | omega | (simp; done) | (simp; omega)) _) | (refine Below.setCell ?_ (by first | omega | (simp; done) | (simp; omega)) _))) hb (by first | omega | (simp; done) | (simp; omega)); have hz : w.heap.size ≤ w'.heap.size := hB.size; (try (have hz1 : w.heap.size + 1 ≤ w'.heap.size := (by have h := hb.size; (try simp at h); omega))); obtain ⟨hc, hf⟩ := bcell hb; (have b0 := (hB.cell (p := ⟨wo.heap.size, 0, none⟩) hV0).trans hv0; have b1 := (hB.cell (p := ⟨wo.heap.size, 1, none⟩) hV0).trans hv1; have hVk : wo.heap.size < w'.heap.size := Nat.lt_of_lt_of_le hV0 hB.size); clear hb) | (go_at_call 13; refine (CR.out _).mono ?_; rintro e w' ⟨rfl, hb⟩; have hB : Below w.heap.size w w' := Below.thenn (by repeat (first | exact Below.refl _ _ | assumption | apply Below.drew | apply below_drewN | (refine Below.alloc ?_ (by first | omega | (simp; done) | (simp; omega)) _) | (refine Below.setCell ?_ (by first | omega | (simp; done) | (simp; omega)) _))) hb (by first | omega | (simp; done) | (simp; omega)); have hz : w.heap.size ≤ w'.heap.size := hB.size; (try (have hz1 : w.heap.size + 1 ≤ w'.heap.size := (by have h := hb.size; (try simp at h); omega))); obtain ⟨hc, hf⟩ := bcell hb; (have b0 := (hB.cell (p := ⟨wo.heap.size, 0, none⟩) hV0).trans hv0; have b1 := (hB.cell (p := ⟨wo.heap.size, 1, none⟩) hV0).trans hv1; have hVk : wo.heap.size < w'.heap.size := Nat.lt_of_lt_of_le hV0 hB.size); clear hb) | (go_at_call 98; refine (CW.out _).mono ?_; rintro e w' ⟨rfl, rfl⟩))
    go_ret3
    exact ⟨rfl, (Below.thenn HHW.out (show Below w.heap.size w _ from (by repeat (first | exact Below.refl _ _ | assumption | apply Below.drew | apply below_drewN | (refine Below.alloc ?_ (by first | omega | (simp; done) | (simp; omega)) _) | (refine Below.setCell ?_ (by first | omega | (simp; done) | (simp; omega)) _)))) HHW.out.size)⟩
  · have hk : twOk rows x p s = true := by simp [twOk, h.2.1, hi, hl, hr]
    obtain ⟨b, off, k, hA, k1, k2, hs, hb, ⟨a0, a1, a2⟩, ⟨d0, d1, d2⟩, ⟨f0, f1, f2⟩, K, e1, e2⟩ := tw_rows h hk
    rw [hk, e1, e2]
    subst hA
    exact tower_I b off n c k s x p _ _ _ _ _ _ _ _ _ wo k1 k2 hm hs hb a0 a1 a2 d0 d1 d2 f0 f1 f2 K (Lib.hid (fun w' hw => ci w' (h.below hw))) (Lib.hid cr)
set_option maxHeartbeats 2000000 in
theorem spec_TowerAngle (A : Option Addr) (n c : Nat) (rows : List (List Int)) (x p s : Int) (wo : World) (h : RdL wo A n rows) (hm : n ≤ 1048577) :
    Calls Try.prog 51 #[.slice A n c, .agg #[.int .i64 x, .int .i64 p], .int .i64 s] wo (Ret wo (.tuple #[.int .i64 (twN rows x p s), .int .i64 (twD rows x p s), .bool (twOk rows x p s)])) := by
  have ci := fun w' (h' : RdL w' A n rows) => spec_l4Asked A n c rows x p 0 w' h' hm
  rw [tw_asked] at ci
  rcases hl : (lineOk rows && ropeOk x p) with _ | _
  · rw [hl] at ci
    have hk : twOk rows x p s = false := by
      simp only [Bool.and_eq_false_iff] at hl
      rcases hl with hl | hl <;> simp [twOk, hl]
    rw [hk, (tw_no hk).1, (tw_no hk).2]
    have CI := Lib.hid ci
    clear ci hk hl
    go_enter Try.func51, Try.ntmps51
    go_wp2_with fail
    (have hWV : Below wo.heap.size wo (wo.alloc (.cells #[.int .i64 x, .int .i64 p] 26)) := (Below.refl _ _).alloc (Nat.le_refl _) _; have hV0 : wo.heap.size < (wo.alloc (.cells #[.int .i64 x, .int .i64 p] 26)).heap.size := (by simp); have hv0 : (wo.alloc (.cells #[.int .i64 x, .int .i64 p] 26)).cell? ⟨wo.heap.size, 0, none⟩ = some (.int .i64 x) := (by rw [cell_of_row _ _ _ _ _ _ (heap_alloc_new wo _)]; rfl); have hv1 : (wo.alloc (.cells #[.int .i64 x, .int .i64 p] 26)).cell? ⟨wo.heap.size, 1, none⟩ = some (.int .i64 p) := (by rw [cell_of_row _ _ _ _ _ _ (heap_alloc_new wo _)]; rfl); have HHW := Lib.hid hWV; have HV1 : Hid (wo.heap.size + 1 = (wo.alloc (.cells #[.int .i64 x, .int .i64 p] 26)).heap.size) := (show _ = _ by simp); generalize wo.alloc (.cells #[.int .i64 x, .int .i64 p] 26) = w at hWV HHW hV0 HV1 hv0 hv1 ⊢; have HH := Lib.hid (h.below hWV); have hB : Below w.heap.size w w := Below.refl _ _; have hwz : wo.heap.size ≤ w.heap.size := hWV.size; (try rw [HV1.out]); clear hWV)
    go_wp2_with (go_at_call 101; refine (CI.out _ (by exact HH.out.below (by repeat (first | exact Below.refl _ _ | assumption | apply Below.drew | apply below_drewN | (refine Below.alloc ?_ (by first | omega | (simp; done) | (simp; omega)) _) | (refine Below.setCell ?_ (by first | omega | (simp; done) | (simp; omega)) _))))).mono ?_; rintro e w' ⟨rfl, hb⟩; have hB : Below w.heap.size w w' := Below.thenn (by repeat (first | exact Below.refl _ _ | assumption | apply Below.drew | apply below_drewN | (refine Below.alloc ?_ (by first | omega | (simp; done) | (simp; omega)) _) | (refine Below.setCell ?_ (by first | omega | (simp; done) | (simp; omega)) _))) hb (by first | omega | (simp; done) | (simp; omega)); have hz : w.heap.size ≤ w'.heap.size := hB.size; (try (have hz1 : w.heap.size + 1 ≤ w'.heap.size := (by have h := hb.size; (try simp at h); omega))); obtain ⟨hc, hf⟩ := bcell hb; (have b0 := (hB.cell (p := ⟨wo.heap.size, 0, none⟩) hV0).trans hv0; have b1 := (hB.cell (p := ⟨wo.heap.size, 1, none⟩) hV0).trans hv1; have hVk : wo.heap.size < w'.heap.size := Nat.lt_of_lt_of_le hV0 hB.size); clear hb)
    go_ret3
    exact ⟨rfl, (Below.thenn HHW.out (show Below w.heap.size w _ from (by repeat (first | exact Below.refl _ _ | assumption | apply Below.drew | apply below_drewN | (refine Below.alloc ?_ (by first | omega | (simp; done) | (simp; omega)) _) | (refine Below.setCell ?_ (by first | omega | (simp; done) | (simp; omega)) _)))) HHW.out.size)⟩
  rw [hl] at ci
  rcases hi : inr s 1 ((n : Int) - 2) with _ | _
  · have hk : twOk rows x p s = false := by simp [twOk, h.2.1, hi]
    rw [hk, (tw_no hk).1, (tw_no hk).2]
    have u1 : IntKind.i64.wrap ((n : Int) - 2) = (n : Int) - 2 := IntWalk.i64_in _ (by omega)
    have CI := Lib.hid ci
    have CW := Lib.hid (fun w' => hi ▸ spec_l1In s 1 ((n : Int) - 2) w')
    clear ci hk hl hi
    go_enter Try.func51, Try.ntmps51
    go_wp2_with fail
    (have hWV : Below wo.heap.size wo (wo.alloc (.cells #[.int .i64 x, .int .i64 p] 26)) := (Below.refl _ _).alloc (Nat.le_refl _) _; have hV0 : wo.heap.size < (wo.alloc (.cells #[.int .i64 x, .int .i64 p] 26)).heap.size := (by simp); have hv0 : (wo.alloc (.cells #[.int .i64 x, .int .i64 p] 26)).cell? ⟨wo.heap.size, 0, none⟩ = some (.int .i64 x) := (by rw [cell_of_row _ _ _ _ _ _ (heap_alloc_new wo _)]; rfl); have hv1 : (wo.alloc (.cells #[.int .i64 x, .int .i64 p] 26)).cell? ⟨wo.heap.size, 1, none⟩ = some (.int .i64 p) := (by rw [cell_of_row _ _ _ _ _ _ (heap_alloc_new wo _)]; rfl); have HHW := Lib.hid hWV; have HV1 : Hid (wo.heap.size + 1 = (wo.alloc (.cells #[.int .i64 x, .int .i64 p] 26)).heap.size) := (show _ = _ by simp); generalize wo.alloc (.cells #[.int .i64 x, .int .i64 p] 26) = w at hWV HHW hV0 HV1 hv0 hv1 ⊢; have HH := Lib.hid (h.below hWV); have hB : Below w.heap.size w w := Below.refl _ _; have hwz : wo.heap.size ≤ w.heap.size := hWV.size; (try rw [HV1.out]); clear hWV)
    go_wp2_with (first | (go_at_call 101; refine (CI.out _ (by exact HH.out.below (by repeat (first | exact Below.refl _ _ | assumption | apply Below.drew | apply below_drewN | (refine Below.alloc ?_ (by first | omega | (simp; done) | (simp; omega)) _) | (refine Below.setCell ?_ (by first | omega | (simp; done) | (simp; omega)) _))))).mono ?_; rintro e w' ⟨rfl, hb⟩; have hB : Below w.heap.size w w' := Below.thenn (by repeat (first | exact Below.refl _ _ | assumption | apply Below.drew | apply below_drewN | (refine Below.alloc ?_ (by first | omega | (simp; done) | (simp; omega)) _) | (refine Below.setCell ?_ (by first | omega | (simp; done) | (simp; omega)) _))) hb (by first | omega | (simp; done) | (simp; omega)); have hz : w.heap.size ≤ w'.heap.size := hB.size; (try (have hz1 : w.heap.size + 1 ≤ w'.heap.size := (by have h := hb.size; (try simp at h); omega))); obtain ⟨hc, hf⟩ := bcell hb; (have b0 := (hB.cell (p := ⟨wo.heap.size, 0, none⟩) hV0).trans hv0; have b1 := (hB.cell (p := ⟨wo.heap.size, 1, none⟩) hV0).trans hv1; have hVk : wo.heap.size < w'.heap.size := Nat.lt_of_lt_of_le hV0 hB.size); clear hb) | (go_at_call 102; refine (CW.out _).mono ?_; rintro e w' ⟨rfl, rfl⟩))
    go_ret3
    exact ⟨rfl, (Below.thenn HHW.out (show Below w.heap.size w _ from (by repeat (first | exact Below.refl _ _ | assumption | apply Below.drew | apply below_drewN | (refine Below.alloc ?_ (by first | omega | (simp; done) | (simp; omega)) _) | (refine Below.setCell ?_ (by first | omega | (simp; done) | (simp; omega)) _)))) HHW.out.size)⟩
  · have hlr : lineOk rows = true ∧ ropeOk x p = true := by simpa using hl
    have hk : twOk rows x p s = true := by simp [twOk, h.2.1, hi, hlr.1, hlr.2]
    obtain ⟨b, off, k, hA, k1, k2, hs, hb, ⟨a0, a1, a2⟩, ⟨d0, d1, d2⟩, ⟨f0, f1, f2⟩, K, e1, e2⟩ := tw_rows h hk
    rw [hk, e1, e2]
    subst hA
    exact tower_S b off n c k s x p _ _ _ _ _ _ _ _ _ wo k1 k2 hm hs hb a0 a1 a2 d0 d1 d2 f0 f1 f2 K (Lib.hid (fun w' hw => ci w' (h.below hw)))
end Go.Proofs.Ytjfmicemnoglkaa
