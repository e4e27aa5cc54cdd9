/- The law FnPasses: its walk. -/
import Derived.Test.YtidjgbonlejhhaaDrawE
import Derived.Test.YtidjgbonlejhhaaKlaw
import Derived.Test.YtidjgbonlejhhaaPassP
import Derived.Deep.CutRange
namespace Go.Proofs.Ytidjgbonlejhhaa
open Go.RowKit
set_option linter.unusedVariables false
set_option linter.unusedSimpArgs false

/-- A circle of the law's own in its box. -/
def BX (W w : World) (p : Nat) (l s : Int) (A : Option Addr) (n c : Nat) (zs : List Int) : Prop := Blk w p 27 #[.int .i64 l, .int .i64 s, .slice A n c] ∧ Ow w W.heap.size (.slice A n c) zs
section
variable {W w w' : World} {p : Nat} {l s : Int} {A : Option Addr} {n c : Nat} {zs : List Int}
theorem BX.below (h : BX W w p l s A n c zs) (hb : Below w.heap.size w w') : BX W w' p l s A n c zs := ⟨h.1.below hb h.1.lt, h.2.below hb⟩
theorem BX.cells (h : BX W w p l s A n c zs) : w.cell? ⟨p, 0, none⟩ = some (.int .i64 l) ∧ w.cell? ⟨p, 1, none⟩ = some (.int .i64 s) ∧ w.cell? ⟨p, 2, none⟩ = some (.slice A n c) :=
  ⟨by simpa using h.1.cell 0, by simpa using h.1.cell 1, by simpa using h.1.cell 2⟩
theorem BX.rd (h : BX W w p l s A n c zs) : Rd w 1 A n (IV zs) := h.2.rd
theorem BX.start {B : Nat} (ho : Ow w B (.slice A n c) zs) (hB : W.heap.size ≤ B) : BX W (w.alloc (.cells #[.int .i64 l, .int .i64 s, .slice A n c] 27)) w.heap.size l s A n c zs :=
  ⟨Blk.new _ _ _, (ho.alloc _).base hB⟩
end
def TailC (W wx : World) : Prop := Below W.heap.size W wx
set_option maxRecDepth 100000 in
set_option maxHeartbeats 8000000 in
theorem law_FnPasses (A : Option Addr) (n c : Nat) (zs : List Int) (W : World) (h : Came .u8 W A n c zs) :
    Calls Try.prog 12 #[.slice A n c] W (Ret W (.bool true)) := by
  by_cases hbig : 65536 < n
  · go_enter Try.func12, Try.ntmps12
    go_wp2_with (go_at_call 40; refine (laws_vBig _ _ _ _).mono ?_; rintro e w' ⟨rfl, rfl⟩)
    go_ret
    exact ⟨rfl, Below.refl _ _⟩
  have hS : Src.ok ⟨A, n, c, zs⟩ W := came_src h (by omega)
  have HS := Lib.hid hS
  have B0 := Lib.hid (Below.refl W.heap.size W)
  clear h hS
  go_enter Try.func12, Try.ntmps12
  go_wp2_with (go_at_call 40; refine (laws_vBig _ _ _ _).mono ?_; rintro e w' ⟨rfl, rfl⟩)
  go_wp2_with fail
  refine (draw_NextPass _ _ (HS.out.below B0.out)).mono ?_
  rintro e w1 ⟨l, s, A1, c1, xs, place, time, rfl, hl, ho, hb⟩
  have X1 := Lib.hid (BX.start (W := W) (l := l) (s := s) ho B0.out.size)
  have B1 := Lib.hid ((Below.thenn B0.out hb B0.out.size).alloc (Nat.le_trans B0.out.size hb.size) (.cells #[.int .i64 l, .int .i64 s, .slice A1 xs.length c1] 27))
  clear ho hb
  go_wp2_with fail
  generalize w1.alloc (.cells #[.int .i64 l, .int .i64 s, .slice A1 xs.length c1] 27) = v1 at *
  obtain ⟨c0, hc1, c2⟩ := X1.out.cells
  (go_wp2_with fail; refine (impl_NextPass l s _ _ _ xs place time v1 X1.out.rd (by omega)).mono ?_; rintro e w2 ⟨rfl, hb⟩; have B2 := Lib.hid (Below.thenn B1.out hb B1.out.size); have X2 := Lib.hid (X1.out.below hb); clear c0 hc1 c2; obtain ⟨c0, hc1, c2⟩ := X2.out.cells; clear hb)
  (go_wp2_with fail; refine (spec_NextPass l s _ _ _ xs place time w2 X2.out.rd (by omega)).mono ?_; rintro e w3 ⟨rfl, hb⟩; have B3 := Lib.hid (Below.thenn B2.out hb B2.out.size); have X3 := Lib.hid (X2.out.below hb); clear c0 hc1 c2; obtain ⟨c0, hc1, c2⟩ := X3.out.cells; clear hb)
  clear X1 X2 B0 B1 B2
  go_upto_if 78 with fail
  go_cut [6, 7, 8, 9, 10, 11, 12, 13, 14, 15] (fun q6 q7 q8 q9 q10 q11 q12 q13 q14 q15 wx => Hid (TailC W wx))
  case first =>
    as_aux_lemma =>
      rcases hk : nextOk l s xs place time with _ | _
      · go_wp2_with fail
        go_meet
        exact B3
      · obtain ⟨f1, f2, f3⟩ := pass_facts hk
        have F3 := Lib.hid f3
        clear f3
        have f4 : ¬ (nextT l s xs place time < time) := by omega
        generalize nextT l s xs place time = T at *
        (go_wp2_with fail; refine (impl_PassesBy l s _ _ _ xs place T w3 X3.out.rd (by omega)).mono ?_; rintro e w4 ⟨rfl, hb⟩; have B4 := Lib.hid (Below.thenn B3.out hb B3.out.size); have X4 := Lib.hid (X3.out.below hb); clear c0 hc1 c2; obtain ⟨c0, hc1, c2⟩ := X4.out.cells; clear hb)
        rcases hk2 : passOk l s xs place T with _ | _
        · go_wp2_with fail
          go_meet
          exact B4
        · obtain ⟨g1, g2⟩ := F3.out hk2
          have g3 : ¬ (passV l s xs place T < passV l s xs place time) := by omega
          have g4 : (passV l s xs place T == 0) = false := by simpa using g2
          clear g1 g2
          (go_wp2_with fail; refine (impl_PassesBy l s _ _ _ xs place time w4 X4.out.rd (by omega)).mono ?_; rintro e w5 ⟨rfl, hb⟩; have B5 := Lib.hid (Below.thenn B4.out hb B4.out.size); have X5 := Lib.hid (X4.out.below hb); clear c0 hc1 c2; obtain ⟨c0, hc1, c2⟩ := X5.out.cells; clear hb)
          go_wp2_with fail
          go_meet
          exact B5
  case rest =>
    as_aux_lemma =>
      have C0 : Hid (Below W.heap.size W wc) := hcut
      clear hcut
      clear c0 hc1 c2 X3 B3
      go_wp2_with fail
      refine (draw_PassesBy _ _ (HS.out.below C0.out)).mono ?_
      rintro e w1 ⟨l2, s2, A2, c2', ys, place2, time2, rfl, hl2, ho, hb⟩
      have X1 := Lib.hid (BX.start (W := W) (l := l2) (s := s2) ho C0.out.size)
      have B1 := Lib.hid ((Below.thenn C0.out hb C0.out.size).alloc (Nat.le_trans C0.out.size hb.size) (.cells #[.int .i64 l2, .int .i64 s2, .slice A2 ys.length c2'] 27))
      clear ho hb
      go_wp2_with fail
      generalize w1.alloc (.cells #[.int .i64 l2, .int .i64 s2, .slice A2 ys.length c2'] 27) = v1 at *
      obtain ⟨c0, hc1, c2⟩ := X1.out.cells
      (go_wp2_with fail; refine (impl_PassesBy l2 s2 _ _ _ ys place2 time2 v1 X1.out.rd (by omega)).mono ?_; rintro e w2 ⟨rfl, hb⟩; have B2 := Lib.hid (Below.thenn B1.out hb B1.out.size); have X2 := Lib.hid (X1.out.below hb); clear c0 hc1 c2; obtain ⟨c0, hc1, c2⟩ := X2.out.cells; clear hb)
      (go_wp2_with fail; refine (spec_PassesBy l2 s2 _ _ _ ys place2 time2 w2 X2.out.rd (by omega)).mono ?_; rintro e w3 ⟨rfl, hb⟩; have B3 := Lib.hid (Below.thenn B2.out hb B2.out.size); have X3 := Lib.hid (X2.out.below hb); clear c0 hc1 c2; obtain ⟨c0, hc1, c2⟩ := X3.out.cells; clear hb)
      clear X1 X2 X3 B1 B2 c0 hc1 c2
      go_wp2_with fail
      refine (draw_PlacesAt _ _ (HS.out.below B3.out)).mono ?_
      rintro e w4 ⟨l, s, A, c, us, time, rfl, hl, ho, hb⟩
      have X1 := Lib.hid (BX.start (W := W) (l := l) (s := s) ho B3.out.size)
      have B4 := Lib.hid ((Below.thenn B3.out hb B3.out.size).alloc (Nat.le_trans B3.out.size hb.size) (.cells #[.int .i64 l, .int .i64 s, .slice A us.length c] 27))
      clear ho hb
      have hpl := placesV_len (l := l) (s := s) (time := time) (show us.length ≤ 1048576 by omega)
      go_wp2_with fail
      generalize w4.alloc (.cells #[.int .i64 l, .int .i64 s, .slice A us.length c] 27) = v4 at *
      obtain ⟨c0, hc1, c2⟩ := X1.out.cells
      (go_wp2_with fail; refine (impl_PlacesAt l s _ _ _ us time v4 X1.out.rd (by omega)).mono ?_; rintro e w5 ⟨A5, c5, rfl, ho, hb⟩; have O5 := Lib.hid ho; have B5 := Lib.hid (Below.thenn B4.out hb B4.out.size); have Qw5 := Lib.hid hb; have X2 := Lib.hid (X1.out.below hb); clear c0 hc1 c2; obtain ⟨c0, hc1, c2⟩ := X2.out.cells; clear ho hb)
      (go_wp2_with fail; refine (spec_PlacesAt l s _ _ _ us time w5 X2.out.rd (by omega)).mono ?_; rintro e w6 ⟨A6, c6, rfl, ho, hb⟩; have O6 := Lib.hid ho; have B6 := Lib.hid (Below.thenn B5.out hb B5.out.size); have Qw6 := Lib.hid hb; have X3 := Lib.hid (X2.out.below hb); clear c0 hc1 c2; obtain ⟨c0, hc1, c2⟩ := X3.out.cells; clear ho hb)
      have P6 := Lib.hid (O5.out.below Qw6.out)
      (go_wp2_with fail; refine (laws_vInts _ _ _ _ _ _ _ _ _ P6.out.rd O6.out.rd (by omega) (by omega)).mono ?_; intro e w7 hq; obtain ⟨rfl, hb⟩ := hq.ret; have B7 := Lib.hid (Below.thenn B6.out hb B6.out.size); have Qw7 := Lib.hid hb; clear hb hq)
      have P7 := Lib.hid (P6.out.below Qw7.out)
      have X4 := Lib.hid (X3.out.below Qw7.out)
      clear X1 X2 X3 B3 B4 B5 B6 O5 O6 P6 Qw5 Qw6 Qw7 c0 hc1 c2
      obtain ⟨c0, hc1, c2⟩ := X4.out.cells
      go_upto_if 162 with fail
      go_cut [25, 26, 27, 28, 29, 30, 31, 32, 33] (fun q25 q26 q27 q28 q29 q30 q31 q32 q33 wx => Hid (TailC W wx))
      case first =>
        as_aux_lemma =>
          rcases hk : plOk l s us time with _ | _
          · go_wp2_with fail
            go_meet
            exact B7
          · have hg : circOk l s us = true := by simp only [plOk, Bool.and_eq_true] at hk; exact hk.1
            have HW := Lib.hid (fun (M i j : Nat) (hM : us.length = M) (hi : i < M) (hj : j = (i + 1) % M) (x y g : Int) => way_fact hk hM hi hj (x := x) (y := y) (g := g))
            have e1 : (placesV l s us time).length = us.length := by simp [placesV, hk]
            have e2 : (gapsV l s us).length = us.length := by simp [gapsV, hg, gapsL_len]
            have cg := impl_GapsOf l s A us.length c us w7 X4.out.rd (by omega)
            rw [hg] at cg
            have CG := Lib.hid cg
            clear cg hg
            generalize placesV l s us time = ps at *
            generalize gapsV l s us = gs at *
            have hM0 : us.length = us.length := rfl
            generalize hM : us.length = M at *
            have HM := Lib.hid hM
            have HE1 := Lib.hid e1
            have HE2 := Lib.hid e2
            rw [e1] at P7
            rw [e1]
            clear hM0 hM e1 e2 hpl
            go_wp2_with fail
            refine (CG.out).mono ?_
            rintro e w8 ⟨A8, c8, rfl, ho, hb⟩
            rw [HE2.out] at ho
            rw [HE2.out]
            have O8 := Lib.hid ho
            have B8 := Lib.hid (Below.thenn B7.out hb B7.out.size)
            have X8 := Lib.hid (X4.out.below hb)
            have P8 := Lib.hid (P7.out.below hb)
            clear c0 hc1 c2
            obtain ⟨c0, hc1, c2⟩ := X8.out.cells
            clear ho hb CG X4 P7
            go_wp2_with fail
            go_loopg [32] M (fun g i wr => ∃ k q : Nat, k ≤ M ∧ M ≤ k + g ∧ i = .int .i64 k ∧ w8.drewN q = wr)
            case atStart => exact ⟨0, 0, by omega, by omega, rfl, rfl⟩
            case round =>
              obtain ⟨k, q, hk1, hk2, rfl, rfl⟩ := hrel
              by_cases hlt : k < M
              · obtain ⟨j, hj⟩ : ∃ j, j = (k + 1) % M := ⟨_, rfl⟩
                obtain ⟨k', hk'⟩ : ∃ k', k' = k + 1 := ⟨_, rfl⟩
                have hjM : j < M := by rw [hj]; exact Nat.mod_lt _ (by omega)
                obtain ⟨b1, off1, x, e1, hx, cx⟩ := P8.out.rd.at1 hjM
                subst e1
                obtain ⟨b2, off2, y, e2, hy, cy⟩ := P8.out.rd.at1 hlt
                injection e2 with e2
                injection e2 with e2 e3
                subst e2 e3
                obtain ⟨b3, off3, g, e4, hgk, cz⟩ := O8.out.rd.at1 hlt
                subst e4
                obtain ⟨x0, x1, y0, y1, hway, l0, l1, g0, g1⟩ := HW.out M k j rfl hlt hj x y g hx hy hgk
                have HWAY := Lib.hid hway
                have u1 : IntKind.i64.wrap ((k : Int) + 1) = (k' : Int) := (IntWalk.i64_in _ (by omega)).trans (by omega)
                have u2 : ((k' : Int)).tmod (M : Int) = (j : Int) := by
                  rw [Int.tmod_eq_emod_of_nonneg (by omega), hj, hk']
                  simp
                have u3 : IntKind.i64.wrap (x - y) = x - y := IntWalk.i64_in _ (by omega)
                have u4 : IntKind.i64.wrap (10 * l) = 10 * l := IntWalk.i64_in _ (by omega)
                have u5 : IntKind.i64.wrap (x - y + 10 * l) = x - y + 10 * l := IntWalk.i64_in _ (by omega)
                have u6 : ((M : Int) == 0) = false := by simp; omega
                have u7 : (10 * l == 0) = false := by simp; omega
                have u8 : IntKind.i64.wrap (10 * g) = 10 * g := IntWalk.i64_in _ (by omega)
                have v6 : ¬ ((M : Int) = 0) := by omega
                have v7 : ¬ (10 * l = 0) := by omega
                have hk3 : k' ≤ k + 1 := by omega
                have hk4 : k + 1 ≤ k' := by omega
                clear hx hy hgk hway hj hk'
                rcases Nat.lt_or_ge 1 M with h1 | h1
                · have u9 := HWAY.out h1
                  have d1 : decide ((1 : Int) < (M : Int)) = true := by simp; omega
                  go_wp2_with fail
                  go_quiet (fail)
                  go_wp2_with fail
                  go_roundg (M - k')
                  case measure => omega
                  case rel => exact ⟨k', _, by omega, by omega, by go_num, rfl⟩
                · have d1 : decide ((1 : Int) < (M : Int)) = false := by simp; omega
                  go_wp2_with fail
                  go_quiet (fail)
                  go_wp2_with fail
                  go_roundg (M - k')
                  case measure => omega
                  case rel => exact ⟨k', _, by omega, by omega, by go_num, rfl⟩
              · go_wp2_with fail
                go_meet
                exact Lib.hid (below_drewN B8.out q)
      case rest =>
        as_aux_lemma =>
          have D0 : Hid (Below W.heap.size W wc) := hcut
          clear hcut c0 hc1 c2 X4 B7 P7 hpl
          go_wp2_with fail
          refine (draw_RoundTime _ _ (HS.out.below D0.out)).mono ?_
          rintro e w8 ⟨l3, s3, A3, c3, vs, rfl, hl3, ho, hb⟩
          have X1 := Lib.hid (BX.start (W := W) (l := l3) (s := s3) ho D0.out.size)
          have B8 := Lib.hid ((Below.thenn D0.out hb D0.out.size).alloc (Nat.le_trans D0.out.size hb.size) (.cells #[.int .i64 l3, .int .i64 s3, .slice A3 vs.length c3] 27))
          clear ho hb
          go_wp2_with fail
          generalize w8.alloc (.cells #[.int .i64 l3, .int .i64 s3, .slice A3 vs.length c3] 27) = v8 at *
          obtain ⟨c0, hc1, c2⟩ := X1.out.cells
          (go_wp2_with fail; refine (impl_RoundTime l3 s3 _ _ _ vs v8 X1.out.rd (by omega)).mono ?_; rintro e w9 ⟨rfl, hb⟩; have B9 := Lib.hid (Below.thenn B8.out hb B8.out.size); have X2 := Lib.hid (X1.out.below hb); clear c0 hc1 c2; obtain ⟨c0, hc1, c2⟩ := X2.out.cells; clear hb)
          (go_wp2_with fail; refine (spec_RoundTime l3 s3 _ _ _ vs w9 X2.out.rd (by omega)).mono ?_; rintro e w10 ⟨rfl, hb⟩; have B10 := Lib.hid (Below.thenn B9.out hb B9.out.size); have X3 := Lib.hid (X2.out.below hb); clear c0 hc1 c2; obtain ⟨c0, hc1, c2⟩ := X3.out.cells; clear hb)
          rcases hk : circOk l3 s3 vs with _ | _
          · go_wp2_with fail
            go_ret
            exact ⟨rfl, B10.out⟩
          · have hf := round_fact hk
            obtain ⟨r1, r2, r3, r4⟩ := round_bd hk
            have hcb := circOk_iff.1 hk
            have b1 := hcb.1.1
            have b2 := hcb.1.2
            have b3 := hcb.2.1.1
            have b4 := hcb.2.1.2
            clear hcb
            generalize rtN l3 s3 vs = N at *
            generalize rtD l3 s3 vs = D at *
            have m1 : 0 ≤ N * s3 := Int.mul_nonneg r1 (by omega)
            have m2 : N * s3 ≤ 40000 * 100 := Int.mul_le_mul r2 b4 (by omega) (by omega)
            have u1 : IntKind.i64.wrap (10 * l3) = 10 * l3 := IntWalk.i64_in _ (by omega)
            have u2 : IntKind.i64.wrap (N * s3) = N * s3 := IntWalk.i64_in _ (by omega)
            have u3 : IntKind.i64.wrap (10 * l3 * D) = N * s3 := by rw [← hf]; exact u2
            clear hf m1 m2 r1 r2 r3 r4
            go_wp2_with fail
            go_ret
            exact ⟨rfl, B10.out⟩
end Go.Proofs.Ytidjgbonlejhhaa
