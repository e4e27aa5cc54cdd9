/- The clearance at a place, the reference's way. -/
import Derived.Test.YtjfmicemnoglkaaClrEX
import Derived.Test.YtjfmicemnoglkaaChoC
import Derived.Deep.CutRange
namespace Go.Proofs.Ytjfmicemnoglkaa
open Go.RowKit
set_option linter.unusedVariables false
set_option linter.unusedSimpArgs false

theorem Blk.drew9 {w : World} {g : Nat} {t : TypeId} {cs : Array Value} (h : Blk w g t cs) : Blk w.drew g t cs := h
theorem Blk.new9 {w : World} {q : Nat} {t : TypeId} {cs : Array Value} (h : q = w.heap.size) : Blk (w.alloc (.cells cs t)) q t cs := h ▸ Blk.new w t cs
theorem mulT {a b A B : Int} (h0 : -A ≤ a) (h1 : a ≤ A) (hb0 : 0 ≤ b) (hb : b ≤ B) (hA : 0 ≤ A) : -(A * B) ≤ a * b ∧ a * b ≤ A * B := by
  have m1 := Int.mul_le_mul_of_nonneg_right (c := b) h1 hb0
  have m2 := Int.mul_le_mul_of_nonneg_right (c := b) h0 hb0
  have m3 := Int.mul_le_mul_of_nonneg_left (a := b) (b := B) (c := A) hb hA
  have m4 : -A * b = -(A * b) := Int.neg_mul _ _
  omega
/-- The reference's numbers stay small. -/
theorem ClrAt.sl {rows g : List (List Int)} {w p place : Int} (h : ClrAt rows g w p place) :
    (-18000000000 ≤ redN (elN rows g place) (elD rows g place) ∧ redN (elN rows g place) (elD rows g place) ≤ 18000000000) ∧ (0 < redD (elN rows g place) (elD rows g place) ∧ redD (elN rows g place) (elD rows g place) ≤ 9000000) ∧
    (-3600000000000000 ≤ redN (elN rows g place) (elD rows g place) * 2 * p ∧ redN (elN rows g place) (elD rows g place) * 2 * p ≤ 3600000000000000) ∧
    (0 ≤ w * lX rows place ∧ w * lX rows place ≤ 600000) ∧ (0 ≤ w * lX rows place * lY rows place ∧ w * lX rows place * lY rows place ≤ 1800000000) ∧
    (0 ≤ w * lX rows place * lY rows place * redD (elN rows g place) (elD rows g place) ∧ w * lX rows place * lY rows place * redD (elN rows g place) (elD rows g place) ≤ 16200000000000000) ∧
    (-20000000000000000 ≤ slN_ rows g w p place ∧ slN_ rows g w p place ≤ 20000000000000000) ∧ (0 < slD_ rows g p place ∧ slD_ rows g p place ≤ 1800000000000) := by
  obtain ⟨e1, e2, _, _⟩ := h.el
  have n1 := redN_abs (a := elN rows g place) e2.1 (M := 18000000000) (by omega) e1.2
  have d1 := redD_pos (a := elN rows g place) e2.1
  have d2 := redD_le (a := elN rows g place) e2.1
  unfold slN_ slD_
  generalize redN (elN rows g place) (elD rows g place) = N at *
  generalize redD (elN rows g place) (elD rows g place) = D at *
  have hp := h.p
  have hw := h.w
  have m1 := mulT (a := N * 2) (A := 36000000000) (b := p) (B := 100000) (by omega) (by omega) (by omega) hp.2 (by omega)
  have m2 := mulB (a := w) (A := 200) (by omega) hw.2 h.x.1 h.x.2
  have m3 := mulB m2.1 m2.2 h.y.1 h.y.2
  have m4 := mulB (b := D) (B := 9000000) m3.1 m3.2 (by omega) (by omega)
  have m5 := mulB (a := D * 2) (A := 18000000) (b := p) (B := 100000) (by omega) (by omega) (by omega) hp.2
  have m6 := Int.mul_pos (a := D * 2) (b := p) (by omega) (by omega)
  omega
set_option maxRecDepth 100000 in
set_option maxHeartbeats 4000000 in
theorem spec_l4Clear (A A2 : Option Addr) (n c m c2 : Nat) (rows g : List (List Int)) (s p place : Int) (wo : World) (h : RdL wo A n rows) (h2 : RdR wo 2 A2 m g) (hn : n ≤ 1048577) (hm : m ≤ 1048577) (hl : lineOk rows = true) (hg : grdA rows g = true) (hr : ropeOk s p = true) (h0 : 0 ≤ place) (h1 : place ≤ endN rows) :
    Calls Try.prog 123 #[.slice A n c, .agg #[.int .i64 s, .int .i64 p], .slice A2 m c2, .int .i64 place] wo (Ret wo (.tuple #[.int .i64 (slN_ rows g s p place), .int .i64 (slD_ rows g p place)])) := by
  have K := clr_at hl hg hr h0 h1
  have KE := K.el
  obtain ⟨z1, z2, z3, z4, z5, z6, z7, z8⟩ := K.sl
  have hon : onOk rows place = true := onOk_iff.2 ⟨hl, h0, h1⟩
  have CC := Lib.hid (fun w' (h' : RdL w' A n rows) => spec_l2Chord A n c rows place w' h' hn hon)
  have CP := Lib.hid (fun w' (h' : RdL w' A n rows) => spec_l4Parts A n c rows place w' h' hn hon)
  have CG := Lib.hid (fun w' (h' : RdR w' 2 A2 m g) => gparts h' hl hg h0 h1)
  have HS := Lib.hid (gln_parts (lineOk_line hl) hg h0 h1).1
  have CR := Lib.hid (fun w' => spec_l2Reduce (elN rows g place) (elD rows g place) w' (by omega) (by omega))
  have HGO := Lib.hid h2
  have w1 : IntKind.i64.wrap (chN rows place * lL g place) = chN rows place * lL g place := IntWalk.i64_in _ (by omega)
  have w2 : IntKind.i64.wrap (chN g place * lL rows place) = chN g place * lL rows place := IntWalk.i64_in _ (by omega)
  have w3 : IntKind.i64.wrap (chN rows place * lL g place - chN g place * lL rows place) = elN rows g place := IntWalk.i64_in _ (show _ ≤ elN rows g place ∧ elN rows g place ≤ _ by omega)
  have w4 : IntKind.i64.wrap (lL rows place * lL g place) = elD rows g place := IntWalk.i64_in _ (show _ ≤ elD rows g place ∧ elD rows g place ≤ _ by omega)
  have w5 : IntKind.i64.wrap (redN (elN rows g place) (elD rows g place) * 2) = redN (elN rows g place) (elD rows g place) * 2 := IntWalk.i64_in _ (by omega)
  have w6 : IntKind.i64.wrap (redN (elN rows g place) (elD rows g place) * 2 * p) = redN (elN rows g place) (elD rows g place) * 2 * p := IntWalk.i64_in _ (by omega)
  have w7 : IntKind.i64.wrap (s * lX rows place) = s * lX rows place := IntWalk.i64_in _ (by omega)
  have w8 : IntKind.i64.wrap (s * lX rows place * lY rows place) = s * lX rows place * lY rows place := IntWalk.i64_in _ (by omega)
  have w9 : IntKind.i64.wrap (s * lX rows place * lY rows place * redD (elN rows g place) (elD rows g place)) = s * lX rows place * lY rows place * redD (elN rows g place) (elD rows g place) := IntWalk.i64_in _ (by omega)
  have w10 : IntKind.i64.wrap (redN (elN rows g place) (elD rows g place) * 2 * p - s * lX rows place * lY rows place * redD (elN rows g place) (elD rows g place)) = slN_ rows g s p place := IntWalk.i64_in _ (show _ ≤ slN_ rows g s p place ∧ slN_ rows g s p place ≤ _ by omega)
  have w11 : IntKind.i64.wrap (redD (elN rows g place) (elD rows g place) * 2) = redD (elN rows g place) (elD rows g place) * 2 := IntWalk.i64_in _ (by omega)
  have w12 : IntKind.i64.wrap (redD (elN rows g place) (elD rows g place) * 2 * p) = slD_ rows g p place := IntWalk.i64_in _ (show _ ≤ slD_ rows g p place ∧ slD_ rows g p place ≤ _ by omega)
  clear K KE z1 z2 z3 z4 z5 z6 z7 z8 hl hg hr h0 h1 hon h2
  generalize slN_ rows g s p place = RN at *
  generalize slD_ rows g p place = RD at *
  generalize redN (elN rows g place) (elD rows g place) = rn at *
  generalize redD (elN rows g place) (elD rows g place) = rd at *
  generalize elN rows g place = en at *
  generalize elD rows g place = ed at *
  generalize chN rows place = a1 at *
  generalize lL rows place = a2 at *
  generalize lX rows place = a3 at *
  generalize lY rows place = a4 at *
  go_enter Try.func123, Try.ntmps123
  go_wp2_with fail
  (have hWV : Below wo.heap.size wo (wo.alloc (.cells #[.int .i64 s, .int .i64 p] 26)) := (Below.refl _ _).alloc (Nat.le_refl _) _; have hV0 : wo.heap.size < (wo.alloc (.cells #[.int .i64 s, .int .i64 p] 26)).heap.size := (by simp); have hv0 : (wo.alloc (.cells #[.int .i64 s, .int .i64 p] 26)).cell? ⟨wo.heap.size, 0, none⟩ = some (.int .i64 s) := (by rw [cell_of_row _ _ _ _ _ _ (heap_alloc_new wo _)]; rfl); have hv1 : (wo.alloc (.cells #[.int .i64 s, .int .i64 p] 26)).cell? ⟨wo.heap.size, 1, none⟩ = some (.int .i64 p) := (by rw [cell_of_row _ _ _ _ _ _ (heap_alloc_new wo _)]; rfl); have HHW := Lib.hid hWV; have HV1 : Hid (wo.heap.size + 1 = (wo.alloc (.cells #[.int .i64 s, .int .i64 p] 26)).heap.size) := (show _ = _ by simp); generalize wo.alloc (.cells #[.int .i64 s, .int .i64 p] 26) = w at hWV HHW hV0 HV1 hv0 hv1 ⊢; have HH := Lib.hid (h.below hWV); have hB : Below w.heap.size w w := Below.refl _ _; have hwz : wo.heap.size ≤ w.heap.size := hWV.size; (try rw [HV1.out]); clear hWV)
  have HG2 := Lib.hid (HGO.out.below HHW.out)
  refine (CC.out _ HH.out).mono ?_
  rintro e v1 ⟨rfl, hb⟩
  have B1 := Lib.hid hb
  clear hb hB
  go_wp2_with fail
  refine (CP.out v1 (HH.out.below B1.out)).mono ?_
  rintro e v2 ⟨rfl, hb⟩
  have B2 := Lib.hid (Below.thenn B1.out hb B1.out.size)
  clear hb CC CP B1
  have G2 := Lib.hid (HG2.out.below B2.out)
  have b0 := Lib.hid ((B2.out.cell (p := ⟨wo.heap.size, 0, none⟩) hV0).trans hv0)
  have b1 := Lib.hid ((B2.out.cell (p := ⟨wo.heap.size, 1, none⟩) hV0).trans hv1)
  obtain ⟨b, off, x, y, hx, hy, hA, hb, hk, hn8, ⟨c0, c1⟩, ⟨d0, d1⟩, hxy, hhx, hhy, e1, e9, e2, q1, e7, e8, q2, q3⟩ := CG.out v2 G2.out
  have u1 : IntKind.i64.wrap (hx * (y - place)) = hx * (y - place) := IntWalk.i64_in _ (by omega)
  have u2 : IntKind.i64.wrap (hy * (place - x)) = hy * (place - x) := IntWalk.i64_in _ (by omega)
  have u3 : IntKind.i64.wrap (y - x) = lL g place := by rw [e1]; exact IntWalk.i64_in _ (by omega)
  have u4 : IntKind.i64.wrap (place - x) = place - x := IntWalk.i64_in _ (by omega)
  have u6 : IntKind.i64.wrap (y - place) = y - place := IntWalk.i64_in _ (by omega)
  have u7 : IntKind.i64.wrap (hx * (y - place) + hy * (place - x)) = chN g place := by rw [e2]; exact IntWalk.i64_in _ (by omega)
  clear e1 e2 e7 e8 e9 q1 q2 q3 CG
  generalize lL g place = a5 at *
  generalize chN g place = a6 at *
  obtain ⟨N, hN⟩ : ∃ N, N = spanN g place := ⟨_, rfl⟩
  rw [← hN] at c0 c1 d0 d1 hk
  have HKK := Lib.hid hN
  subst hA
  clear hN
  go_wp2_with fail
  go_loopg [14] N (fun gg i wr => ∃ k : Nat, k ≤ N ∧ N ≤ k + gg ∧ i = .int .i64 k ∧ v2 = wr)
  case atStart => exact ⟨0, by omega, by omega, rfl, rfl⟩
  case round =>
    obtain ⟨k, hk1, hk2, rfl, rfl⟩ := hrel
    obtain ⟨b', off', e', _, f0, f9⟩ := G2.out.rowG (k := k + 1) (by omega)
    clear f9
    injection e' with e'
    injection e' with e1 e2
    subst e1 e2
    by_cases hlt : k < N
    · have hp : decide (atN g (k + 1) < place) = true := decide_eq_true (HS.out.below k (by have := HKK.out; omega))
      generalize atN g (k + 1) = z at *
      have v5 : IntKind.i64.wrap ((k : Int) + 1) = (k : Int) + 1 := IntWalk.i64_in _ (by omega)
      clear c0 c1 d0 d1
      go_wp2_with fail
      go_roundg (N - (k + 1))
      case measure => omega
      case rel => exact ⟨k + 1, by omega, by omega, by go_num, rfl⟩
    · obtain rfl : k = N := by omega
      have hp : decide (atN g (k + 1) < place) = false := decide_eq_false (by have := HS.out.hi; have h9 := HKK.out; rw [← h9] at this; omega)
      have hzy : atN g (k + 1) = y := by
        have := f0.symm.trans d0
        injection this with this
        injection this
      rw [hzy] at hp
      clear f0 hzy
      have u5 : IntKind.i64.wrap ((k : Int) + 1) = (k : Int) + 1 := IntWalk.i64_in _ (by omega)
      have k1 : 0 ≤ (k : Int) + 1 := by omega
      have k2 : ((k : Int) + 1).toNat = k + 1 := by omega
      have k3 : (k : Int) + 1 < (m : Int) := by omega
      have hkn : k < m := by omega
      have hB := B2.out
      have hzz := B2.out.size
      go_upto_region 6 with fail
      go_cut [15, 16] (fun s15 s16 wx => ∃ q15 q16 : Nat, s15 = .pointer (some ⟨q15, 0, none⟩) ∧ s16 = .pointer (some ⟨q16, 0, none⟩) ∧ Hid (Below w.heap.size w wx) ∧ Hid (Blk wx q15 64 #[.int .i64 x, .int .i64 hx]) ∧ Hid (Blk wx q16 64 #[.int .i64 y, .int .i64 hy]))
      case first =>
        as_aux_lemma =>
          go_region
          all_goals go_wp2_with fail
          all_goals go_meet
          all_goals refine ⟨_, _, rfl, rfl, Lib.hid (show Below w.heap.size w _ from (by repeat (first | exact Below.refl _ _ | assumption | apply Below.drew | apply below_drewN | (refine Below.alloc ?_ (by first | omega | (simp; done) | (simp; omega)) _) | (refine Below.setCell ?_ (by first | omega | (simp; done) | (simp; omega)) _)))), Lib.hid ?_, Lib.hid ?_⟩
          all_goals (repeat (first | ((with_reducible refine Blk.new9 ?_); (focus (first | rfl | (simp; done)))) | (with_reducible apply Blk.drew9) | (with_reducible apply Blk.alloc)))
      case rest =>
        as_aux_lemma =>
          obtain ⟨q15, q16, rfl, rfl, HW, X15, X16⟩ := hcut
          clear c0 c1 d0 d1 hB hzz
          obtain ⟨c0, c1⟩ := X15.out.two
          obtain ⟨d0, d1⟩ := X16.out.two
          go_wp2_with fail
          refine (CR.out wc).mono ?_
          rintro e w4 ⟨rfl, mm, rfl⟩
          have B4 := Lib.hid (below_drewN HW.out mm)
          clear c0 c1 d0 d1 CR b0 b1
          generalize wc.drewN mm = v4 at *
          have hB := B4.out
          have b0 := (hB.cell (p := ⟨wo.heap.size, 0, none⟩) hV0).trans hv0
          have b1 := (hB.cell (p := ⟨wo.heap.size, 1, none⟩) hV0).trans hv1
          have hVk : wo.heap.size < v4.heap.size := Nat.lt_of_lt_of_le hV0 hB.size
          have hz4 := hB.size
          go_upto_region 11 with fail
          (refine wp_region_ext (by kernel_rfl) (by kernel_rfl) ?_; have hxe := ext_cells; (repeat (go_big_quiet_step (fail))); refine wpQuiet_nil ?_; intro w' hw'; obtain ⟨nx, hw''⟩ := hw'; have hbx := ext_out hw''; clear hw'' nx hxe; have hB : Below w.heap.size w w' := Below.thenn (by repeat (first | exact Below.refl _ _ | assumption | apply Below.drew | apply below_drewN | (refine Below.alloc ?_ (by first | omega | (simp; done) | (simp; omega)) _) | (refine Below.setCell ?_ (by first | omega | (simp; done) | (simp; omega)) _))) hbx (by first | omega | (simp; done) | (simp; omega)); have hz : w.heap.size ≤ w'.heap.size := hB.size; obtain ⟨hc, hf⟩ := bcell hbx; clear hbx)
          go_wp2_with fail
          go_ret2
          exact ⟨rfl, (Below.thenn HHW.out (show Below w.heap.size w _ from (by repeat (first | exact Below.refl _ _ | assumption | apply Below.drew | apply below_drewN | (refine Below.alloc ?_ (by first | omega | (simp; done) | (simp; omega)) _) | (refine Below.setCell ?_ (by first | omega | (simp; done) | (simp; omega)) _)))) HHW.out.size)⟩
end Go.Proofs.Ytjfmicemnoglkaa
