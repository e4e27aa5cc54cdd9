/- The law FnLoads: its walk. -/
import Derived.Test.YthijklidjdhkdaaDrawZ
import Derived.Test.YthijklidjdhkdaaKlaw
import Derived.Test.YthijklidjdhkdaaBrkQ
import Derived.Deep.CutRange
import Derived.Deep.CutBlock
namespace Go.Proofs.Ythijklidjdhkdaa
open Go.RowKit
set_option linter.unusedVariables false
set_option linter.unusedSimpArgs false

/-- A drive of the law's own in its box. -/
def DX (W w : World) (p : Nat) (l s : Int) (A : Option Addr) (n c : Nat) (rows : List (List Int)) : Prop := Blk w p 29 #[.int .i64 l, .int .i64 s, .slice A n c] ∧ OwR w W.heap.size 56 2 (.slice A n c) rows ∧ rows.length = n
section
variable {W w w' : World} {p : Nat} {l s : Int} {A : Option Addr} {n c : Nat} {rows : List (List Int)}
theorem DX.below (h : DX W w p l s A n c rows) (hb : Below w.heap.size w w') : DX W w' p l s A n c rows := ⟨h.1.below hb h.1.lt, h.2.1.below hb, h.2.2⟩
theorem DX.cells (h : DX W w p l s A n c rows) : w.cell? ⟨p, 0, none⟩ = some (.int .i64 l) ∧ w.cell? ⟨p, 1, none⟩ = some (.int .i64 s) ∧ w.cell? ⟨p, 2, none⟩ = some (.slice A n c) :=
  ⟨by simpa using h.1.cell 0, by simpa using h.1.cell 1, by simpa using h.1.cell 2⟩
theorem DX.rd (h : DX W w p l s A n c rows) : RdR w 2 A n rows := by
  have := h.2.1.rdR
  rw [h.2.2] at this
  exact this
theorem DX.cap (h : DX W w p l s A n c rows) : n ≤ c ∧ c ≤ 9223372036854775807 := by
  have := h.2.1.cap
  rw [h.2.2] at this
  exact this
theorem DX.start {B : Nat} (ho : OwR w B 56 2 (.slice A rows.length c) rows) (hB : W.heap.size ≤ B) : DX W (w.alloc (.cells #[.int .i64 l, .int .i64 s, .slice A rows.length c] 29)) w.heap.size l s A rows.length c rows :=
  ⟨Blk.new _ _ _, (ho.alloc _).base hB, rfl⟩
end
def TailD (W wx : World) : Prop := Below W.heap.size W wx
theorem o3_some {o : Option (Int × Int)} (h : o3 o = true) : o = some (o1 o, o2 o) := by
  rcases o with _ | ⟨a, b⟩
  · simp [o3] at h
  · rfl
set_option maxRecDepth 100000 in
set_option maxHeartbeats 8000000 in
theorem law_FnLoads (A : Option Addr) (n c : Nat) (zs : List Int) (W : World) (h : Came .u8 W A n c zs) :
    Calls Try.prog 13 #[.slice A n c] W (Ret W (.bool true)) := by
  by_cases hbig : 65536 < n
  · go_enter Try.func13, Try.ntmps13
    go_wp2_with (go_at_call 39; refine (laws_vBig _ _ _ _).mono ?_; rintro e w' ⟨rfl, rfl⟩)
    go_ret
    exact ⟨rfl, Below.refl _ _⟩
  have hS : Src.ok ⟨A, n, c, zs⟩ W := came_src h (by omega)
  have HS := Lib.hid hS
  have B0 := Lib.hid (Below.refl W.heap.size W)
  clear h hS
  go_enter Try.func13, Try.ntmps13
  go_wp2_with (go_at_call 39; refine (laws_vBig _ _ _ _).mono ?_; rintro e w' ⟨rfl, rfl⟩)
  go_wp2_with fail
  refine (draw_SafeSpeed _ _ (HS.out.below B0.out)).mono ?_
  rintro e w1 ⟨l, s, A1, c1, rows, way, rfl, hl, ho, hb⟩
  have X1 := Lib.hid (DX.start (W := W) (l := l) (s := s) ho B0.out.size)
  have B1 := Lib.hid ((Below.thenn B0.out hb B0.out.size).alloc (Nat.le_trans B0.out.size hb.size) (.cells #[.int .i64 l, .int .i64 s, .slice A1 rows.length c1] 29))
  clear ho hb
  go_wp2_with fail
  generalize w1.alloc (.cells #[.int .i64 l, .int .i64 s, .slice A1 rows.length c1] 29) = v1 at *
  obtain ⟨c0, hc1, c2⟩ := X1.out.cells
  (go_wp2_with fail; refine (impl_SafeSpeed l s _ _ _ rows way v1 X1.out.rd (by omega)).mono ?_; rintro e w2 ⟨rfl, hb⟩; have B2 := Lib.hid (Below.thenn B1.out hb B1.out.size); have X2 := Lib.hid (X1.out.below hb); clear c0 hc1 c2; obtain ⟨c0, hc1, c2⟩ := X2.out.cells; clear hb)
  (go_wp2_with fail; refine (spec_SafeSpeed l s _ _ _ rows way w2 X2.out.rd (by omega)).mono ?_; rintro e w3 ⟨rfl, hb⟩; have B3 := Lib.hid (Below.thenn B2.out hb B2.out.size); have X3 := Lib.hid (X2.out.below hb); clear c0 hc1 c2; obtain ⟨c0, hc1, c2⟩ := X3.out.cells; clear hb)
  clear X1 X2 B0 B1 B2
  have HL := Lib.hid (fun (hk : 1 ≤ ssV l s rows way) => ss_law hk)
  generalize ssV l s rows way = SS at *
  generalize w1.heap.size = q at *
  go_upto_block 0 with fail
  go_cut [9, 10, 11] from 67 to 225 (fun q9 q10 q11 wx => Hid (TailD W wx))
  case first =>
    as_aux_lemma =>
      go_wp2_with fail
      go_loopg [9] 101 (fun g i wr => ∃ k : Nat, 1 ≤ k ∧ k ≤ 101 ∧ 102 ≤ k + g ∧ i = .int .i64 k ∧ Hid (Below W.heap.size W wr) ∧ Hid (DX W wr q l s A1 rows.length c1 rows))
      case atStart => exact ⟨1, by omega, by omega, by omega, rfl, B3, X3⟩
      case round =>
        obtain ⟨k, hk0, hk1, hk2, rfl, HB, HX⟩ := hrel
        clear B3 X3 c0 hc1 c2
        obtain ⟨c0, hc1, c2⟩ := HX.out.cells
        by_cases hle : (k : Int) ≤ SS
        · obtain ⟨hs, hq⟩ := HL.out (by omega)
          obtain ⟨o1, o2⟩ := hq k (by omega) hle
          have cb := impl_BrakeWay l s A1 rows.length c1 rows (k : Int) wr HX.out.rd (by omega)
          rw [o1] at cb
          have o3 : ¬ way < bwV l s rows k := by omega
          generalize bwV l s rows k = N at *
          have CB := Lib.hid cb
          clear cb o1 o2 hq
          (go_wp2_with fail; refine (CB.out).mono ?_; rintro e w5 ⟨rfl, hb⟩; have B5 := Lib.hid (Below.thenn HB.out hb HB.out.size); have X5 := Lib.hid (HX.out.below hb); clear c0 hc1 c2; obtain ⟨c0, hc1, c2⟩ := X5.out.cells; clear hb)
          go_wp2_with fail
          go_roundg (102 - (k + 1))
          case measure => omega
          case rel => exact ⟨k + 1, by omega, by omega, by omega, by go_num, B5, X5⟩
        · go_wp2_with fail
          go_meet
          exact HB
  case rest =>
    as_aux_lemma =>
      have C0 : Hid (Below W.heap.size W wc) := hcut
      clear hcut X3 B3 c0 hc1 c2 HL
      go_wp2_with fail
      refine (draw_WorstPull _ _ (HS.out.below C0.out)).mono ?_
      rintro e w1 ⟨l, s, A2, c2', rows, v, low, high, rfl, hl, ho, hb⟩
      have X1 := Lib.hid (DX.start (W := W) (l := l) (s := s) ho C0.out.size)
      have B1 := Lib.hid ((Below.thenn C0.out hb C0.out.size).alloc (Nat.le_trans C0.out.size hb.size) (.cells #[.int .i64 l, .int .i64 s, .slice A2 rows.length c2'] 29))
      clear ho hb
      go_wp2_with fail
      generalize w1.alloc (.cells #[.int .i64 l, .int .i64 s, .slice A2 rows.length c2'] 29) = v1 at *
      obtain ⟨c0, hc1, c2⟩ := X1.out.cells
      (go_wp2_with fail; refine (impl_WorstPull l s _ _ _ rows v low high v1 X1.out.rd (by omega)).mono ?_; rintro e w2 ⟨rfl, hb⟩; have B2 := Lib.hid (Below.thenn B1.out hb B1.out.size); have X2 := Lib.hid (X1.out.below hb); clear c0 hc1 c2; obtain ⟨c0, hc1, c2⟩ := X2.out.cells; clear hb)
      (go_wp2_with fail; refine (spec_WorstPull l s _ _ _ rows v low high w2 X2.out.rd (by omega)).mono ?_; rintro e w3 ⟨rfl, hb⟩; have B3 := Lib.hid (Below.thenn B2.out hb B2.out.size); have X3 := Lib.hid (X2.out.below hb); clear c0 hc1 c2; obtain ⟨c0, hc1, c2⟩ := X3.out.cells; clear hb)
      clear X1 X2 B1 B2 C0
      have HL := Lib.hid (fun (hk : o3 (wpR l s rows v low high) = true) => wp_law (o3_some hk))
      generalize o1 (wpR l s rows v low high) = P1 at *
      generalize o2 (wpR l s rows v low high) = P2 at *
      generalize o3 (wpR l s rows v low high) = P3 at *
      generalize w1.heap.size = q at *
      go_upto_if 123 with fail
      go_cut [22, 23] from 125 to 225 (fun q22 q23 wx => Hid (TailD W wx))
      case first =>
        as_aux_lemma =>
          rcases P3 with _ | _
          · go_wp2_with fail
            go_meet
            exact B3
          · obtain ⟨k1, k2, k3, k4⟩ := HL.out rfl
            have cb := impl_BrakeWay l high A2 rows.length c2' rows v w3 X3.out.rd (by omega)
            rw [k1] at cb
            have h1 : ¬ P2 < bwV l high rows v := by omega
            have h2 : ¬ P1 < low := by omega
            have h3 : ¬ high < P1 := by omega
            generalize bwV l high rows v = N at *
            have CB := Lib.hid cb
            clear cb k1 k2 k3 k4 HL
            (go_wp2_with fail; refine (CB.out).mono ?_; rintro e w5 ⟨rfl, hb⟩; have B5 := Lib.hid (Below.thenn B3.out hb B3.out.size); have X5 := Lib.hid (X3.out.below hb); clear c0 hc1 c2; obtain ⟨c0, hc1, c2⟩ := X5.out.cells; clear hb)
            go_wp2_with fail
            go_meet
            exact B5
      case rest =>
        as_aux_lemma =>
          have C0 : Hid (Below W.heap.size W wc) := hcut
          clear hcut X3 B3 c0 hc1 c2 HL
          go_wp2_with fail
          refine (draw_WorstLoss _ _ (HS.out.below C0.out)).mono ?_
          rintro e w1 ⟨l, s, A2, c2', rows, v, rfl, hl, ho, hb⟩
          have X1 := Lib.hid (DX.start (W := W) (l := l) (s := s) ho C0.out.size)
          have B1 := Lib.hid ((Below.thenn C0.out hb C0.out.size).alloc (Nat.le_trans C0.out.size hb.size) (.cells #[.int .i64 l, .int .i64 s, .slice A2 rows.length c2'] 29))
          clear ho hb
          go_wp2_with fail
          generalize w1.alloc (.cells #[.int .i64 l, .int .i64 s, .slice A2 rows.length c2'] 29) = v1 at *
          obtain ⟨c0, hc1, c2⟩ := X1.out.cells
          (go_wp2_with fail; refine (impl_WorstLoss l s _ _ _ rows v v1 X1.out.rd (by omega) X1.out.cap.1 X1.out.cap.2).mono ?_; rintro e w2 ⟨rfl, hb⟩; have B2 := Lib.hid (Below.thenn B1.out hb B1.out.size); have X2 := Lib.hid (X1.out.below hb); clear c0 hc1 c2; obtain ⟨c0, hc1, c2⟩ := X2.out.cells; clear hb)
          (go_wp2_with fail; refine (spec_WorstLoss l s _ _ _ rows v w2 X2.out.rd (by omega)).mono ?_; rintro e w3 ⟨rfl, hb⟩; have B3 := Lib.hid (Below.thenn B2.out hb B2.out.size); have X3 := Lib.hid (X2.out.below hb); clear c0 hc1 c2; obtain ⟨c0, hc1, c2⟩ := X3.out.cells; clear hb)
          clear X1 X2 B1 B2 C0
          have HL := Lib.hid (fun (hk : o3 (wlR l s rows v) = true) => wl_law (o3_some hk))
          generalize o1 (wlR l s rows v) = P1 at *
          generalize o2 (wlR l s rows v) = P2 at *
          generalize o3 (wlR l s rows v) = P3 at *
          generalize w1.heap.size = q at *
          go_upto_if 184 with fail
          go_cut [32, 33, 34] from 185 to 225 (fun q32 q33 q34 wx => Hid (TailD W wx))
          case first =>
            as_aux_lemma =>
              rcases P3 with _ | _
              · go_wp2_with fail
                go_meet
                exact B3
              · have HR := Lib.hid (HL.out rfl)
                clear HL
                have hN0 : rows.length = rows.length := rfl
                generalize hM : rows.length = M at *
                go_wp2_with fail
                go_loopg [32] M (fun g i wr => ∃ k : Nat, k ≤ M ∧ M ≤ k + g ∧ i = .int .i64 k ∧ Hid (Below W.heap.size W wr) ∧ Hid (DX W wr q l s A2 M c2' rows))
                case atStart => exact ⟨0, by omega, by omega, rfl, B3, X3⟩
                case round =>
                  obtain ⟨k, hk1, hk2, rfl, HB, HX⟩ := hrel
                  clear B3 X3 c0 hc1 c2
                  obtain ⟨c0, hc1, c2⟩ := HX.out.cells
                  by_cases hlt : k < M
                  · obtain ⟨o1, o2⟩ := HR.out k hlt
                    have cb := impl_WayWithout l s A2 M c2' rows v (k : Int) wr HX.out.rd (by omega) HX.out.cap.1 HX.out.cap.2
                    rw [o1] at cb
                    have o3 : ¬ P2 < wwV l s rows v k := by omega
                    generalize wwV l s rows v k = N at *
                    have CB := Lib.hid cb
                    clear cb o1 o2
                    go_wp2_with fail
                    refine (CB.out).mono ?_
                    rintro e w5 ⟨rfl, hb⟩
                    have B5 := Lib.hid (Below.thenn HB.out hb HB.out.size)
                    have X5 := Lib.hid (HX.out.below hb)
                    clear hb c0 hc1 c2
                    go_wp2_with fail
                    go_roundg (M - (k + 1))
                    case measure => omega
                    case rel => exact ⟨k + 1, by omega, by omega, by go_num, B5, X5⟩
                  · go_wp2_with fail
                    go_meet
                    exact HB
          case rest =>
            as_aux_lemma =>
              have C0 : Hid (Below W.heap.size W wc) := hcut
              clear hcut X3 B3 c0 hc1 c2 HL
              go_wp2_with fail
              refine (draw_HoldsStill _ _ (HS.out.below C0.out)).mono ?_
              rintro e w1 ⟨l, s, A2, c2', rows, rfl, hl, ho, hb⟩
              have X1 := Lib.hid (DX.start (W := W) (l := l) (s := s) ho C0.out.size)
              have B1 := Lib.hid ((Below.thenn C0.out hb C0.out.size).alloc (Nat.le_trans C0.out.size hb.size) (.cells #[.int .i64 l, .int .i64 s, .slice A2 rows.length c2'] 29))
              clear ho hb
              go_wp2_with fail
              generalize w1.alloc (.cells #[.int .i64 l, .int .i64 s, .slice A2 rows.length c2'] 29) = v1 at *
              obtain ⟨c0, hc1, c2⟩ := X1.out.cells
              (go_wp2_with fail; refine (impl_HoldsStill l s _ _ _ rows v1 X1.out.rd (by omega)).mono ?_; rintro e w2 ⟨rfl, hb⟩; have B2 := Lib.hid (Below.thenn B1.out hb B1.out.size); have X2 := Lib.hid (X1.out.below hb); clear c0 hc1 c2; obtain ⟨c0, hc1, c2⟩ := X2.out.cells; clear hb)
              (go_wp2_with fail; refine (spec_HoldsStill l s _ _ _ rows w2 X2.out.rd (by omega)).mono ?_; rintro e w3 ⟨rfl, hb⟩; have B3 := Lib.hid (Below.thenn B2.out hb B2.out.size); have X3 := Lib.hid (X2.out.below hb); clear c0 hc1 c2; obtain ⟨c0, hc1, c2⟩ := X3.out.cells; clear hb)
              go_wp2_with fail
              go_ret
              exact ⟨ret_bool (by simp), B3.out⟩
end Go.Proofs.Ythijklidjdhkdaa
