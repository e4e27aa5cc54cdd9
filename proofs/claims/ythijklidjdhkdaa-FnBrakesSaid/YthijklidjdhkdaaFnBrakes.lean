/- The law FnBrakes: its walk. -/
import Derived.Test.YthijklidjdhkdaaDrvM
import Derived.Test.YthijklidjdhkdaaKlaw
import Derived.Test.YthijklidjdhkdaaBrkV
import Derived.Test.YthijklidjdhkdaaExt
import Derived.Deep.CutRange
import Derived.Deep.CutBlock
namespace Go.Proofs.Ythijklidjdhkdaa
open Go.RowKit
set_option linter.unusedVariables false
set_option linter.unusedSimpArgs false

/-- A drive of the law's own in its box. -/
def DX (W w : World) (p : Nat) (l s : Int) (A : Option Addr) (n c : Nat) (rows : List (List Int)) : Prop := Blk w p 29 #[.int .i64 l, .int .i64 s, .slice A n c] ∧ OwR w W.heap.size 56 2 (.slice A n c) rows ∧ rows.length = n
section
variable {W w w' : World} {p : Nat} {l s : Int} {A : Option Addr} {n c : Nat} {rows : List (List Int)}
theorem DX.below (h : DX W w p l s A n c rows) (hb : Below w.heap.size w w') : DX W w' p l s A n c rows := ⟨h.1.below hb h.1.lt, h.2.1.below hb, h.2.2⟩
theorem DX.cells (h : DX W w p l s A n c rows) : w.cell? ⟨p, 0, none⟩ = some (.int .i64 l) ∧ w.cell? ⟨p, 1, none⟩ = some (.int .i64 s) ∧ w.cell? ⟨p, 2, none⟩ = some (.slice A n c) :=
  ⟨by simpa using h.1.cell 0, by simpa using h.1.cell 1, by simpa using h.1.cell 2⟩
theorem DX.rd (h : DX W w p l s A n c rows) : RdR w 2 A n rows := by
  have := h.2.1.rdR
  rw [h.2.2] at this
  exact this
theorem DX.cap (h : DX W w p l s A n c rows) : n ≤ c ∧ c ≤ 9223372036854775807 := by
  have := h.2.1.cap
  rw [h.2.2] at this
  exact this
theorem DX.start {B : Nat} (ho : OwR w B 56 2 (.slice A rows.length c) rows) (hB : W.heap.size ≤ B) : DX W (w.alloc (.cells #[.int .i64 l, .int .i64 s, .slice A rows.length c] 29)) w.heap.size l s A rows.length c rows :=
  ⟨Blk.new _ _ _, (ho.alloc _).base hB, rfl⟩
end
def TailD (W wx : World) : Prop := Below W.heap.size W wx
theorem FS.start3 (wr : World) (m p : Int) : Hid (FS wr ((wr.alloc (.cells #[] 56)).alloc (.cells #[.int .i64 m, .int .i64 p, .slice (some ⟨wr.heap.size, 0, none⟩) 0 0] 29)) (wr.heap.size + 1) m p (.slice none 0 0) [] (.slice (some ⟨wr.heap.size, 0, none⟩) 0 0) (.slice (some ⟨wr.heap.size, 0, none⟩) 0 0) []) := by
  have e1 : (wr.alloc (.cells #[] 56)).heap.size = wr.heap.size + 1 := by simp
  have hb : Blk ((wr.alloc (.cells #[] 56)).alloc (.cells #[.int .i64 m, .int .i64 p, .slice (some ⟨wr.heap.size, 0, none⟩) 0 0] 29)) (wr.heap.size + 1) 29 #[.int .i64 m, .int .i64 p, .slice (some ⟨wr.heap.size, 0, none⟩) 0 0] := by rw [← e1]; exact Blk.new _ _ _
  exact ⟨(((Below.refl _ wr).alloc (Nat.le_refl _) _).alloc (by simp) _), Ow.nil _ _, (OwR.lit0 wr wr.heap.size 56 2 (Nat.le_refl _)).alloc _, hb, by omega⟩
/-- The brakes that the law has gathered. -/
def gaR (rows : List (List Int)) (L : List Int) (j : Nat) : List (List Int) := (L.take j).map (fun i => rows.getD i.toNat [])
theorem gaR_next {rows : List (List Int)} {L : List Int} {j : Nat} {x : Int} {r : List Int} (h : L[j]? = some x) (hr : rows[x.toNat]? = some r) : gaR rows L (j + 1) = gaR rows L j ++ [r] := by
  obtain ⟨hk, e⟩ := List.getElem?_eq_some_iff.1 h
  unfold gaR
  rw [List.take_succ_eq_append_getElem hk, e, List.map_append]
  simp [List.getD, hr]
theorem gaR_end (s : Nat) (rows : List (List Int)) : gaR rows (memN s rows.length) (memN s rows.length).length = sel s 0 rows := by
  unfold gaR
  rw [List.take_of_length_le (Nat.le_refl _), mem_rows s rows rows.length (Nat.le_refl _), List.take_of_length_le (Nat.le_refl _)]
theorem gaR_len (rows : List (List Int)) (L : List Int) (j : Nat) : (gaR rows L j).length ≤ L.length := by
  unfold gaR
  rw [List.length_map, List.length_take]
  omega
set_option maxRecDepth 100000 in
set_option maxHeartbeats 8000000 in
theorem law_FnBrakes (A : Option Addr) (n c : Nat) (zs : List Int) (W : World) (h : Came .u8 W A n c zs) :
    Calls Try.prog 12 #[.slice A n c] W (Ret W (.bool true)) := by
  by_cases hbig : 65536 < n
  · go_enter Try.func12, Try.ntmps12
    go_wp2_with (go_at_call 39; refine (laws_vBig _ _ _ _).mono ?_; rintro e w' ⟨rfl, rfl⟩)
    go_ret
    exact ⟨rfl, Below.refl _ _⟩
  have hS : Src.ok ⟨A, n, c, zs⟩ W := came_src h (by omega)
  have HS := Lib.hid hS
  have B0 := Lib.hid (Below.refl W.heap.size W)
  clear h hS
  go_enter Try.func12, Try.ntmps12
  go_wp2_with (go_at_call 39; refine (laws_vBig _ _ _ _).mono ?_; rintro e w' ⟨rfl, rfl⟩)
  go_wp2_with fail
  refine (draw_FewestBrakes _ _ (HS.out.below B0.out)).mono ?_
  rintro e w1 ⟨l, s, A1, c1, rows, v, way, rfl, hl, ho, hb⟩
  have X1 := Lib.hid (DX.start (W := W) (l := l) (s := s) ho B0.out.size)
  have B1 := Lib.hid ((Below.thenn B0.out hb B0.out.size).alloc (Nat.le_trans B0.out.size hb.size) (.cells #[.int .i64 l, .int .i64 s, .slice A1 rows.length c1] 29))
  clear ho hb
  go_wp2_with fail
  generalize w1.alloc (.cells #[.int .i64 l, .int .i64 s, .slice A1 rows.length c1] 29) = v1 at *
  obtain ⟨c0, hc1, c2⟩ := X1.out.cells
  have hfl := fbV_len l s rows v way
  (go_wp2_with fail; refine (impl_FewestBrakes l s _ _ _ rows v way v1 X1.out.rd (by omega)).mono ?_; rintro e w2 ⟨A2, c2', rfl, ho, hb⟩; have O2 := Lib.hid ho; have B2 := Lib.hid (Below.thenn B1.out hb B1.out.size); have Qw2 := Lib.hid hb; have X2 := Lib.hid (X1.out.below hb); clear c0 hc1 c2; obtain ⟨c0, hc1, c2⟩ := X2.out.cells; clear ho hb)
  (go_wp2_with fail; refine (spec_FewestBrakes l s _ _ _ rows v way w2 X2.out.rd (by omega)).mono ?_; rintro e w3 ⟨A3, c3', rfl, ho, hb⟩; have O3 := Lib.hid ho; have B3 := Lib.hid (Below.thenn B2.out hb B2.out.size); have Qw3 := Lib.hid hb; have X3 := Lib.hid (X2.out.below hb); clear c0 hc1 c2; obtain ⟨c0, hc1, c2⟩ := X3.out.cells; clear ho hb)
  have O4 := Lib.hid (O2.out.below Qw3.out)
  clear X1 X2 B0 B1 B2 O2 Qw2 Qw3
  have HL := Lib.hid (fun (hk : fbOk l s rows v way = true) => fb_law hk)
  generalize fbOk l s rows v way = ok at *
  generalize fbV l s rows v way = os at *
  generalize w1.heap.size = q at *
  generalize hw3 : w3 = w at *
  clear hw3
  have CV : Hid (∀ w', Rd w' 1 A2 os.length (IV os) → Rd w' 1 A3 os.length (IV os) → Calls Try.prog 41 #[.slice A2 os.length c2', .slice A3 os.length c3'] w' (Quiet w' (.bool true))) := Lib.hid (fun w' h1 h2 => by
    have := laws_vInts A2 A3 os.length os.length c2' c3' os os w' h1 h2 (by omega) (by omega)
    simpa using this)
  have RA := fun (nn : Ext w) => O4.out.rd.below nn.below
  have RB := fun (nn : Ext w) => O3.out.rd.below nn.below
  have RX := fun (nn : Ext w) => X3.out.rd.below nn.below
  have CI := Lib.hid (fun w' (h' : RdR w' 2 A1 rows.length rows) => impl_IsDrive l s A1 rows.length c1 rows w' h' (by omega))
  have CS := Lib.hid (fun w' (h' : RdR w' 2 A1 rows.length rows) => spec_IsDrive l s A1 rows.length c1 rows w' h' (by omega))
  have hB : Below w.heap.size w w := Below.refl _ _
  have hq : q < w.heap.size := X3.out.1.lt
  go_upto_region 6 with fail
  (refine wp_region_ext (by kernel_rfl) (by kernel_rfl) ?_; have hxe := ext_cells; (repeat (go_big_quiet_step (first | (go_at_call 41; exact ext_quiet (CV.out _ (RA _) (RB _))) | (go_at_call 17; exact ext_ret (CI.out _ (RX _))) | (go_at_call 15; exact ext_ret (CS.out _ (RX _)))))); refine wpQuiet_nil ?_; intro w' hw'; obtain ⟨nx, hw''⟩ := hw'; have hbx := ext_out hw''; clear hw'' nx hxe; have hB : Below w.heap.size w w' := Below.thenn (by repeat (first | exact Below.refl _ _ | assumption | apply Below.drew | apply below_drewN | (refine Below.alloc ?_ (by first | omega | (simp; done) | (simp; omega)) _) | (refine Below.setCell ?_ (by first | omega | (simp; done) | (simp; omega)) _))) hbx (by first | omega | (simp; done) | (simp; omega)); have hz : w.heap.size ≤ w'.heap.size := hB.size; obtain ⟨hc, hf⟩ := bcell hbx; clear hbx)
  have B6 := Lib.hid (Below.thenn B3.out hB B3.out.size)
  have X6 := Lib.hid (X3.out.below hB)
  have O6 := Lib.hid (O4.out.below hB)
  clear hc hf hB hz B3 X3 O3 O4 RA RB RX CI CS CV c0 hc1 c2 hq
  obtain ⟨c0, hc1, c2⟩ := X6.out.cells
  generalize hww : w' = w6 at *
  clear hww
  go_upto_if 75 with fail
  go_cut [10, 11, 12, 13, 14, 15] from 76 to 259 (fun q10 q11 q12 q13 q14 q15 wx => Hid (TailD W wx))
  case first =>
    as_aux_lemma =>
      rcases ok with _ | _
      · go_wp2_with fail
        go_meet
        exact B6
      · obtain ⟨tt, hn4, hos, ⟨p1, p2⟩, p3, p4⟩ := HL.out rfl
        clear HL
        subst hos
        have hMl := memN_len tt rows.length
        have HMB := Lib.hid (memN_bd tt rows.length)
        have HGE := Lib.hid (gaR_end tt rows)
        have HGL := Lib.hid (fun j => gaR_len rows (memN tt rows.length) j)
        have hM0 : (memN tt rows.length).length = (memN tt rows.length).length := rfl
        generalize hM : (memN tt rows.length).length = M at *
        generalize memN tt rows.length = L at *
        have HM := Lib.hid hM
        clear hM0 hM
        have cb1 := fun (A4 : Option Addr) (c4 : Nat) (w' : World) (h' : RdR w' 2 A4 (sel tt 0 rows).length (sel tt 0 rows)) => impl_BrakeWay l s A4 (sel tt 0 rows).length c4 (sel tt 0 rows) v w' h' (by have := sel_len tt 0 rows; omega)
        have cb2 := fun (w' : World) (h' : RdR w' 2 A1 rows.length rows) => impl_BrakeWay l s A1 rows.length c1 rows v w' h' (by omega)
        rw [p1] at cb1
        rw [p3] at cb2
        have q1 : ¬ way < bwV l s (sel tt 0 rows) v := by omega
        have q2 : ¬ bwV l s (sel tt 0 rows) v < bwV l s rows v := by omega
        generalize bwV l s (sel tt 0 rows) v = N1 at *
        generalize bwV l s rows v = N2 at *
        have CB1 := Lib.hid cb1
        have CB2 := Lib.hid cb2
        clear cb1 cb2 p1 p2 p3 p4
        go_wp2_with fail
        have Y0 := FS.start3 w6 l s
        have hq6 : q < w6.heap.size := X6.out.1.lt
        generalize (w6.alloc (.cells #[] 56)).alloc (.cells #[.int .i64 l, .int .i64 s, .slice (some ⟨w6.heap.size, 0, none⟩) 0 0] 29) = wy at *
        generalize hq2 : w6.heap.size + 1 = q2' at *
        have HQ2 := Lib.hid hq2
        clear hq2
        go_wp2_with fail
        go_loopg [11] M (fun g i wr => ∃ (j : Nat) (A4 : Option Addr) (c4 : Nat), j ≤ M ∧ M ≤ j + g ∧ i = .int .i64 j ∧ Hid (FS w6 wr q2' l s (.slice none 0 0) [] (.slice A4 (gaR rows L j).length c4) (.slice A4 (gaR rows L j).length c4) (gaR rows L j)))
        case atStart => exact ⟨0, some ⟨w6.heap.size, 0, none⟩, 0, by omega, by omega, rfl, Y0⟩
        case round =>
          obtain ⟨j, A4, c4, hj1, hj2, rfl, HX⟩ := hrel
          clear Y0
          by_cases hlt : j < M
          · obtain ⟨b1, o1, x, e1, hx, cx⟩ := O6.out.rd.at1 (k := j) (by omega)
            have hxb := HMB.out x (List.mem_of_getElem? hx)
            obtain ⟨y, rfl⟩ := Int.eq_ofNat_of_zero_le hxb.1
            have hy : y < rows.length := by omega
            obtain ⟨b2, o2, x0, x1, rfl, hrw, hb2, r0, r1⟩ := X6.out.rd.row2 hy
            have hrw2 : rows[((y : Int)).toNat]? = some [x0, x1] := by rw [Int.toNat_natCast]; exact hrw
            have HGN := Lib.hid (gaR_next (rows := rows) hx hrw2)
            have hul := HGL.out j
            subst e1
            have hb1 := World.block_lt_of_cell? _ _ cx
            have d2 := (HX.out.1.cell (p := ⟨q, 2, none⟩) hq6).trans c2
            have dx := (HX.out.1.cell (p := ⟨b1, o1 + j, none⟩) hb1).trans cx
            have s0 := (HX.out.1.cell (p := ⟨b2, o2 + y * 2, none⟩) hb2).trans r0
            have s1 := (HX.out.1.cell (p := ⟨b2, o2 + y * 2 + 1, none⟩) hb2).trans r1
            obtain ⟨⟨g0, g1', g2⟩, gf, gq, hzb⟩ := HX.out.cells
            have X0 := HX
            clear HX hx hrw hrw2 cx r0 r1
            generalize gaR rows L j = us at *
            have hbr1 : b1 < wr.heap.size := Nat.lt_of_lt_of_le hb1 hzb
            have hbr2 : b2 < wr.heap.size := Nat.lt_of_lt_of_le hb2 hzb
            have hqr : q < wr.heap.size := Nat.lt_of_lt_of_le hq6 hzb
            go_wp2_with fail
            go_region_law (refine step_app_BrakesG (by rfl) (.tmp 89) (.tmp 98) (by rfl) _ w6.heap.size (.slice A4 us.length c4) us (by rfl) ?_ _ 1 1 [[x0, x1]] (by rfl) ?_ ?_ ?_ ?_; (refine FS.ownR_ (q := q2') (m := l) (p := s) (vo := .slice none 0 0) (zs := []) (vb := .slice A4 us.length c4) ?_); (repeat (first | (with_reducible exact X0.out) | (with_reducible apply FS.drew) | (with_reducible apply FS.alloc))); (apply rdR_blk; (repeat (first | ((with_reducible refine Blk.newE ?_); (focus (first | rfl | (simp; done)))) | (with_reducible apply Blk.drew') | (with_reducible apply Blk.alloc))); rfl); omega; (first | omega | (simp; omega)); intro A6 c6 w6' ho6 hg6; have X2 := Lib.hid (FS.appB (show FS w6 _ q2' l s (.slice none 0 0) [] (.slice A4 us.length c4) (.slice A4 us.length c4) us from (by (repeat (first | (with_reducible exact X0.out) | (with_reducible apply FS.drew) | (with_reducible apply FS.alloc))))) ho6 hg6); clear ho6 hg6 g0 g1' g2 gf; obtain ⟨⟨g0, g1', g2⟩, gf, gq6, hz6⟩ := X2.out.cells)
            all_goals go_wp2_with fail
            all_goals go_roundg (M - (j + 1))
            all_goals first | omega | exact ⟨j + 1, A6, c6, by omega, by omega, by go_num, (show FS _ _ _ _ _ _ _ _ _ _ by rw [HGN.out]; have Z2 := X2.out.put; rw [show (us ++ [[x0, x1]]).length = us.length + 1 by simp] at Z2 ⊢; exact Z2)⟩
          · obtain rfl : j = M := by omega
            have HGM : Hid (gaR rows L j = sel tt 0 rows) := Lib.hid (by rw [← HM.out]; rw [HM.out]; exact HGE.out)
            rw [HGM.out] at HX
            generalize sel tt 0 rows = us at *
            have R6 := Lib.hid (X6.out.below HX.out.1)
            have BH := Lib.hid (Below.thenn B6.out HX.out.1 B6.out.size)
            obtain ⟨⟨g0, g1', g2⟩, gf, gq, hzb⟩ := HX.out.cells
            clear c0 hc1 c2
            obtain ⟨c0, hc1, c2⟩ := R6.out.cells
            go_wp2_with fail
            refine (CB1.out A4 c4 _ HX.out.2.2.1.rdR).mono ?_
            rintro e w7 ⟨rfl, hb⟩
            have R7 := Lib.hid (R6.out.below hb)
            have B7 := Lib.hid (Below.thenn BH.out hb BH.out.size)
            clear hb c0 hc1 c2 g0 g1' g2
            obtain ⟨c0, hc1, c2⟩ := R7.out.cells
            go_wp2_with fail
            refine (CB2.out _ R7.out.rd).mono ?_
            rintro e w8 ⟨rfl, hb⟩
            have B8 := Lib.hid (Below.thenn B7.out hb B7.out.size)
            clear hb
            go_wp2_with fail
            go_meet
            exact B8
  case rest =>
    as_aux_lemma =>
      have C0 : Hid (Below W.heap.size W wc) := hcut
      clear hcut X6 B6 c0 hc1 c2 HL O6
      go_wp2_with fail
      refine (draw_WayWithout _ _ (HS.out.below C0.out)).mono ?_
      rintro e w1 ⟨l, s, A2, c2', rows, v, brake, rfl, hl, ho, hb⟩
      have X1 := Lib.hid (DX.start (W := W) (l := l) (s := s) ho C0.out.size)
      have B1 := Lib.hid ((Below.thenn C0.out hb C0.out.size).alloc (Nat.le_trans C0.out.size hb.size) (.cells #[.int .i64 l, .int .i64 s, .slice A2 rows.length c2'] 29))
      clear ho hb
      go_wp2_with fail
      generalize w1.alloc (.cells #[.int .i64 l, .int .i64 s, .slice A2 rows.length c2'] 29) = v1 at *
      obtain ⟨c0, hc1, c2⟩ := X1.out.cells
      (go_wp2_with fail; refine (impl_WayWithout l s _ _ _ rows v brake v1 X1.out.rd (by omega) X1.out.cap.1 X1.out.cap.2).mono ?_; rintro e w2 ⟨rfl, hb⟩; have B2 := Lib.hid (Below.thenn B1.out hb B1.out.size); have X2 := Lib.hid (X1.out.below hb); clear c0 hc1 c2; obtain ⟨c0, hc1, c2⟩ := X2.out.cells; clear hb)
      (go_wp2_with fail; refine (spec_WayWithout l s _ _ _ rows v brake w2 X2.out.rd (by omega)).mono ?_; rintro e w3 ⟨rfl, hb⟩; have B3 := Lib.hid (Below.thenn B2.out hb B2.out.size); have X3 := Lib.hid (X2.out.below hb); clear c0 hc1 c2; obtain ⟨c0, hc1, c2⟩ := X3.out.cells; clear hb)
      clear X1 X2 B1 B2 C0
      have HW := Lib.hid (fun (hk : wwOk l s rows v brake = true) => ww_law hk)
      generalize wwV l s rows v brake = P1 at *
      generalize wwOk l s rows v brake = P3 at *
      generalize w1.heap.size = q at *
      go_upto_if 157 with fail
      go_cut [23, 24] from 159 to 259 (fun q23 q24 wx => Hid (TailD W wx))
      case first =>
        as_aux_lemma =>
          rcases P3 with _ | _
          · go_wp2_with fail
            go_meet
            exact B3
          · obtain ⟨k1, k2⟩ := HW.out rfl
            have cb := impl_BrakeWay l s A2 rows.length c2' rows v w3 X3.out.rd (by omega)
            rw [k1] at cb
            have h1 : ¬ P1 < bwV l s rows v := by omega
            generalize bwV l s rows v = N at *
            have CB := Lib.hid cb
            clear cb k1 k2 HW
            (go_wp2_with fail; refine (CB.out).mono ?_; rintro e w5 ⟨rfl, hb⟩; have B5 := Lib.hid (Below.thenn B3.out hb B3.out.size); have X5 := Lib.hid (X3.out.below hb); clear c0 hc1 c2; obtain ⟨c0, hc1, c2⟩ := X5.out.cells; clear hb)
            go_wp2_with fail
            go_meet
            exact B5
      case rest =>
        as_aux_lemma =>
          have C0 : Hid (Below W.heap.size W wc) := hcut
          clear hcut X3 B3 c0 hc1 c2 HW
          go_wp2_with fail
          refine (draw_BrakeSpeeds _ _ (HS.out.below C0.out)).mono ?_
          rintro e w1 ⟨l, s, A2, c2', rows, v, rfl, hl, ho, hb⟩
          have X1 := Lib.hid (DX.start (W := W) (l := l) (s := s) ho C0.out.size)
          have B1 := Lib.hid ((Below.thenn C0.out hb C0.out.size).alloc (Nat.le_trans C0.out.size hb.size) (.cells #[.int .i64 l, .int .i64 s, .slice A2 rows.length c2'] 29))
          clear ho hb
          go_wp2_with fail
          generalize w1.alloc (.cells #[.int .i64 l, .int .i64 s, .slice A2 rows.length c2'] 29) = v1 at *
          obtain ⟨c0, hc1, c2⟩ := X1.out.cells
          have hbl := bsV_len l s rows v
          (go_wp2_with fail; refine (impl_BrakeSpeeds l s _ _ _ rows v v1 X1.out.rd (by omega)).mono ?_; rintro e w2 ⟨A3, c3', rfl, ho, hb⟩; have O2 := Lib.hid ho; have B2 := Lib.hid (Below.thenn B1.out hb B1.out.size); have Qw2 := Lib.hid hb; have X2 := Lib.hid (X1.out.below hb); clear c0 hc1 c2; obtain ⟨c0, hc1, c2⟩ := X2.out.cells; clear ho hb)
          (go_wp2_with fail; refine (spec_BrakeSpeeds l s _ _ _ rows v w2 X2.out.rd (by omega)).mono ?_; rintro e w3 ⟨A4, c4', rfl, ho, hb⟩; have O3 := Lib.hid ho; have B3 := Lib.hid (Below.thenn B2.out hb B2.out.size); have Qw3 := Lib.hid hb; have X3 := Lib.hid (X2.out.below hb); clear c0 hc1 c2; obtain ⟨c0, hc1, c2⟩ := X3.out.cells; clear ho hb)
          have P3 := Lib.hid (O2.out.below Qw3.out)
          clear X1 X2 B1 B2 C0 O2 Qw2 Qw3
          have HLW := Lib.hid (fun (hk : bwOk l s rows v = true) => bs_law hk)
          generalize bsV l s rows v = os at *
          (go_wp2_with fail; refine (laws_vInts _ _ _ _ _ _ _ _ _ P3.out.rd O3.out.rd (by omega) (by omega)).mono ?_; intro e w4 hq; obtain ⟨rfl, hb⟩ := hq.ret; have B4 := Lib.hid (Below.thenn B3.out hb B3.out.size); have Qw4 := Lib.hid hb; clear hb hq)
          have P4 := Lib.hid (P3.out.below Qw4.out)
          have X4 := Lib.hid (X3.out.below Qw4.out)
          clear P3 O3 X3 B3 Qw4 c0 hc1 c2
          obtain ⟨c0, hc1, c2⟩ := X4.out.cells
          go_wp2_with fail
          refine (impl_BrakeWay l s _ _ _ rows v w4 X4.out.rd (by omega)).mono ?_
          rintro e w5 ⟨rfl, hb⟩
          have P5 := Lib.hid (P4.out.below hb)
          have X5 := Lib.hid (X4.out.below hb)
          have B5 := Lib.hid (Below.thenn B4.out hb B4.out.size)
          clear hb P4 X4 B4 c0 hc1 c2
          obtain ⟨c0, hc1, c2⟩ := X5.out.cells
          go_wp2_with fail
          refine (spec_BrakeWay l s _ _ _ rows v w5 X5.out.rd (by omega)).mono ?_
          rintro e w6 ⟨rfl, hb⟩
          have P6 := Lib.hid (P5.out.below hb)
          have B6 := Lib.hid (Below.thenn B5.out hb B5.out.size)
          clear hb P5 X5 B5 c0 hc1 c2
          generalize bwV l s rows v = N at *
          generalize bwOk l s rows v = ok at *
          rcases ok with _ | _
          · go_wp2_with fail
            go_ret
            exact ⟨ret_bool (by simp), B6.out⟩
          · obtain ⟨r, hos, hN, hlast, hrl, hmem⟩ := HLW.out rfl
            have hM1 : 1 ≤ os.length ∧ os.length ≤ 61 := by rw [hos]; simp; omega
            have hv : os[0]? = some v := by rw [hos]; rfl
            have hz : os[os.length - 1]? = some 0 := by rw [← List.getLast?_eq_getElem?, hos]; exact hlast
            have HNN : Hid (N = dw os) := Lib.hid (by rw [hN, hos])
            have HME : Hid (∀ z ∈ os, 0 ≤ z ∧ z ≤ 1000000000) := Lib.hid (by rw [hos]; exact hmem)
            have HDT := Lib.hid (fun (k : Nat) (hk : k + 1 < os.length) => dw_take os k hk)
            have HTA : Hid (os.take os.length = os) := Lib.hid (List.take_of_length_le (Nat.le_refl _))
            have HT1 : Hid (dw (os.take 1) = 0) := Lib.hid (by rw [hos]; simp [dw, dwF])
            clear HLW hos hN hlast hrl hmem
            have hM0 : os.length = os.length := rfl
            generalize hM : os.length = M at *
            clear hM0
            obtain ⟨pb, po, pv, rfl, hpv, hc0⟩ := P6.out.rd.at1 (k := 0) (by omega)
            rw [hv] at hpv
            injection hpv with hpv
            subst hpv
            obtain ⟨pb', po', pv, e2, hpv, hc1⟩ := P6.out.rd.at1 (k := M - 1) (by omega)
            injection e2 with e2
            injection e2 with e3 e4
            subst e3 e4
            rw [hz] at hpv
            injection hpv with hpv
            subst hpv
            have K1 : Hid (∀ j : Nat, j < M → ∃ y, os[j]? = some y ∧ w6.cell? ⟨pb, po + j, none⟩ = some (.int .i64 y)) := Lib.hid (fun (j : Nat) (hj : j < M) => by
              obtain ⟨p3, o3, v3, e2, hv3, hc3⟩ := P6.out.rd.at1 (k := j) hj
              injection e2 with e2
              injection e2 with e3 e4
              subst e3 e4
              exact ⟨v3, hv3, hc3⟩)
            have HM := Lib.hid hM
            simp only [Nat.add_zero] at hc0
            clear hv hz hM
            go_wp2_with fail
            go_loopg [35, 36] M (fun g s35 s36 wr => ∃ (i m : Nat) (z : Int), 1 ≤ i ∧ i ≤ M ∧ M ≤ i + g ∧ s36 = .int .i64 i ∧ s35 = .int .i64 z ∧ 0 ≤ z ∧ z ≤ 2000000000 * (i : Int) ∧ w6.drewN m = wr ∧ Hid (z = dw (os.take i)))
            case atStart => exact ⟨1, 0, 0, by omega, by omega, by omega, rfl, rfl, by omega, by omega, rfl, HT1.out.symm⟩
            case round =>
              obtain ⟨i, m, z, hi0, hi1, hi2, rfl, rfl, hz0, hz1, rfl, HZ⟩ := hrel
              by_cases hlt : i < M
              · obtain ⟨x, hx, cx⟩ := K1.out (i - 1) (by omega)
                obtain ⟨y, hy, cy⟩ := K1.out i hlt
                have bx := HME.out x (List.mem_of_getElem? hx)
                have by_ := HME.out y (List.mem_of_getElem? hy)
                have hd : dw (os.take (i + 1)) = z + x + y := by
                  have := HDT.out (i - 1) (by have := HM.out; omega)
                  rw [show i - 1 + 2 = i + 1 by omega, show i - 1 + 1 = i by omega] at this
                  rw [this, ← HZ.out]
                  simp only [List.getD, hx, hy, Option.getD_some]
                  omega
                have HD := Lib.hid hd
                have u1 : IntKind.i64.wrap ((i : Int) - 1) = (i : Int) - 1 := IntWalk.i64_in _ (by omega)
                have u2 : IntKind.i64.wrap (z + x) = z + x := IntWalk.i64_in _ (by omega)
                have u3 : IntKind.i64.wrap (z + x + y) = z + x + y := IntWalk.i64_in _ (by omega)
                have k1 : 0 ≤ (i : Int) - 1 := by omega
                have k2 : ((i : Int) - 1).toNat = i - 1 := by omega
                have k3 : (i : Int) - 1 < (M : Int) := by omega
                clear hx hy hd
                go_wp2_with fail
                go_quiet (fail)
                go_wp2_with fail
                go_roundg (M - (i + 1))
                case measure => omega
                case rel => exact ⟨i + 1, _, z + x + y, by omega, by omega, by omega, by go_num, rfl, by omega, by omega, rfl, HD.out.symm⟩
              · obtain rfl : i = M := by omega
                have hzN : z = N := by rw [HZ.out, HNN.out, HTA.out]
                subst hzN
                have u1 : IntKind.i64.wrap ((i : Int) - 1) = (i : Int) - 1 := IntWalk.i64_in _ (by omega)
                have k1 : 0 ≤ (i : Int) - 1 := by omega
                have k2 : ((i : Int) - 1).toNat = i - 1 := by omega
                have k3 : (i : Int) - 1 < (i : Int) := by omega
                have k4 : (0 : Int) < (i : Int) := by omega
                go_wp2_with fail
                go_ret
                exact ⟨ret_bool (by simp), below_drewN B6.out _⟩
end Go.Proofs.Ythijklidjdhkdaa
