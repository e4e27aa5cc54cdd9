/- A damage is added: what is drawn. -/
import Derived.Test.YtjfmicemnoglkaaRpL
import Derived.Test.YtjfmicemnoglkaaRopD
import Derived.Test.YtjfmicemnoglkaaDrwM
import Derived.Test.YtjfmicemnoglkaaExt
import Derived.Deep.RegionLaw
import Derived.Deep.RegionHeld3
import Derived.Deep.CutBlock
namespace Go.Proofs.Ytjfmicemnoglkaa
open Go.RowKit
set_option linter.unusedVariables false
set_option linter.unusedSimpArgs false

/-- Damages that are handed back, and whether they are valid. -/
def RetDs (w : World) (m : Nat) (e : Ending) (w' : World) : Prop := ∃ b off c rows, ∃ ok : Bool, e = .returned (.tuple #[.slice (some ⟨b, off, none⟩) rows.length c, .bool ok]) ∧ rows.length ≤ m ∧ OwR w' w.heap.size 92 3 (.slice (some ⟨b, off, none⟩) rows.length c) rows ∧ Below w.heap.size w w'
theorem RetDs.mk {w w' : World} {m B b off n c : Nat} {rows : List (List Int)} {ok : Bool} (hn : n ≤ m) (ho : OwR w' B 92 3 (.slice (some ⟨b, off, none⟩) n c) rows) (hB : w.heap.size ≤ B) (hb : Below w.heap.size w w') : RetDs w m (.returned (.tuple #[.slice (some ⟨b, off, none⟩) n c, .bool ok])) w' := by
  obtain ⟨A', c', e, _⟩ := ho.1.shape
  injection e with e1 e2 e3
  subst e2
  exact ⟨b, off, c, rows, ok, rfl, hn, ho.base hB, hb⟩
theorem RdR.some_ {w : World} {A : Option Addr} {n : Nat} {rows : List (List Int)} (h : RdR w 3 A n rows) (hn : 0 < n) : ∃ b off, A = some ⟨b, off, none⟩ := by
  obtain ⟨b, off, x0, x1, x2, e, _⟩ := h.row3 hn
  exact ⟨b, off, e⟩
theorem cutD_addr {w : World} {n c k b off : Nat} {rows : List (List Int)} (h : RdR w 3 (some ⟨b, off, none⟩) n rows) (hk : k ≤ n) (hc : n ≤ c) : ∃ b2 off2, (if c = k then some (⟨b, off, none⟩ : Addr) else some ⟨b, off + k * 3, none⟩) = some ⟨b2, off2, none⟩ ∧ RdR w 3 (some ⟨b2, off2, none⟩) (n - k) (rows.drop k) := by
  have h1 := h.cut_ hk hc
  by_cases e : c = k
  · rw [if_pos e] at h1 ⊢
    exact ⟨b, off, rfl, h1⟩
  · rw [if_neg e] at h1 ⊢
    refine ⟨b, off + k * 3, rfl, ?_⟩
    simpa [Addr.add_lit] using h1
theorem cut1a {w : World} {n b off : Nat} {rows : List (List Int)} (h : RdR w 3 (some ⟨b, off, none⟩) n rows) (hn : n = 1) : RdR w 3 (some ⟨b, off, none⟩) (n - 1) (rows.drop 1) := by
  have h1 := h.cut_ (k := 1) (cap := 1) (by omega) (by omega)
  rwa [if_pos rfl] at h1
theorem cut1b {w : World} {n b off : Nat} {rows : List (List Int)} (h : RdR w 3 (some ⟨b, off, none⟩) n rows) (hn : 0 < n) : RdR w 3 (some ⟨b, off + 3, none⟩) (n - 1) (rows.drop 1) := by
  have h1 := h.cut_ (k := 1) (cap := n + 1) (by omega) (by omega)
  rw [if_neg (by omega)] at h1
  simpa [Addr.add_lit] using h1
/-- The two boxes of a call: the kind and the damage. -/
theorem boxes53 (wo : World) (a0 a1 a2 a3 a4 x y z : Value) (t u : TypeId) :
    Below wo.heap.size wo ((wo.alloc (.cells #[a0, a1, a2, a3, a4] t)).alloc (.cells #[x, y, z] u)) ∧ ((wo.alloc (.cells #[a0, a1, a2, a3, a4] t)).alloc (.cells #[x, y, z] u)).heap.size = wo.heap.size + 1 + 1 ∧ Blk ((wo.alloc (.cells #[a0, a1, a2, a3, a4] t)).alloc (.cells #[x, y, z] u)) wo.heap.size t #[a0, a1, a2, a3, a4] ∧ Blk ((wo.alloc (.cells #[a0, a1, a2, a3, a4] t)).alloc (.cells #[x, y, z] u)) (wo.heap.size + 1) u #[x, y, z] := by
  refine ⟨((Below.refl _ _).alloc (Nat.le_refl _) _).alloc (by simp) _, by simp, (Blk.new _ _ _).alloc _, ?_⟩
  have h := Blk.new (wo.alloc (.cells #[a0, a1, a2, a3, a4] t)) u #[x, y, z]
  rwa [show (wo.alloc (.cells #[a0, a1, a2, a3, a4] t)).heap.size = wo.heap.size + 1 by simp] at h
/-- The state: the two boxes at p and p + 1; the list as it was. -/
def AD (wo wr : World) (y0 y1 y2 y3 y4 z0 z1 z2 : Int) : Prop :=
  Below wo.heap.size wo wr ∧ Blk wr wo.heap.size 85 #[.int .i64 y0, .int .i64 y1, .int .i64 y2, .int .i64 y3, .int .i64 y4] ∧ Blk wr (wo.heap.size + 1) 92 #[.int .i64 z0, .int .i64 z1, .int .i64 z2]
theorem AD.next {wo wr w' : World} {y0 y1 y2 y3 y4 z0 z1 z2 : Int} (h : AD wo wr y0 y1 y2 y3 y4 z0 z1 z2) (hb : Below wr.heap.size wr w') : AD wo w' y0 y1 y2 y3 y4 z0 z1 z2 :=
  ⟨Below.thenn h.1 hb h.1.size, h.2.1.below hb h.2.1.lt, h.2.2.below hb h.2.2.lt⟩
theorem AD.drew {wo wr : World} {y0 y1 y2 y3 y4 z0 z1 z2 : Int} (h : AD wo wr y0 y1 y2 y3 y4 z0 z1 z2) : AD wo wr.drew y0 y1 y2 y3 y4 z0 z1 z2 := ⟨h.1.drew, h.2.1.drew, h.2.2.drew⟩
theorem AD.cells {wo wr : World} {y0 y1 y2 y3 y4 z0 z1 z2 : Int} (h : AD wo wr y0 y1 y2 y3 y4 z0 z1 z2) : (wr.cell? ⟨wo.heap.size, 0, none⟩ = some (.int .i64 y0) ∧ wr.cell? ⟨wo.heap.size, 1, none⟩ = some (.int .i64 y1) ∧ wr.cell? ⟨wo.heap.size, 2, none⟩ = some (.int .i64 y2) ∧ wr.cell? ⟨wo.heap.size, 3, none⟩ = some (.int .i64 y3) ∧ wr.cell? ⟨wo.heap.size, 4, none⟩ = some (.int .i64 y4)) ∧ (wr.cell? ⟨wo.heap.size + 1, 0, none⟩ = some (.int .i64 z0) ∧ wr.cell? ⟨wo.heap.size + 1, 1, none⟩ = some (.int .i64 z1) ∧ wr.cell? ⟨wo.heap.size + 1, 2, none⟩ = some (.int .i64 z2)) :=
  ⟨h.2.1.cells5, by simpa using h.2.2.cell 0, by simpa using h.2.2.cell 1, by simpa using h.2.2.cell 2⟩
theorem AD.put {wo wr : World} {y0 y1 y2 y3 y4 z0 z1 z2 : Int} (h : AD wo wr y0 y1 y2 y3 y4 z0 z1 z2) (s : Int) : AD wo (wr.setCell ⟨wo.heap.size + 1, 2, none⟩ (.int .i64 s)) y0 y1 y2 y3 y4 z0 z1 s :=
  ⟨h.1.setCell (p := ⟨wo.heap.size + 1, 2, none⟩) (Nat.le_succ _) _, h.2.1.far (p := ⟨wo.heap.size + 1, 2, none⟩) (by simp) _, by simpa using h.2.2.set_ 2 (.int .i64 s)⟩
theorem RdR.ofBlkD {w : World} {q : Nat} {x0 x1 x2 : Int} (h : Blk w q 92 #[.int .i64 x0, .int .i64 x1, .int .i64 x2]) : RdR w 3 (some ⟨q, 0, none⟩) 1 [[x0, x1, x2]] := by
  refine ⟨?_, by simp [Even], rfl⟩
  have := Rd.of_block (n := 1) (size := 3) h rfl
  simpa using this
theorem OwR.lit0' (w : World) (B q : Nat) (e : TypeId) (F : Nat) (hB : B ≤ w.heap.size) (hq : q = w.heap.size) : OwR (w.alloc (.cells #[] e)).drew B e F (.slice (some ⟨q, 0, none⟩) 0 0) [] := by
  subst hq
  exact OwR.lit0 w B e F hB
set_option maxRecDepth 100000 in
set_option maxHeartbeats 8000000 in
theorem spec_AddDamage (y0 y1 y2 y3 y4 : Int) (b off n c : Nat) (rows : List (List Int)) (z0 z1 z2 : Int) (wo : World) (h : RdR wo 3 (some ⟨b, off, none⟩) n rows) (hm : n ≤ 1000) (hnc : n ≤ c) (hcm : c ≤ 9223372036854775807) :
    Calls Try.prog 157 #[.agg #[.int .i64 y0, .int .i64 y1, .int .i64 y2, .int .i64 y3, .int .i64 y4], .slice (some ⟨b, off, none⟩) n c, .agg #[.int .i64 z0, .int .i64 z1, .int .i64 z2]] wo (RetDs wo (n + 1)) := by
  obtain ⟨HW1, HW2, HW3, HW4⟩ := boxes53 wo (.int .i64 y0) (.int .i64 y1) (.int .i64 y2) (.int .i64 y3) (.int .i64 y4) (.int .i64 z0) (.int .i64 z1) (.int .i64 z2) 85 92
  have HAD : Hid (AD wo _ y0 y1 y2 y3 y4 z0 z1 z2) := Lib.hid ⟨HW1, HW3, HW4⟩
  clear HW1 HW3 HW4
  have hl := h.2.2
  have HH := Lib.hid h
  obtain ⟨G, hG⟩ : ∃ G, dmgs y0 y1 y2 y3 y4 rows = G := ⟨_, rfl⟩
  have CG := Lib.hid (fun (w' : World) (h' : RdR w' 3 (some ⟨b, off, none⟩) n rows) => hG ▸ spec_l3Good y0 y1 y2 y3 y4 (some ⟨b, off, none⟩) n c rows w' h' (by omega))
  have CF := Lib.hid (fun (A : Option Addr) (m c : Nat) (ys : List (List Int)) (w' : World) (h' : RdR w' 3 A m ys) (hm : m ≤ 1048577) => spec_l3Good y0 y1 y2 y3 y4 A m c ys w' h' hm)
  clear hG h
  obtain ⟨⟨a0, a1, a2, a3, a4⟩, b0, b1, b2⟩ := HAD.out.cells
  go_enter Try.func157, Try.ntmps157
  go_wp2_with fail
  generalize (wo.alloc (.cells #[.int .i64 y0, .int .i64 y1, .int .i64 y2, .int .i64 y3, .int .i64 y4] 85)).alloc (.cells #[.int .i64 z0, .int .i64 z1, .int .i64 z2] 92) = w at *
  go_at_call 140
  refine (CG.out w (HH.out.below HAD.out.1)).mono ?_
  rintro e w1 ⟨rfl, hb⟩
  have X1 := Lib.hid (HAD.out.next hb)
  clear HAD hb a0 a1 a2 a3 a4 b0 b1 b2
  obtain ⟨⟨a0, a1, a2, a3, a4⟩, b0, b1, b2⟩ := X1.out.cells
  have hz1 : wo.heap.size + 1 < w1.heap.size := X1.out.2.2.lt
  rcases G with _ | _
  · go_wp2_with fail
    go_ret2
    exact RetDs.mk (by omega) (OwR.lit0 _ _ _ _ (Nat.le_refl _)) (by omega) (X1.out.1.alloc (by omega) _)
  by_cases hz : z2 < 1
  · go_wp2_with fail
    go_ret2
    exact RetDs.mk (by omega) (OwR.lit0 _ _ _ _ (Nat.le_refl _)) (by omega) (X1.out.1.alloc (by omega) _)
  go_upto_block 0 with fail
  go_cut [8] (fun q8 wx => ∃ k : Nat, k ≤ n ∧ q8 = .int .i64 k ∧ Hid (AD wo wx y0 y1 y2 y3 y4 z0 z1 z2))
  case first =>
    as_aux_lemma =>
      clear a0 a1 a2 a3 a4 b0 b1 b2
      go_wp2_with fail
      go_loopg [8] n (fun gg i wr => ∃ k : Nat, k ≤ n ∧ n ≤ k + gg ∧ i = .int .i64 k ∧ Hid (AD wo wr y0 y1 y2 y3 y4 z0 z1 z2) ∧ wo.heap.size + 1 < wr.heap.size)
      case atStart => exact ⟨0, by omega, by omega, rfl, X1, hz1⟩
      case round =>
        obtain ⟨k, hk1, hk2, rfl, HX, hzr⟩ := hrel
        obtain ⟨w, hww⟩ : ∃ w, w = wr := ⟨_, rfl⟩
        subst hww
        obtain ⟨⟨a0, a1, a2, a3, a4⟩, b0, b1, b2⟩ := HX.out.cells
        by_cases hlt : k < n
        · obtain ⟨b', off', x0, x1, x2, e', hr, hblt, c0, c1, c2⟩ := HH.out.row3 hlt
          injection e' with e'
          injection e' with e1 e2
          subst e1 e2
          have hbw := Nat.lt_of_lt_of_le hblt HX.out.1.size
          rw [← HX.out.1.cell (p := ⟨b, _, none⟩) hblt] at c0 c1 c2
          by_cases q1 : x0 < z0
          · have q2 : decide (x0 < z0) = true := decide_eq_true q1
            clear q1 hr
            go_wp2_with fail
            (refine wp_region_ext (by kernel_rfl) (by kernel_rfl) ?_; have hxe := ext_cells; (repeat (go_big_quiet_step (fail))); refine wpQuiet_nil ?_; intro w' hw'; obtain ⟨nx, hw''⟩ := hw'; have hbx := ext_out hw''; clear hw'' nx hxe; have hB : Below w.heap.size w w' := Below.thenn (by repeat (first | exact Below.refl _ _ | assumption | apply Below.drew | apply below_drewN | (refine Below.alloc ?_ (by first | omega | (simp; done) | (simp; omega)) _) | (refine Below.setCell ?_ (by first | omega | (simp; done) | (simp; omega)) _))) hbx (by first | omega | (simp; done) | (simp; omega)); have hz : w.heap.size ≤ w'.heap.size := hB.size; obtain ⟨hc, hf⟩ := bcell hbx; clear hbx)
            go_wp2_with fail
            go_roundg (n - (k + 1))
            case measure => omega
            case rel => exact ⟨k + 1, by omega, by omega, by go_num, Lib.hid (HX.out.next hB), by omega⟩
          · have q2 : decide (x0 < z0) = false := decide_eq_false q1
            by_cases q3 : x0 = z0
            · have q4 : (x0 == z0) = true := by simpa using q3
              by_cases q5 : x1 < z1
              · have q6 : decide (x1 < z1) = true := decide_eq_true q5
                clear q1 q3 q5 hr
                go_wp2_with fail
                (refine wp_region_ext (by kernel_rfl) (by kernel_rfl) ?_; have hxe := ext_cells; (repeat (go_big_quiet_step (fail))); refine wpQuiet_nil ?_; intro w' hw'; obtain ⟨nx, hw''⟩ := hw'; have hbx := ext_out hw''; clear hw'' nx hxe; have hB : Below w.heap.size w w' := Below.thenn (by repeat (first | exact Below.refl _ _ | assumption | apply Below.drew | apply below_drewN | (refine Below.alloc ?_ (by first | omega | (simp; done) | (simp; omega)) _) | (refine Below.setCell ?_ (by first | omega | (simp; done) | (simp; omega)) _))) hbx (by first | omega | (simp; done) | (simp; omega)); have hz : w.heap.size ≤ w'.heap.size := hB.size; obtain ⟨hc, hf⟩ := bcell hbx; clear hbx)
                go_wp2_with fail
                go_roundg (n - (k + 1))
                case measure => omega
                case rel => exact ⟨k + 1, by omega, by omega, by go_num, Lib.hid (HX.out.next hB), by omega⟩
              · have q6 : decide (x1 < z1) = false := decide_eq_false q5
                clear q1 q3 q5 hr
                go_wp2_with fail
                (refine wp_region_ext (by kernel_rfl) (by kernel_rfl) ?_; have hxe := ext_cells; (repeat (go_big_quiet_step (fail))); refine wpQuiet_nil ?_; intro w' hw'; obtain ⟨nx, hw''⟩ := hw'; have hbx := ext_out hw''; clear hw'' nx hxe; have hB : Below w.heap.size w w' := Below.thenn (by repeat (first | exact Below.refl _ _ | assumption | apply Below.drew | apply below_drewN | (refine Below.alloc ?_ (by first | omega | (simp; done) | (simp; omega)) _) | (refine Below.setCell ?_ (by first | omega | (simp; done) | (simp; omega)) _))) hbx (by first | omega | (simp; done) | (simp; omega)); have hz : w.heap.size ≤ w'.heap.size := hB.size; obtain ⟨hc, hf⟩ := bcell hbx; clear hbx)
                go_wp2_with fail
                go_meet
                exact ⟨k, by omega, rfl, Lib.hid (HX.out.next hB)⟩
            · have q4 : (x0 == z0) = false := by simpa using q3
              clear q1 q3 hr
              go_wp2_with fail
              (refine wp_region_ext (by kernel_rfl) (by kernel_rfl) ?_; have hxe := ext_cells; (repeat (go_big_quiet_step (fail))); refine wpQuiet_nil ?_; intro w' hw'; obtain ⟨nx, hw''⟩ := hw'; have hbx := ext_out hw''; clear hw'' nx hxe; have hB : Below w.heap.size w w' := Below.thenn (by repeat (first | exact Below.refl _ _ | assumption | apply Below.drew | apply below_drewN | (refine Below.alloc ?_ (by first | omega | (simp; done) | (simp; omega)) _) | (refine Below.setCell ?_ (by first | omega | (simp; done) | (simp; omega)) _))) hbx (by first | omega | (simp; done) | (simp; omega)); have hz : w.heap.size ≤ w'.heap.size := hB.size; obtain ⟨hc, hf⟩ := bcell hbx; clear hbx)
              go_wp2_with fail
              go_meet
              exact ⟨k, by omega, rfl, Lib.hid (HX.out.next hB)⟩
        · have q0 : decide ((k : Int) < (n : Int)) = false := by simp; omega
          go_wp2_with fail
          (refine wp_region_ext (by kernel_rfl) (by kernel_rfl) ?_; have hxe := ext_cells; (repeat (go_big_quiet_step (fail))); refine wpQuiet_nil ?_; intro w' hw'; obtain ⟨nx, hw''⟩ := hw'; have hbx := ext_out hw''; clear hw'' nx hxe; have hB : Below w.heap.size w w' := Below.thenn (by repeat (first | exact Below.refl _ _ | assumption | apply Below.drew | apply below_drewN | (refine Below.alloc ?_ (by first | omega | (simp; done) | (simp; omega)) _) | (refine Below.setCell ?_ (by first | omega | (simp; done) | (simp; omega)) _))) hbx (by first | omega | (simp; done) | (simp; omega)); have hz : w.heap.size ≤ w'.heap.size := hB.size; obtain ⟨hc, hf⟩ := bcell hbx; clear hbx)
          go_wp2_with fail
          go_meet
          exact ⟨k, by omega, rfl, Lib.hid (HX.out.next hB)⟩
  case rest =>
    obtain ⟨k, hk, rfl, HX⟩ := hcut
    clear X1 hz1 a0 a1 a2 a3 a4 b0 b1 b2
    obtain ⟨w, hww⟩ : ∃ w, w = wc := ⟨_, rfl⟩
    subst hww
    obtain ⟨⟨a0, a1, a2, a3, a4⟩, b0, b1, b2⟩ := HX.out.cells
    have hz1 : wo.heap.size + 1 < w.heap.size := HX.out.2.2.lt
    obtain ⟨b2_, off2, hA2, hd⟩ := cutD_addr (c := c) HH.out (k := k) hk hnc
    have g0 : (0 : Int) ≤ (k : Int) := by omega
    have g1 : (k : Int) ≤ (n : Int) := by omega
    have g2 : (k : Int) ≤ (c : Int) := by omega
    have g3 : (n : Int) ≤ (c : Int) := by omega
    have HD := Lib.hid hd
    have HA2 := Lib.hid hA2
    clear hd hA2
    go_upto_region 7 with fail
    rw [HA2.out]
    generalize hmm : n - k = m
    have HD2 : Hid (RdR wo 3 (some ⟨b2_, off2, none⟩) m (rows.drop k)) := Lib.hid (hmm ▸ HD.out)
    have hmc : m ≤ c - k := by omega
    clear HD HA2
    generalize hcc : c - k = c2_
    rw [hcc] at hmc
    generalize rows.drop k = rs at *
    go_cut [80] (fun q80 wx => ∃ t, q80 = .bool t ∧ Hid (t = true → 0 < m) ∧ Hid (AD wo wx y0 y1 y2 y3 y4 z0 z1 z2))
    case first =>
      as_aux_lemma =>
        by_cases hlt : 0 < m
        · obtain ⟨b', off', x0, x1, x2, e', hr, hblt, c0, c1, c2⟩ := HD2.out.row3 hlt
          injection e' with e'
          injection e' with e1 e2
          subst e1 e2
          have hbw := Nat.lt_of_lt_of_le hblt HX.out.1.size
          rw [← HX.out.1.cell (p := ⟨b2_, _, none⟩) hblt] at c0 c1 c2
          have q0 : decide ((0 : Int) < (m : Int)) = true := by simp; omega
          simp only [Nat.zero_mul, Nat.add_zero, Nat.zero_add] at c0 c1 c2
          rcases q1 : (x0 == z0) with _ | _ <;> rcases q2 : (x1 == z1) with _ | _
          all_goals clear hr
          all_goals (refine wp_region_ext (by kernel_rfl) (by kernel_rfl) ?_; have hxe := ext_cells; (repeat (go_big_quiet_step (fail))); refine wpQuiet_nil ?_; intro w' hw'; obtain ⟨nx, hw''⟩ := hw'; have hbx := ext_out hw''; clear hw'' nx hxe; have hB : Below w.heap.size w w' := Below.thenn (by repeat (first | exact Below.refl _ _ | assumption | apply Below.drew | apply below_drewN | (refine Below.alloc ?_ (by first | omega | (simp; done) | (simp; omega)) _) | (refine Below.setCell ?_ (by first | omega | (simp; done) | (simp; omega)) _))) hbx (by first | omega | (simp; done) | (simp; omega)); have hz : w.heap.size ≤ w'.heap.size := hB.size; obtain ⟨hc, hf⟩ := bcell hbx; clear hbx)
          all_goals go_wp2_with fail
          all_goals go_meet
          all_goals exact ⟨_, rfl, Lib.hid (fun _ => hlt), Lib.hid (HX.out.next hB)⟩
        · have q0 : decide ((0 : Int) < (m : Int)) = false := by simp; omega
          (refine wp_region_ext (by kernel_rfl) (by kernel_rfl) ?_; have hxe := ext_cells; (repeat (go_big_quiet_step (fail))); refine wpQuiet_nil ?_; intro w' hw'; obtain ⟨nx, hw''⟩ := hw'; have hbx := ext_out hw''; clear hw'' nx hxe; have hB : Below w.heap.size w w' := Below.thenn (by repeat (first | exact Below.refl _ _ | assumption | apply Below.drew | apply below_drewN | (refine Below.alloc ?_ (by first | omega | (simp; done) | (simp; omega)) _) | (refine Below.setCell ?_ (by first | omega | (simp; done) | (simp; omega)) _))) hbx (by first | omega | (simp; done) | (simp; omega)); have hz : w.heap.size ≤ w'.heap.size := hB.size; obtain ⟨hc, hf⟩ := bcell hbx; clear hbx)
          go_wp2_with fail
          go_meet
          exact ⟨_, rfl, Lib.hid (fun h => by simp at h), Lib.hid (HX.out.next hB)⟩
    case rest =>
      obtain ⟨t, rfl, ht0, HX2⟩ := hcut
      clear HX hz1 a0 a1 a2 a3 a4 b0 b1 b2
      go_upto_if 80 with fail
      go_cut [9] (fun q9 wx => ∃ b3 off3 m3 c3 ys, ∃ s : Int, q9 = .slice (some ⟨b3, off3, none⟩) m3 c3 ∧ k + m3 ≤ n ∧ Hid (RdR wo 3 (some ⟨b3, off3, none⟩) m3 ys) ∧ Hid (AD wo wx y0 y1 y2 y3 y4 z0 z1 s))
      case first =>
        as_aux_lemma =>
          rcases t with _ | _
          · go_wp2_with fail
            go_meet
            exact ⟨_, _, _, _, _, _, rfl, by omega, HD2, HX2⟩
          · have hlt := ht0.out rfl
            obtain ⟨w, hww⟩ : ∃ w, w = wc := ⟨_, rfl⟩
            subst hww
            obtain ⟨b', off', x0, x1, x2, e', hr, hblt, c0, c1, c2⟩ := HD2.out.row3 hlt
            injection e' with e'
            injection e' with e1 e2
            subst e1 e2
            have hbw := Nat.lt_of_lt_of_le hblt HX2.out.1.size
            rw [← HX2.out.1.cell (p := ⟨b2_, _, none⟩) hblt] at c0 c1 c2
            obtain ⟨_, b0, b1, b2⟩ := HX2.out.cells
            have f2 := HX2.out.2.2.frozen 2
            have hz1 : wo.heap.size + 1 < w.heap.size := HX2.out.2.2.lt
            obtain ⟨s, hs⟩ : ∃ s, IntKind.i64.wrap (z2 + x2) = s := ⟨_, rfl⟩
            have HX3 := Lib.hid (HX2.out.put s)
            clear hr
            go_upto_region 8 with fail
            go_region
            go_wp2_with fail
            all_goals go_meet
            · exact ⟨_, _, _, _, _, s, rfl, by omega, Lib.hid (cut1a HD2.out (by omega)), Lib.hid HX3.out.drew⟩
            · exact ⟨_, _, _, _, _, s, rfl, by omega, Lib.hid (cut1b HD2.out hlt), Lib.hid HX3.out.drew⟩
      case rest =>
        obtain ⟨b3, off3, m3, c3, ys, s, rfl, hkm, HY, HX⟩ := hcut
        obtain ⟨w, hww⟩ : ∃ w, w = wc := ⟨_, rfl⟩
        subst hww
        obtain ⟨⟨a0, a1, a2, a3, a4⟩, b0, b1, b2⟩ := HX.out.cells
        have hz1 : wo.heap.size + 1 < w.heap.size := HX.out.2.2.lt
        have hy := HY.out.below HX.out.1
        have ht := (HH.out.take_ hk).below HX.out.1
        clear HX2 ht0 HD2
        go_upto_region 10 with fail
        go_cut [10] (fun q10 wx => ∃ A3 c4, ∃ us : List (List Int), q10 = .slice A3 (k + 1 + m3) c4 ∧ Hid (OwR wx w.heap.size 92 3 (.slice A3 (k + 1 + m3) c4) us) ∧ Hid (Below w.heap.size w wx))
        case first =>
          as_aux_lemma =>
            have b1_ : Below w.heap.size w (w.alloc (.cells #[] 92)).drew := ((Below.refl _ _).alloc (Nat.le_refl _) _).drew
            have b2_ : Below w.heap.size w ((w.alloc (.cells #[] 92)).alloc (.cells #[.int .i64 z0, .int .i64 z1, .int .i64 s] 92)).drew := (((Below.refl _ _).alloc (Nat.le_refl _) _).alloc (by simp) _).drew
            have b3_ : Below w.heap.size w ((w.alloc (.cells #[.int .i64 z0, .int .i64 z1, .int .i64 s] 92)).alloc (.cells #[] 92)).drew := (((Below.refl _ _).alloc (Nat.le_refl _) _).alloc (by simp) _).drew
            have o1 : OwR (w.alloc (.cells #[] 92)).drew w.heap.size 92 3 (.slice (some ⟨w.heap.size, 0, none⟩) 0 0) [] := OwR.lit0 w w.heap.size _ _ (Nat.le_refl _)
            have o2 : OwR ((w.alloc (.cells #[] 92)).alloc (.cells #[.int .i64 z0, .int .i64 z1, .int .i64 s] 92)).drew w.heap.size 92 3 (.slice (some ⟨w.heap.size, 0, none⟩) 0 0) [] := (OwR.lit0 w w.heap.size _ _ (Nat.le_refl _)).alloc _
            have o3 : OwR ((w.alloc (.cells #[.int .i64 z0, .int .i64 z1, .int .i64 s] 92)).alloc (.cells #[] 92)).drew w.heap.size 92 3 (.slice (some ⟨w.heap.size + 1, 0, none⟩) 0 0) [] := OwR.lit0' (w.alloc (.cells #[.int .i64 z0, .int .i64 z1, .int .i64 s] 92)) w.heap.size (w.heap.size + 1) _ _ (by simp) (by simp)
            have l2 : Blk ((w.alloc (.cells #[] 92)).alloc (.cells #[.int .i64 z0, .int .i64 z1, .int .i64 s] 92)).drew (w.heap.size + 1) 92 #[.int .i64 z0, .int .i64 z1, .int .i64 s] := Blk.drew' (Blk.newE (by simp))
            have l3 : Blk ((w.alloc (.cells #[.int .i64 z0, .int .i64 z1, .int .i64 s] 92)).alloc (.cells #[] 92)).drew w.heap.size 92 #[.int .i64 z0, .int .i64 z1, .int .i64 s] := Blk.drew' ((Blk.newE rfl).alloc _)
            have n2 : some (w.heap.size + 1) ≠ (Value.slice (some ⟨w.heap.size, 0, none⟩) 0 0).ownBlock := by intro hj; simp [Value.ownBlock] at hj
            have n3 : some w.heap.size ≠ (Value.slice (some ⟨w.heap.size + 1, 0, none⟩) 0 0).ownBlock := by intro hj; simp [Value.ownBlock] at hj
            have e1 : ([] : List (List Int)) ++ rows.take k = rows.take k := rfl
            have m1 : (rows.take k).length = k := by rw [List.length_take]; omega
            have m2 : (rows.take k ++ [[z0, z1, s]]).length = k + 1 := by rw [List.length_append, m1]; rfl
            have m3_ : (rows.take k ++ [[z0, z1, s]] ++ ys).length = k + 1 + m3 := by rw [List.length_append, m2, HY.out.2.2]
            have s1 : k < 1099511627776 := by omega
            have s2 : k + 1 < 1099511627776 := by omega
            have s3 : k + 1 + m3 < 1099511627776 := by omega
            have g0 : (0 : Int) ≤ (k : Int) := by omega
            have g2 : (k : Int) ≤ (c : Int) := by omega
            go_region_law (first | (refine step_app_DamageH (by rfl) (.tmp 91) (.tmp 94) (by rfl) (w.alloc (.cells #[] 92)).drew w.heap.size _ [] rfl o1 _ _ _ (rows.take k) (rows.take k) k e1 m1 rfl (ht.below b1_) s1 b1_.size ?_; intro A1 c1 w1 ho1 hg1 hb1; have HO1 := Lib.hid ho1; have HB1 := Lib.hid (b1_.trans hb1); have k0 := (HB1.out.cell (p := ⟨wo.heap.size + 1, 0, none⟩) hz1).trans b0; have k1 := (HB1.out.cell (p := ⟨wo.heap.size + 1, 1, none⟩) hz1).trans b1; have k2 := (HB1.out.cell (p := ⟨wo.heap.size + 1, 2, none⟩) hz1).trans b2; have hzw1 : wo.heap.size + 1 < w1.heap.size := Nat.lt_of_lt_of_le hz1 HB1.out.size; clear ho1 hg1 hb1) | (refine step_app_DamageH (by rfl) (.tmp 91) (.tmp 94) (by rfl) ((w.alloc (.cells #[] 92)).alloc (.cells #[.int .i64 z0, .int .i64 z1, .int .i64 s] 92)).drew w.heap.size _ [] rfl o2 _ _ _ (rows.take k) (rows.take k) k e1 m1 rfl (ht.below b2_) s1 b2_.size ?_; intro A1 c1 w1 ho1 hg1 hb1; have HO1 := Lib.hid ho1; have HB1 := Lib.hid (b2_.trans hb1); have HP := Lib.hid (l2.grown hg1 n2); have k0 := (HB1.out.cell (p := ⟨wo.heap.size + 1, 0, none⟩) hz1).trans b0; have k1 := (HB1.out.cell (p := ⟨wo.heap.size + 1, 1, none⟩) hz1).trans b1; have k2 := (HB1.out.cell (p := ⟨wo.heap.size + 1, 2, none⟩) hz1).trans b2; have hzw1 : wo.heap.size + 1 < w1.heap.size := Nat.lt_of_lt_of_le hz1 HB1.out.size; clear ho1 hg1 hb1) | (refine step_app_DamageH (by rfl) (.tmp 91) (.tmp 94) (by rfl) ((w.alloc (.cells #[.int .i64 z0, .int .i64 z1, .int .i64 s] 92)).alloc (.cells #[] 92)).drew w.heap.size _ [] rfl o3 _ _ _ (rows.take k) (rows.take k) k e1 m1 rfl (ht.below b3_) s1 b3_.size ?_; intro A1 c1 w1 ho1 hg1 hb1; have HO1 := Lib.hid ho1; have HB1 := Lib.hid (b3_.trans hb1); have HP := Lib.hid (l3.grown hg1 n3); have k0 := (HB1.out.cell (p := ⟨wo.heap.size + 1, 0, none⟩) hz1).trans b0; have k1 := (HB1.out.cell (p := ⟨wo.heap.size + 1, 1, none⟩) hz1).trans b1; have k2 := (HB1.out.cell (p := ⟨wo.heap.size + 1, 2, none⟩) hz1).trans b2; have hzw1 : wo.heap.size + 1 < w1.heap.size := Nat.lt_of_lt_of_le hz1 HB1.out.size; clear ho1 hg1 hb1) | (have HB := Lib.hid (HB1.out.alloc (HB1.out.size) (.cells #[.int .i64 z0, .int .i64 z1, .int .i64 s] 92)); refine step_app_DamageH (by rfl) (.tmp 95) (.tmp 97) (by rfl) (w1.alloc (.cells #[.int .i64 z0, .int .i64 z1, .int .i64 s] 92)) w.heap.size _ (rows.take k) rfl (HO1.out.alloc _) _ _ _ [[z0, z1, s]] (rows.take k ++ [[z0, z1, s]]) (k + 1) rfl m2 rfl (RdR.one_Damage z0 z1 s w1) s2 HB.out.size ?_; intro A2 c2 w2 ho2 hg2 hb2; have HO2 := Lib.hid ho2; have HB2 := Lib.hid (HB.out.trans hb2); clear ho2 hg2 hb2) | (have HB := HB1; refine step_app_DamageH (by rfl) (.tmp 95) (.tmp 97) (by rfl) w1 w.heap.size _ (rows.take k) rfl HO1.out _ _ _ [[z0, z1, s]] (rows.take k ++ [[z0, z1, s]]) (k + 1) rfl m2 rfl (RdR.ofBlkD HP.out) s2 HB1.out.size ?_; intro A2 c2 w2 ho2 hg2 hb2; have HO2 := Lib.hid ho2; have HB2 := Lib.hid (HB.out.trans hb2); clear ho2 hg2 hb2) | (refine step_app_DamageH (by rfl) (.tmp 98) (.tmp 99) (by rfl) w2 w.heap.size _ (rows.take k ++ [[z0, z1, s]]) rfl HO2.out _ _ _ ys (rows.take k ++ [[z0, z1, s]] ++ ys) (k + 1 + m3) rfl m3_ rfl (hy.below HB2.out) s3 HB2.out.size ?_; intro A3 c3 w3 ho3 hg3 hb3; have HO3 := Lib.hid ho3; have HB3 := Lib.hid (HB2.out.trans hb3); clear ho3 hg3 hb3))
            all_goals go_wp2_with fail
            all_goals go_meet
            all_goals exact ⟨_, _, _, rfl, HO3, HB3⟩
        case rest =>
          obtain ⟨A3, c4, us, rfl, HO, HB⟩ := hcut
          obtain ⟨b4, off4, rfl⟩ := HO.out.rdR.some_ (by have := OwR.len_ HO.out; omega)
          have hul := OwR.len_ HO.out
          have hru : RdR wc 3 (some ⟨b4, off4, none⟩) (k + 1 + m3) us := by have := HO.out.rdR; rwa [hul] at this
          have HX4 := Lib.hid (HX.out.next HB.out)
          clear a0 a1 a2 a3 a4 b0 b1 b2 hy ht
          obtain ⟨⟨a0, a1, a2, a3, a4⟩, _, _, _⟩ := HX4.out.cells
          have hz4 : wo.heap.size + 1 < wc.heap.size := HX4.out.2.2.lt
          have hwoz : wo.heap.size ≤ w.heap.size := HX.out.1.size
          go_wp2_with fail
          go_at_call 140
          refine (CF.out _ _ _ us wc hru (by omega)).mono ?_
          rintro e w5 ⟨rfl, hb5⟩
          have HX5 := Lib.hid (HX4.out.next hb5)
          have HO5 := Lib.hid (HO.out.below hb5)
          have hz5 : wo.heap.size + 1 < w5.heap.size := HX5.out.2.2.lt
          generalize dmgs y0 y1 y2 y3 y4 us = D
          rcases D with _ | _
          · go_wp2_with fail
            go_ret2
            exact RetDs.mk (by omega) (OwR.lit0 _ _ _ _ (Nat.le_refl _)) (by omega) (HX5.out.1.alloc (by omega) _)
          · go_wp2_with fail
            go_ret2
            exact RetDs.mk (by omega) HO5.out hwoz HX5.out.1
end Go.Proofs.Ytjfmicemnoglkaa
